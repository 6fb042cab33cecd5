/- Proved: sordinelaw13.ReapPlays returns true, whatever it is handed. Conditions: none. -/
import Derived.Test.YtmgnlkefhmhkhaaRows
import Derived.Test.YtmgnlkefhmhkhaaCh2
import Derived.WalkKit
import Derived.ProofKit
import Derived.OpenShut
import Derived.ShutString
import Derived.ChangeOld
import Derived.Below
import Derived.SizedLaws
namespace Go.Proofs.Ytmgnlkefhmhkhaa.reapPlays
open Go.ChangeShapes Go.WideShapes Go.ChangeAt Go.RowKit
open Go.ChangeMaps (open_string shut_string)
open Go.Proofs.Ytmgnlkefhmhkhaa.AM
set_option linter.unusedVariables false
set_option linter.unusedSimpArgs false
theorem hmix : Try.prog.follows .mixedOrders = true := Try.checked.mixed
theorem stepGood {H : Type} {enc : TypeId × Value → H} {W : World} : ∀ fuel cs y, DataW.trod enc Try.prog W 0 (fun _ => true) true fuel 40 cs = some y → cs.length = 3 → GoodStep3 cs ∧ ∀ x ∈ cs, flat x = true := by
  intro fuel cs y h hl
  have hc : Try.prog.cellsOf 5 = 1 := by kernel_rfl
  have hc2 : Try.prog.cellsOf 3 = 1 := by kernel_rfl
  have hc3 : Try.prog.cellsOf 25 = 1 := by kernel_rfl
  obtain ⟨y0, y1, y2, n, _, _, h0, h1, h2⟩ := Go.Deep.trod_struct3 Try.underlying40 h
  match cs, hl with
  | [u, v, w], _ =>
    simp only [hc, hc2, hc3, List.drop_zero, List.drop_succ_cons, List.take_succ_cons, List.take_zero] at h0 h1 h2
    obtain ⟨r0, e0, _, z0⟩ := DataW.trod_int Try.underlying5 h0
    obtain ⟨r1, e1, _, z1⟩ := DataW.trod_int Try.underlying3 h1
    obtain ⟨r2, e2, _, z2⟩ := DataW.trod_int Try.underlying25 h2
    injection e0 with e0
    injection e1 with e1
    injection e2 with e2
    subst e0 e1 e2
    refine ⟨⟨r0, r1, r2, rfl, ZP.of_wf z2, ZP.of_wf z1⟩, fun x hx => ?_⟩
    simp at hx
    rcases hx with rfl | rfl | rfl <;> rfl
theorem walk (W : World) (a0 : Option Addr) (len0 cap0 : Nat) (a1 : Int)
    (w0 : ∃ L : List (List Value), HArg W a0 len0 cap0 L.flatten ∧ L.length = cap0 ∧ len0 ≤ cap0 ∧ cap0 ≤ 9223372036854775807 ∧ ∀ c ∈ L, c.length = 3 ∧ GoodStep3 c)
    (w1 : (Lit.int .i64 a1).wf = true) :
    Calls Try.prog 4 #[.slice a0 len0 cap0, .int .i64 a1] W (fun e W' => e = .returned (.bool true) ∧ Below W.heap.size W W') := by
  obtain ⟨L, A1, c1, l1, m1, p1⟩ := w0
  obtain ⟨o1, s1, v1⟩ := Stands.nil.arg 3 A1
  obtain ⟨hS, hf⟩ := steps3_of (len := len0) (by omega) p1
  have main := law1329z hmix _ hf len0 hS a1 (ZP.of_wf w1) (some 2) cap0
  exact main.entry rfl s1 (.cons v1 (.cons (flat_refl rfl) (VRs.nil _)))

theorem own : ownKnob Try.prog.godebug = none := by kernel_rfl
theorem laidOut : laidOutB Try.prog = true := by kernel_rfl
set_option maxRecDepth 100000 in
theorem lifted (os : Os) (started : os.Started) (H : Type) (enc : TypeId × Value → H) :
    ReturnsInHanded {} Try.checked os 4 .any (Rows.reapPlaysSpec.pre6 enc Try.prog Try.f4 Rows.reapPlaysRow.domain false) (Rows.reapPlaysSpec.post enc Try.prog Try.f4 false true false false) := by
  refine returnsInHanded_of_change_sized (C := Try.checked) own started (by kernel_rfl) Try.func4
    (ChangeSpec.witness6 (enc := enc) (C := Try.checked) false ⟨#[], #[.slice none 0 0, .int .i64 0], []⟩ 8 (by kernel_rfl) (by kernel_rfl) (by kernel_rfl) (by kernel_rfl)) ?_
  intro W base args ds gs before hval0 hW hcnd hsz0 _
  have hsz : (DataW.weightsEach Try.prog (Try.f4.params.toList ++ Rows.reapPlaysSpec.plain.varTypes Try.prog) (ds ++ gs)).all (· ≤ reachBytes) = true := hsz0
  have hval : ∀ (j : Nat) t v, Try.f4.params[j]? = some t → args[j]? = some v → Value.okWide Try.prog W .any base t v := hval0
  have hW' := hW
  obtain ⟨p, q, hA0, hV, rfl, hfz, hnd⟩ := hW
  have hA : DataW.TrodAll enc Try.prog W 0 (fun _ => true) true Try.f4.params.toList args.toList ds p := hA0
  rw [Try.params4] at hA hval hsz
  obtain ⟨v0, vs0, d0, ds0, p0, q0, hargs, rfl, rfl, h0, r0⟩ := trodAll_cons hA
  obtain ⟨v1, vs1, d1, ds1, p1, q1, rfl, rfl, rfl, h1, r1⟩ := trodAll_cons r0
  obtain ⟨rfl, rfl, rfl⟩ := trodAll_nil r1
  obtain rfl : args = #[v0, v1] := by cases args; simp_all
  obtain ⟨rfl, rfl⟩ := trodVars_none hV
  have o0 := (hval 0 33 v0 rfl rfl)
  obtain ⟨a0, len0, cap0, rfl⟩ := okWide_slice Try.underlying33 o0
  have k0 := h0
  have lt0 : ∀ x ∈ p0, x.block < W.heap.size := by obtain ⟨m, hm⟩ := k0; exact DataW.trod_lt m _ _ _ hm
  have w0 := arg_elems (n := 3) GoodStep3 Try.underlying33 (by decide) (by kernel_rfl) stepGood o0 h0
  obtain ⟨a1, rfl, rfl, rfl, w1⟩ := open_int Try.underlying3 (hval 1 3 v1 rfl rfl) h1
  clear hA0 hval0 hsz0 hsz
  refine (walk W a0 len0 cap0 a1 w0 w1).mono fun e W' ⟨he, bel⟩ => ?_
  subst he
  exact ⟨_, rfl, _, _, _, [], _, [], hW', trodAll_mk1 (shut_bool Try.underlying4 _), (trodAll_cons_mk (Below.trod laidOut (by kernel_rfl) (of_decide_eq_true (by kernel_rfl)) k0 bel lt0) (trodAll_cons_mk (shut_int Try.underlying3 w1) trodAll_mk0)), rfl, bel.frame _, fun h => by cases h⟩
theorem over : Rows.reapPlaysRow.holds Try.pinned (OpenSpec.ofChange Rows.reapPlaysSpec) :=
  OpenClaim.holds_of_wide 4 Try.f4 rfl rfl rfl rfl rfl rfl rfl ⟨rfl, rfl, rfl, rfl, rfl⟩ rfl rfl rfl rfl rfl (by kernel_rfl) Try.func4 (by kernel_rfl)
    (of_decide_eq_true (by kernel_rfl)) (by unfold Func.isWrapper; first | (rw [if_pos (by decide +kernel)]; kernel_rfl) | (rw [if_neg (by decide +kernel)]; exact ⟨rfl, rfl⟩))
    (fun os started H enc _ => lifted os started H enc)
end Go.Proofs.Ytmgnlkefhmhkhaa.reapPlays
namespace Go.Proofs.Ytmgnlkefhmhkhaa
theorem reapPlays_holds : Rows.ReapPlaysSaid := reapPlays.over
#print axioms reapPlays_holds
end Go.Proofs.Ytmgnlkefhmhkhaa
