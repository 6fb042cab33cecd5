/- Proved: sordinelaw19.TokenOne returns true, whatever it is handed. Conditions: none. -/
import Derived.Test.YtabbkoegaoekkaaRows
import Derived.Test.YtabbkoegaoekkaaCh3
import Derived.WalkKit
import Derived.ProofKit
import Derived.OpenShut
import Derived.ShutString
import Derived.ChangeOld
import Derived.Below
import Derived.SizedLaws
import Derived.Lib.SmallJoins
namespace Go.Proofs.Ytabbkoegaoekkaa.tokenOne
open Go.ChangeShapes Go.WideShapes Go.ChangeAt Go.RowKit
open Go.ChangeMaps (open_string shut_string)
open Go.Proofs.Ytabbkoegaoekkaa.AM
set_option linter.unusedVariables false
set_option linter.unusedSimpArgs false
theorem hmix : Try.prog.follows .mixedOrders = true := Try.checked.mixed
theorem stepGood {H : Type} {enc : TypeId × Value → H} {W : World} : ∀ fuel cs y, DataW.trod enc Try.prog W 0 (fun _ => true) true fuel 34 cs = some y → cs.length = 4 → GoodStep4 cs ∧ ∀ x ∈ cs, flat x = true := by
  intro fuel cs y h hl
  have hc : Try.prog.cellsOf 5 = 1 := by kernel_rfl
  have hc2 : Try.prog.cellsOf 3 = 1 := by kernel_rfl
  have hc3 : Try.prog.cellsOf 9 = 1 := by kernel_rfl
  obtain ⟨y0, y1, y2, y3, n, _, _, h0, h1, h2, h3⟩ := Go.Joins.trod_struct4 Try.underlying34 h
  match cs, hl with
  | [u, v, w, z], _ =>
    simp only [hc, hc2, hc3, List.drop_zero, List.drop_succ_cons, List.take_succ_cons, List.take_zero] at h0 h1 h2 h3
    obtain ⟨r0, e0, _, z0⟩ := DataW.trod_int Try.underlying5 h0
    obtain ⟨r1, e1, _, z1⟩ := DataW.trod_int Try.underlying3 h1
    obtain ⟨r2, e2, _, z2⟩ := DataW.trod_int Try.underlying3 h2
    obtain ⟨s, e3, _⟩ := DataW.trod_string Try.underlying9 h3
    injection e0 with e0
    injection e1 with e1
    injection e2 with e2
    injection e3 with e3
    subst e0 e1 e2 e3
    refine ⟨⟨r0, r1, r2, s, rfl, ZP.of_wf z1⟩, fun x hx => ?_⟩
    simp at hx
    rcases hx with rfl | rfl | rfl | rfl <;> rfl
theorem walk (W : World) (a0 : Int) (a1 : Option Addr) (len1 cap1 : Nat)
    (w0 : (Lit.int .i64 a0).wf = true)
    (w1 : ∃ L : List (List Value), HArg W a1 len1 cap1 L.flatten ∧ L.length = cap1 ∧ len1 ≤ cap1 ∧ cap1 ≤ 9223372036854775807 ∧ ∀ c ∈ L, c.length = 4 ∧ GoodStep4 c) :
    Calls Try.prog 5 #[.int .i64 a0, .slice a1 len1 cap1] W (fun e W' => e = .returned (.bool true) ∧ Below W.heap.size W W') := by
  obtain ⟨L, A1, c1, l1, m1, p1⟩ := w1
  obtain ⟨o1, s1, v1⟩ := Stands.nil.arg 4 A1
  obtain ⟨hS, hf⟩ := steps4_of (len := len1) (by omega) p1
  have main := law1946 hmix _ hf len1 hS a0 (some 2) cap1
  exact main.entry rfl s1 (.cons (flat_refl rfl) (.cons v1 (VRs.nil _)))

theorem own : ownKnob Try.prog.godebug = none := by kernel_rfl
theorem laidOut : laidOutB Try.prog = true := by kernel_rfl
set_option maxRecDepth 100000 in
theorem lifted (os : Os) (started : os.Started) (H : Type) (enc : TypeId × Value → H) :
    ReturnsInHanded {} Try.checked os 5 .any (Rows.tokenOneSpec.pre6 enc Try.prog Try.f5 Rows.tokenOneRow.domain false) (Rows.tokenOneSpec.post enc Try.prog Try.f5 false true false false) := by
  refine returnsInHanded_of_change_sized (C := Try.checked) own started (by kernel_rfl) Try.func5
    (ChangeSpec.witness6 (enc := enc) (C := Try.checked) false ⟨#[], #[.int .i64 0, .slice none 0 0], []⟩ 8 (by kernel_rfl) (by kernel_rfl) (by kernel_rfl) (by kernel_rfl)) ?_
  intro W base args ds gs before hval0 hW hcnd hsz0 _
  have hsz : (DataW.weightsEach Try.prog (Try.f5.params.toList ++ Rows.tokenOneSpec.plain.varTypes Try.prog) (ds ++ gs)).all (· ≤ reachBytes) = true := hsz0
  have hval : ∀ (j : Nat) t v, Try.f5.params[j]? = some t → args[j]? = some v → Value.okWide Try.prog W .any base t v := hval0
  have hW' := hW
  obtain ⟨p, q, hA0, hV, rfl, hfz, hnd⟩ := hW
  have hA : DataW.TrodAll enc Try.prog W 0 (fun _ => true) true Try.f5.params.toList args.toList ds p := hA0
  rw [Try.params5] at hA hval hsz
  obtain ⟨v0, vs0, d0, ds0, p0, q0, hargs, rfl, rfl, h0, r0⟩ := trodAll_cons hA
  obtain ⟨v1, vs1, d1, ds1, p1, q1, rfl, rfl, rfl, h1, r1⟩ := trodAll_cons r0
  obtain ⟨rfl, rfl, rfl⟩ := trodAll_nil r1
  obtain rfl : args = #[v0, v1] := by cases args; simp_all
  obtain ⟨rfl, rfl⟩ := trodVars_none hV
  obtain ⟨a0, rfl, rfl, rfl, w0⟩ := open_int Try.underlying3 (hval 0 3 v0 rfl rfl) h0
  have o1 := (hval 1 31 v1 rfl rfl)
  obtain ⟨a1, len1, cap1, rfl⟩ := okWide_slice Try.underlying31 o1
  have k1 := h1
  have lt1 : ∀ x ∈ p1, x.block < W.heap.size := by obtain ⟨m, hm⟩ := k1; exact DataW.trod_lt m _ _ _ hm
  have w1 := arg_elems (n := 4) GoodStep4 Try.underlying31 (by decide) (by kernel_rfl) stepGood o1 h1
  clear hA0 hval0 hsz0 hsz
  refine (walk W a0 a1 len1 cap1 w0 w1).mono fun e W' ⟨he, bel⟩ => ?_
  subst he
  exact ⟨_, rfl, _, _, _, [], _, [], hW', trodAll_mk1 (shut_bool Try.underlying4 _), (trodAll_cons_mk (shut_int Try.underlying3 w0) (trodAll_cons_mk (Below.trod laidOut (by kernel_rfl) (of_decide_eq_true (by kernel_rfl)) k1 bel lt1) trodAll_mk0)), rfl, bel.frame _, fun h => by cases h⟩
theorem over : Rows.tokenOneRow.holds Try.pinned (OpenSpec.ofChange Rows.tokenOneSpec) :=
  OpenClaim.holds_of_wide 5 Try.f5 rfl rfl rfl rfl rfl rfl rfl ⟨rfl, rfl, rfl, rfl, rfl⟩ rfl rfl rfl rfl rfl (by kernel_rfl) Try.func5 (by kernel_rfl)
    (of_decide_eq_true (by kernel_rfl)) (by unfold Func.isWrapper; first | (rw [if_pos (by decide +kernel)]; kernel_rfl) | (rw [if_neg (by decide +kernel)]; exact ⟨rfl, rfl⟩))
    (fun os started H enc _ => lifted os started H enc)
end Go.Proofs.Ytabbkoegaoekkaa.tokenOne
namespace Go.Proofs.Ytabbkoegaoekkaa
theorem tokenOne_holds : Rows.TokenOneSaid := tokenOne.over
#print axioms tokenOne_holds
end Go.Proofs.Ytabbkoegaoekkaa
