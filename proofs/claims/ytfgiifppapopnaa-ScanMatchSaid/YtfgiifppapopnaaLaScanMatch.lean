/- Proved: sordinelaw7.ScanMatch returns true, whatever it is handed. Conditions: none. -/
import Derived.Test.YtfgiifppapopnaaRows
import Derived.Test.YtfgiifppapopnaaCh1
import Derived.WalkKit
import Derived.ProofKit
import Derived.OpenShut
import Derived.ShutString
import Derived.ChangeOld
import Derived.Below
import Derived.SizedLaws
import Derived.Lib.SmallJoins
import Derived.Laws.IdiomArrays
namespace Go.Proofs.Ytfgiifppapopnaa.scanMatch
open Go.ChangeShapes Go.WideShapes Go.ChangeAt Go.RowKit
open Go.ChangeMaps (open_string shut_string)
open Go.Proofs.Ytfgiifppapopnaa.AM
set_option linter.unusedVariables false
set_option linter.unusedSimpArgs false
theorem hmix : Try.prog.follows .mixedOrders = true := Try.checked.mixed
set_option maxRecDepth 100000 in
theorem stepGood {H : Type} {enc : TypeId × Value → H} {W : World} : ∀ fuel cs y, DataW.trod enc Try.prog W 0 (fun _ => true) true fuel 43 cs = some y → cs.length = 7 → GoodStep cs ∧ ∀ x ∈ cs, flat x = true := by
  intro fuel cs y h hl
  have hc : Try.prog.cellsOf 3 = 1 := by kernel_rfl
  have hc2 : Try.prog.cellsOf 31 = 4 := by kernel_rfl
  have hc3 : Try.prog.cellsOf 25 = 1 := by kernel_rfl
  obtain ⟨y0, y1, y2, y3, n, _, _, h0, h1, h2, h3⟩ := Go.Joins.trod_struct4 Try.underlying43 h
  match cs, hl with
  | [a, b, c, d, e, f, g], _ =>
    simp only [hc, hc2, List.drop_zero, List.drop_succ_cons, List.take_succ_cons, List.take_zero] at h0 h1 h2 h3
    obtain ⟨x0, x1, x2, x3, m, _, k0, k1, k2, k3⟩ := Go.ChangeShapes.trod_array4 Try.underlying31 hc3 h1
    obtain ⟨r0, e0, _, z0⟩ := DataW.trod_int Try.underlying3 h0
    obtain ⟨r5, e5, _, z5⟩ := DataW.trod_int Try.underlying3 h2
    obtain ⟨r6, e6, _, z6⟩ := DataW.trod_int Try.underlying3 h3
    obtain ⟨r1, e1, _, z1⟩ := DataW.trod_int Try.underlying25 k0
    obtain ⟨r2, e2, _, z2⟩ := DataW.trod_int Try.underlying25 k1
    obtain ⟨r3, e3, _, z3⟩ := DataW.trod_int Try.underlying25 k2
    obtain ⟨r4, e4, _, z4⟩ := DataW.trod_int Try.underlying25 k3
    injection e0 with e0
    injection e1 with e1
    injection e2 with e2
    injection e3 with e3
    injection e4 with e4
    injection e5 with e5
    injection e6 with e6
    subst e0 e1 e2 e3 e4 e5 e6
    refine ⟨⟨⟨r0, r1, r2, r3, r4, r5, r6⟩, rfl, ZP.i64.1 (ZP.of_wf z0), ZP.u64.1 (ZP.of_wf z1), ZP.u64.1 (ZP.of_wf z2), ZP.u64.1 (ZP.of_wf z3), ZP.u64.1 (ZP.of_wf z4), ZP.i64.1 (ZP.of_wf z5), ZP.i64.1 (ZP.of_wf z6)⟩, fun x hx => ?_⟩
    simp at hx
    rcases hx with rfl | rfl | rfl | rfl | rfl | rfl | rfl <;> rfl
theorem walk (W : World) (a0 : Option Addr) (len0 cap0 : Nat) (a1 : ByteArray)
    (w0 : ∃ L : List (List Value), HArg W a0 len0 cap0 L.flatten ∧ L.length = cap0 ∧ len0 ≤ cap0 ∧ cap0 ≤ 9223372036854775807 ∧ ∀ c ∈ L, c.length = 7 ∧ GoodStep c)
    (w1 : a1.size ≤ 140737488351232) :
    Calls Try.prog 5 #[.slice a0 len0 cap0, .string a1] W (fun e W' => e = .returned (.bool true) ∧ Below W.heap.size W W') := by
  obtain ⟨L, A1, c1, l1, m1, p1⟩ := w0
  obtain ⟨o1, s1, v1⟩ := Stands.nil.arg 7 A1
  obtain ⟨M, e1, e2, e3⟩ := steps_of L p1
  rw [e1] at s1
  have main := law705 hmix M len0 cap0 (some 2) false a1 (by omega) e3 l1
  exact main.entry rfl s1 (.cons v1 (.cons (flat_refl rfl) (VRs.nil _)))

theorem own : ownKnob Try.prog.godebug = none := by kernel_rfl
theorem laidOut : laidOutB Try.prog = true := by kernel_rfl
set_option maxRecDepth 100000 in
theorem lifted (os : Os) (started : os.Started) (H : Type) (enc : TypeId × Value → H) :
    ReturnsInHanded {} Try.checked os 5 .any (Rows.scanMatchSpec.pre6 enc Try.prog Try.f5 Rows.scanMatchRow.domain false) (Rows.scanMatchSpec.post enc Try.prog Try.f5 false true false false) := by
  refine returnsInHanded_of_change_sized (C := Try.checked) own started (by kernel_rfl) Try.func5
    (ChangeSpec.witness6 (enc := enc) (C := Try.checked) false ⟨#[], #[.slice none 0 0, .string ByteArray.empty], []⟩ 8 (by kernel_rfl) (by kernel_rfl) (by kernel_rfl) (by kernel_rfl)) ?_
  intro W base args ds gs before hval0 hW hcnd hsz0 _
  have hsz : (DataW.weightsEach Try.prog (Try.f5.params.toList ++ Rows.scanMatchSpec.plain.varTypes Try.prog) (ds ++ gs)).all (· ≤ reachBytes) = true := hsz0
  have hval : ∀ (j : Nat) t v, Try.f5.params[j]? = some t → args[j]? = some v → Value.okWide Try.prog W .any base t v := hval0
  have hW' := hW
  obtain ⟨p, q, hA0, hV, rfl, hfz, hnd⟩ := hW
  have hA : DataW.TrodAll enc Try.prog W 0 (fun _ => true) true Try.f5.params.toList args.toList ds p := hA0
  rw [Try.params5] at hA hval hsz
  obtain ⟨v0, vs0, d0, ds0, p0, q0, hargs, rfl, rfl, h0, r0⟩ := trodAll_cons hA
  obtain ⟨v1, vs1, d1, ds1, p1, q1, rfl, rfl, rfl, h1, r1⟩ := trodAll_cons r0
  obtain ⟨rfl, rfl, rfl⟩ := trodAll_nil r1
  obtain rfl : args = #[v0, v1] := by cases args; simp_all
  obtain ⟨rfl, rfl⟩ := trodVars_none hV
  have o0 := (hval 0 22 v0 rfl rfl)
  obtain ⟨a0, len0, cap0, rfl⟩ := okWide_slice Try.underlying22 o0
  have k0 := h0
  have lt0 : ∀ x ∈ p0, x.block < W.heap.size := by obtain ⟨m, hm⟩ := k0; exact DataW.trod_lt m _ _ _ hm
  have w0 := arg_elems (n := 7) GoodStep Try.underlying22 (by decide) (by kernel_rfl) stepGood o0 h0
  obtain ⟨a1, rfl, rfl, rfl, y1⟩ := open_string Try.underlying9 (hval 1 9 v1 rfl rfl) h1
  have w1 : a1.size ≤ 140737488351232 := by
    have z := sized_string hsz (j := 1) (t := 9) rfl rfl
    rw [Array.length_toList] at z
    exact z
  clear hA0 hval0 hsz0 hsz
  refine (walk W a0 len0 cap0 a1 w0 w1).mono fun e W' ⟨he, bel⟩ => ?_
  subst he
  exact ⟨_, rfl, _, _, _, [], _, [], hW', trodAll_mk1 (shut_bool Try.underlying4 _), (trodAll_cons_mk (Below.trod laidOut (by kernel_rfl) (of_decide_eq_true (by kernel_rfl)) k0 bel lt0) (trodAll_cons_mk (shut_string Try.underlying9 y1) trodAll_mk0)), rfl, bel.frame _, fun h => by cases h⟩
theorem over : Rows.scanMatchRow.holds Try.pinned (OpenSpec.ofChange Rows.scanMatchSpec) :=
  OpenClaim.holds_of_wide 5 Try.f5 rfl rfl rfl rfl rfl rfl rfl ⟨rfl, rfl, rfl, rfl, rfl⟩ rfl rfl rfl rfl rfl (by kernel_rfl) Try.func5 (by kernel_rfl)
    (of_decide_eq_true (by kernel_rfl)) (by unfold Func.isWrapper; first | (rw [if_pos (by decide +kernel)]; kernel_rfl) | (rw [if_neg (by decide +kernel)]; exact ⟨rfl, rfl⟩))
    (fun os started H enc _ => lifted os started H enc)
end Go.Proofs.Ytfgiifppapopnaa.scanMatch
namespace Go.Proofs.Ytfgiifppapopnaa
theorem scanMatch_holds : Rows.ScanMatchSaid := scanMatch.over
#print axioms scanMatch_holds
end Go.Proofs.Ytfgiifppapopnaa
