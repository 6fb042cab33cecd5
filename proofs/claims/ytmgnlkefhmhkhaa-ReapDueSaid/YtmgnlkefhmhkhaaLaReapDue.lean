/- Proved: sordinelaw13.ReapDue returns true, whatever it is handed. Conditions: none. -/
import Derived.Test.YtmgnlkefhmhkhaaRows
import Derived.Test.YtmgnlkefhmhkhaaCh2
import Derived.WalkKit
import Derived.ProofKit
import Derived.OpenShut
import Derived.ShutString
import Derived.ChangeOld
import Derived.Below
import Derived.SizedLaws
namespace Go.Proofs.Ytmgnlkefhmhkhaa.reapDue
open Go.ChangeShapes Go.WideShapes Go.ChangeAt Go.RowKit
open Go.ChangeMaps (open_string shut_string)
open Go.Proofs.Ytmgnlkefhmhkhaa.AM
set_option linter.unusedVariables false
set_option linter.unusedSimpArgs false
theorem hmix : Try.prog.follows .mixedOrders = true := Try.checked.mixed
theorem walk (W : World) (a0 : Option Addr) (len0 cap0 : Nat) (a1 : Option Addr) (len1 cap1 : Nat) (a2 : Int)
    (w0 : ∃ zs : List Int, HArg W a0 len0 cap0 (eC (iE .i64) zs) ∧ zs.length = cap0 ∧ len0 ≤ cap0 ∧ cap0 ≤ 9223372036854775807 ∧ ∀ n ∈ zs, ZP .i64 n)
    (w1 : ∃ zs : List Int, HArg W a1 len1 cap1 (eC (iE .u64) zs) ∧ zs.length = cap1 ∧ len1 ≤ cap1 ∧ cap1 ≤ 9223372036854775807 ∧ ∀ n ∈ zs, ZP .u64 n)
    (w2 : (Lit.int .u64 a2).wf = true) :
    Calls Try.prog 5 #[.slice a0 len0 cap0, .slice a1 len1 cap1, .int .u64 a2] W (fun e W' => e = .returned (.bool true) ∧ Below W.heap.size W W') := by
  obtain ⟨z0, A0, c0, l0, m0, p0⟩ := w0
  obtain ⟨z1, A1, c1, l1, m1, p1⟩ := w1
  obtain ⟨o0, s0, v0⟩ := Stands.nil.arg 1 A0
  obtain ⟨o1, s1, v1⟩ := s0.arg 1 A1
  have main := law1330z hmix ⟨some 2, some 2, len0, cap0, len1, cap1, a2, eC (iE .i64) z0, eC (iE .u64) z1⟩ (z0.take len0) (z1.take len1) (take_len c0 l0).symm (take_len c1 l1).symm (ESl.lit flat_i z0 len0 p0 (by omega) (by omega)) (ESl.lit flat_i z1 len1 p1 (by omega) (by omega)) (by rw [take_len c0 l0]; exact l0) (by rw [take_len c1 l1]; exact l1)
  exact main.entry rfl s1 (.cons (v0.more o1) (.cons v1 (.cons (flat_refl rfl) (VRs.nil _))))

theorem own : ownKnob Try.prog.godebug = none := by kernel_rfl
theorem laidOut : laidOutB Try.prog = true := by kernel_rfl
set_option maxRecDepth 100000 in
theorem lifted (os : Os) (started : os.Started) (H : Type) (enc : TypeId × Value → H) :
    ReturnsInHanded {} Try.checked os 5 .any (Rows.reapDueSpec.pre6 enc Try.prog Try.f5 Rows.reapDueRow.domain false) (Rows.reapDueSpec.post enc Try.prog Try.f5 false true false false) := by
  refine returnsInHanded_of_change_sized (C := Try.checked) own started (by kernel_rfl) Try.func5
    (ChangeSpec.witness6 (enc := enc) (C := Try.checked) false ⟨#[], #[.slice none 0 0, .slice none 0 0, .int .u64 0], []⟩ 8 (by kernel_rfl) (by kernel_rfl) (by kernel_rfl) (by kernel_rfl)) ?_
  intro W base args ds gs before hval0 hW hcnd hsz0 _
  have hsz : (DataW.weightsEach Try.prog (Try.f5.params.toList ++ Rows.reapDueSpec.plain.varTypes Try.prog) (ds ++ gs)).all (· ≤ reachBytes) = true := hsz0
  have hval : ∀ (j : Nat) t v, Try.f5.params[j]? = some t → args[j]? = some v → Value.okWide Try.prog W .any base t v := hval0
  have hW' := hW
  obtain ⟨p, q, hA0, hV, rfl, hfz, hnd⟩ := hW
  have hA : DataW.TrodAll enc Try.prog W 0 (fun _ => true) true Try.f5.params.toList args.toList ds p := hA0
  rw [Try.params5] at hA hval hsz
  obtain ⟨v0, vs0, d0, ds0, p0, q0, hargs, rfl, rfl, h0, r0⟩ := trodAll_cons hA
  obtain ⟨v1, vs1, d1, ds1, p1, q1, rfl, rfl, rfl, h1, r1⟩ := trodAll_cons r0
  obtain ⟨v2, vs2, d2, ds2, p2, q2, rfl, rfl, rfl, h2, r2⟩ := trodAll_cons r1
  obtain ⟨rfl, rfl, rfl⟩ := trodAll_nil r2
  obtain rfl : args = #[v0, v1, v2] := by cases args; simp_all
  obtain ⟨rfl, rfl⟩ := trodVars_none hV
  have o0 := (hval 0 30 v0 rfl rfl)
  obtain ⟨a0, len0, cap0, rfl⟩ := okWide_slice Try.underlying30 o0
  have k0 := h0
  have lt0 : ∀ x ∈ p0, x.block < W.heap.size := by obtain ⟨m, hm⟩ := k0; exact DataW.trod_lt m _ _ _ hm
  have w0 := arg_ints Try.underlying30 Try.underlying3 (by kernel_rfl) o0 h0
  have o1 := (hval 1 46 v1 rfl rfl)
  obtain ⟨a1, len1, cap1, rfl⟩ := okWide_slice Try.underlying46 o1
  have k1 := h1
  have lt1 : ∀ x ∈ p1, x.block < W.heap.size := by obtain ⟨m, hm⟩ := k1; exact DataW.trod_lt m _ _ _ hm
  have w1 := arg_ints Try.underlying46 Try.underlying25 (by kernel_rfl) o1 h1
  obtain ⟨a2, rfl, rfl, rfl, w2⟩ := open_int Try.underlying25 (hval 2 25 v2 rfl rfl) h2
  clear hA0 hval0 hsz0 hsz
  refine (walk W a0 len0 cap0 a1 len1 cap1 a2 w0 w1 w2).mono fun e W' ⟨he, bel⟩ => ?_
  subst he
  exact ⟨_, rfl, _, _, _, [], _, [], hW', trodAll_mk1 (shut_bool Try.underlying4 _), (trodAll_cons_mk (Below.trod laidOut (by kernel_rfl) (of_decide_eq_true (by kernel_rfl)) k0 bel lt0) (trodAll_cons_mk (Below.trod laidOut (by kernel_rfl) (of_decide_eq_true (by kernel_rfl)) k1 bel lt1) (trodAll_cons_mk (shut_int Try.underlying25 w2) trodAll_mk0))), rfl, bel.frame _, fun h => by cases h⟩
theorem over : Rows.reapDueRow.holds Try.pinned (OpenSpec.ofChange Rows.reapDueSpec) :=
  OpenClaim.holds_of_wide 5 Try.f5 rfl rfl rfl rfl rfl rfl rfl ⟨rfl, rfl, rfl, rfl, rfl⟩ rfl rfl rfl rfl rfl (by kernel_rfl) Try.func5 (by kernel_rfl)
    (of_decide_eq_true (by kernel_rfl)) (by unfold Func.isWrapper; first | (rw [if_pos (by decide +kernel)]; kernel_rfl) | (rw [if_neg (by decide +kernel)]; exact ⟨rfl, rfl⟩))
    (fun os started H enc _ => lifted os started H enc)
end Go.Proofs.Ytmgnlkefhmhkhaa.reapDue
namespace Go.Proofs.Ytmgnlkefhmhkhaa
theorem reapDue_holds : Rows.ReapDueSaid := reapDue.over
#print axioms reapDue_holds
end Go.Proofs.Ytmgnlkefhmhkhaa
