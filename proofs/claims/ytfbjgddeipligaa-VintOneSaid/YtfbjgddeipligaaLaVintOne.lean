/- Proved: sordinelaw1.VintOne returns true, whatever it is handed. Conditions: none. -/
import Derived.Test.YtfbjgddeipligaaRows
import Derived.Test.YtfbjgddeipligaaCh1
import Derived.WalkKit
import Derived.ProofKit
import Derived.OpenShut
import Derived.ShutString
import Derived.ChangeOld
import Derived.Below
import Derived.SizedLaws
namespace Go.Proofs.Ytfbjgddeipligaa.vintOne
open Go.ChangeShapes Go.WideShapes Go.ChangeAt Go.RowKit
open Go.ChangeMaps (open_string shut_string)
open Go.Proofs.Ytfbjgddeipligaa.AM
set_option linter.unusedVariables false
set_option linter.unusedSimpArgs false
theorem hmix : Try.prog.follows .mixedOrders = true := Try.checked.mixed
theorem walk (W : World) (a : Option Addr) (len cap : Nat) (w0 : (a = none ∧ len = 0 ∧ cap = 0) ∨ ∃ (x : Addr) (zs : List Int), a = some x ∧ len ≤ cap ∧ zs.length = cap ∧ (∀ n ∈ zs, (Lit.int .u8 n).wf = true) ∧ Row W x (zs.map (Value.int .u8))) :
    Calls Try.prog 4 #[.slice a len cap] W (fun e W' => e = .returned (.bool true) ∧ Below W.heap.size W W') := by
  rcases w0 with ⟨rfl, rfl, rfl⟩ | ⟨x, zs, rfl, hl, rfl, hz, hr⟩
  · exact (law4z hmix).entry rfl Stands.nil (.cons (flat_refl rfl) (VRs.nil _))
  · obtain ⟨l, st, e1, e2⟩ := Stands.nil.row hr 1
    obtain ⟨q1, q2⟩ := slice_u8 zs len hl hz
    have := (law4 hmix _ 0 (some 0) zs.length (zs.take len) (by rw [q1]; exact hl) q2 hr.flat).entry rfl st (args' := [.slice (some x) len zs.length]) (.cons (by rw [q1]; exact VR.row rfl e1 e2 hr.spot hl) (VRs.nil _))
    exact this

theorem own : ownKnob Try.prog.godebug = none := by kernel_rfl
theorem laidOut : laidOutB Try.prog = true := by kernel_rfl
set_option maxRecDepth 100000 in
theorem lifted (os : Os) (started : os.Started) (H : Type) (enc : TypeId × Value → H) :
    ReturnsInHanded {} Try.checked os 4 .any (Rows.vintOneSpec.pre6 enc Try.prog Try.f4 Rows.vintOneRow.domain false) (Rows.vintOneSpec.post enc Try.prog Try.f4 false true false false) := by
  refine returnsInHanded_of_change_sized (C := Try.checked) own started (by kernel_rfl) Try.func4
    (ChangeSpec.witness6 (enc := enc) (C := Try.checked) false ⟨#[], #[.slice none 0 0], []⟩ 8 (by kernel_rfl) (by kernel_rfl) (by kernel_rfl) (by kernel_rfl)) ?_
  intro W base args ds gs before hval0 hW hcnd hsz0 _
  have hsz : (DataW.weightsEach Try.prog (Try.f4.params.toList ++ Rows.vintOneSpec.plain.varTypes Try.prog) (ds ++ gs)).all (· ≤ reachBytes) = true := hsz0
  have hval : ∀ (j : Nat) t v, Try.f4.params[j]? = some t → args[j]? = some v → Value.okWide Try.prog W .any base t v := hval0
  have hW' := hW
  obtain ⟨p, q, hA0, hV, rfl, hfz, hnd⟩ := hW
  have hA : DataW.TrodAll enc Try.prog W 0 (fun _ => true) true Try.f4.params.toList args.toList ds p := hA0
  rw [Try.params4] at hA hval hsz
  obtain ⟨v0, vs0, d0, ds0, p0, q0, hargs, rfl, rfl, h0, r0⟩ := trodAll_cons hA
  obtain ⟨rfl, rfl, rfl⟩ := trodAll_nil r0
  obtain rfl : args = #[v0] := by cases args; simp_all
  obtain ⟨rfl, rfl⟩ := trodVars_none hV
  have o0 := (hval 0 25 v0 rfl rfl)
  obtain ⟨a0, len0, cap0, rfl⟩ := okWide_slice Try.underlying25 o0
  have k0 := h0
  have lt0 : ∀ x ∈ p0, x.block < W.heap.size := by obtain ⟨m, hm⟩ := k0; exact DataW.trod_lt m _ _ _ hm
  have w0 := row_ints Try.underlying25 Try.underlying5 (by kernel_rfl) o0 h0
  clear hA0 hval0 hsz0 hsz
  refine (walk W a0 len0 cap0 w0).mono fun e W' ⟨he, bel⟩ => ?_
  subst he
  exact ⟨_, rfl, _, _, _, [], _, [], hW', trodAll_mk1 (shut_bool Try.underlying4 _), (trodAll_cons_mk (Below.trod laidOut (by kernel_rfl) (of_decide_eq_true (by kernel_rfl)) k0 bel lt0) trodAll_mk0), rfl, bel.frame _, fun h => by cases h⟩
theorem over : Rows.vintOneRow.holds Try.pinned (OpenSpec.ofChange Rows.vintOneSpec) :=
  OpenClaim.holds_of_wide 4 Try.f4 rfl rfl rfl rfl rfl rfl rfl ⟨rfl, rfl, rfl, rfl, rfl⟩ rfl rfl rfl rfl rfl (by kernel_rfl) Try.func4 (by kernel_rfl)
    (of_decide_eq_true (by kernel_rfl)) (by unfold Func.isWrapper; first | (rw [if_pos (by decide +kernel)]; kernel_rfl) | (rw [if_neg (by decide +kernel)]; exact ⟨rfl, rfl⟩))
    (fun os started H enc _ => lifted os started H enc)
end Go.Proofs.Ytfbjgddeipligaa.vintOne
namespace Go.Proofs.Ytfbjgddeipligaa
theorem vintOne_holds : Rows.VintOneSaid := vintOne.over
#print axioms vintOne_holds
end Go.Proofs.Ytfbjgddeipligaa
