/- Proved: sordinelaw3.RealRank returns true, whatever it is handed. Conditions: none. -/
import Derived.Test.YtglfkchcmjmmlaaRows
import Derived.Test.YtglfkchcmjmmlaaCh2
import Derived.WalkKit
import Derived.ProofKit
import Derived.OpenShut
import Derived.ShutString
import Derived.ChangeOld
import Derived.Below
import Derived.SizedLaws
namespace Go.Proofs.Ytglfkchcmjmmlaa.realRank
open Go.ChangeShapes Go.WideShapes Go.ChangeAt Go.RowKit
open Go.ChangeMaps (open_string shut_string)
open Go.Proofs.Ytglfkchcmjmmlaa.AM
set_option linter.unusedVariables false
set_option linter.unusedSimpArgs false
theorem hmix : Try.prog.follows .mixedOrders = true := Try.checked.mixed
theorem trodFloat {H : Type} {enc : TypeId × Value → H} {W : World} {fuel : Nat} {cs : List Value} {x : DataW H × List MemPlace} (h : DataW.trod enc Try.prog W 0 (fun _ => true) true fuel 22 cs = some x) : ∃ b : Nat, cs = [.float .f64 b] ∧ (Lit.float .f64 b).wf = true := by
  cases fuel with
  | zero => simp [DataW.trod] at h
  | succ n =>
    unfold DataW.trod at h
    rw [Try.underlying22] at h
    split at h <;> simp_all
theorem fltGood {H : Type} {enc : TypeId × Value → H} {W : World} : ∀ fuel cs y, DataW.trod enc Try.prog W 0 (fun _ => true) true fuel 22 cs = some y → cs.length = 1 → GoodF cs ∧ ∀ x ∈ cs, flat x = true := by
  intro fuel cs y h hl
  obtain ⟨b, rfl, hw⟩ := trodFloat h
  have := f64_of hw
  refine ⟨⟨b, rfl, by omega⟩, fun x hx => ?_⟩
  simp at hx
  subst hx
  rfl
theorem walk (W : World) (a0 : Option Addr) (len0 cap0 : Nat)
    (w0 : ∃ L : List (List Value), HArg W a0 len0 cap0 L.flatten ∧ L.length = cap0 ∧ len0 ≤ cap0 ∧ cap0 ≤ 9223372036854775807 ∧ ∀ c ∈ L, c.length = 1 ∧ GoodF c) :
    Calls Try.prog 8 #[.slice a0 len0 cap0] W (fun e W' => e = .returned (.bool true) ∧ Below W.heap.size W W') := by
  obtain ⟨L, A1, c1, l1, m1, p1⟩ := w0
  obtain ⟨o1, s1, v1⟩ := Stands.nil.arg 1 A1
  have main := law308 hmix _ len0 cap0 (some 2) (fv_of L p1 (by omega))
  exact main.entry rfl s1 (.cons v1 (VRs.nil _))

theorem own : ownKnob Try.prog.godebug = none := by kernel_rfl
theorem laidOut : laidOutB Try.prog = true := by kernel_rfl
set_option maxRecDepth 100000 in
theorem lifted (os : Os) (started : os.Started) (H : Type) (enc : TypeId × Value → H) :
    ReturnsInHanded {} Try.checked os 8 .any (Rows.realRankSpec.pre6 enc Try.prog Try.f8 Rows.realRankRow.domain false) (Rows.realRankSpec.post enc Try.prog Try.f8 false true false false) := by
  refine returnsInHanded_of_change_sized (C := Try.checked) own started (by kernel_rfl) Try.func8
    (ChangeSpec.witness6 (enc := enc) (C := Try.checked) false ⟨#[], #[.slice none 0 0], []⟩ 8 (by kernel_rfl) (by kernel_rfl) (by kernel_rfl) (by kernel_rfl)) ?_
  intro W base args ds gs before hval0 hW hcnd hsz0 _
  have hsz : (DataW.weightsEach Try.prog (Try.f8.params.toList ++ Rows.realRankSpec.plain.varTypes Try.prog) (ds ++ gs)).all (· ≤ reachBytes) = true := hsz0
  have hval : ∀ (j : Nat) t v, Try.f8.params[j]? = some t → args[j]? = some v → Value.okWide Try.prog W .any base t v := hval0
  have hW' := hW
  obtain ⟨p, q, hA0, hV, rfl, hfz, hnd⟩ := hW
  have hA : DataW.TrodAll enc Try.prog W 0 (fun _ => true) true Try.f8.params.toList args.toList ds p := hA0
  rw [Try.params8] at hA hval hsz
  obtain ⟨v0, vs0, d0, ds0, p0, q0, hargs, rfl, rfl, h0, r0⟩ := trodAll_cons hA
  obtain ⟨rfl, rfl, rfl⟩ := trodAll_nil r0
  obtain rfl : args = #[v0] := by cases args; simp_all
  obtain ⟨rfl, rfl⟩ := trodVars_none hV
  have o0 := (hval 0 27 v0 rfl rfl)
  obtain ⟨a0, len0, cap0, rfl⟩ := okWide_slice Try.underlying27 o0
  have k0 := h0
  have lt0 : ∀ x ∈ p0, x.block < W.heap.size := by obtain ⟨m, hm⟩ := k0; exact DataW.trod_lt m _ _ _ hm
  have w0 := arg_elems (n := 1) GoodF Try.underlying27 (by decide) (by kernel_rfl) fltGood o0 h0
  clear hA0 hval0 hsz0 hsz
  refine (walk W a0 len0 cap0 w0).mono fun e W' ⟨he, bel⟩ => ?_
  subst he
  exact ⟨_, rfl, _, _, _, [], _, [], hW', trodAll_mk1 (shut_bool Try.underlying4 _), (trodAll_cons_mk (Below.trod laidOut (by kernel_rfl) (of_decide_eq_true (by kernel_rfl)) k0 bel lt0) trodAll_mk0), rfl, bel.frame _, fun h => by cases h⟩
theorem over : Rows.realRankRow.holds Try.pinned (OpenSpec.ofChange Rows.realRankSpec) :=
  OpenClaim.holds_of_wide 8 Try.f8 rfl rfl rfl rfl rfl rfl rfl ⟨rfl, rfl, rfl, rfl, rfl⟩ rfl rfl rfl rfl rfl (by kernel_rfl) Try.func8 (by kernel_rfl)
    (of_decide_eq_true (by kernel_rfl)) (by unfold Func.isWrapper; first | (rw [if_pos (by decide +kernel)]; kernel_rfl) | (rw [if_neg (by decide +kernel)]; exact ⟨rfl, rfl⟩))
    (fun os started H enc _ => lifted os started H enc)
end Go.Proofs.Ytglfkchcmjmmlaa.realRank
namespace Go.Proofs.Ytglfkchcmjmmlaa
theorem realRank_holds : Rows.RealRankSaid := realRank.over
#print axioms realRank_holds
end Go.Proofs.Ytglfkchcmjmmlaa
