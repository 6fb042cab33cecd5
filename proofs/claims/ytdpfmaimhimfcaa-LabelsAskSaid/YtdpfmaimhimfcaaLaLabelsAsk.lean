/- Proved: sordinelaw4.LabelsAsk returns true, whatever it is handed. Conditions: none. -/
import Derived.Test.YtdpfmaimhimfcaaRows
import Derived.Test.YtdpfmaimhimfcaaCh1
import Derived.WalkKit
import Derived.ProofKit
import Derived.OpenShut
import Derived.ShutString
import Derived.ChangeOld
import Derived.Below
import Derived.SizedLaws
namespace Go.Proofs.Ytdpfmaimhimfcaa.labelsAsk
open Go.ChangeShapes Go.WideShapes Go.ChangeAt Go.RowKit
open Go.ChangeMaps (open_string shut_string)
open Go.Proofs.Ytdpfmaimhimfcaa.AM
set_option linter.unusedVariables false
set_option linter.unusedSimpArgs false
theorem hmix : Try.prog.follows .mixedOrders = true := Try.checked.mixed
def GoodLab (c : List Value) : Prop := ∃ a b : ByteArray, c = [.string a, .string b] ∧ a.size ≤ 9223372036854775807 ∧ b.size ≤ 9223372036854775807
theorem labGood {H : Type} {enc : TypeId × Value → H} {W : World} : ∀ fuel cs y, DataW.trod enc Try.prog W 0 (fun _ => true) true fuel 23 cs = some y → cs.length = 2 → GoodLab cs ∧ ∀ x ∈ cs, flat x = true := by
  intro fuel cs y h hl
  have hc : Try.prog.cellsOf 9 = 1 := by kernel_rfl
  obtain ⟨y0, y1, n, _, _, h0, h1⟩ := trod_struct2 Try.underlying23 h
  match cs, hl with
  | [u, v], _ =>
    simp only [hc, List.drop_zero, List.drop_succ_cons, List.take_succ_cons, List.take_zero] at h0 h1
    obtain ⟨s, e0, _, z0⟩ := DataW.trod_string Try.underlying9 h0
    obtain ⟨r, e1, _, z1⟩ := DataW.trod_string Try.underlying9 h1
    injection e0 with e0
    injection e1 with e1
    subst e0 e1
    have hm : maxLen = 9223372036854775807 := by decide
    refine ⟨⟨s, r, rfl, by omega, by omega⟩, fun x hx => ?_⟩
    simp at hx
    rcases hx with rfl | rfl <;> rfl
theorem walk (W : World) (s : ByteArray) (a : Option Addr) (len cap : Nat) (w0 : s.size ≤ 140737488351232)
    (w1 : (a = none ∧ len = 0 ∧ cap = 0) ∨ ∃ (x : Addr) (L : List (List Value)), a = some x ∧ len ≤ cap ∧ cap ≤ maxLen ∧ L.length = cap ∧ (∀ c ∈ L, c.length = 2 ∧ GoodLab c) ∧ Row W x L.flatten) :
    Calls Try.prog 4 #[.string s, .slice a len cap] W (fun e W' => e = .returned (.bool true) ∧ Below W.heap.size W W') := by
  have hm : maxLen = 9223372036854775807 := by decide
  rcases w1 with ⟨rfl, rfl, rfl⟩ | ⟨x, L, rfl, hl, hcm, rfl, hz, hr⟩
  · exact (law104z hmix s (by omega)).entry rfl Stands.nil (.cons (flat_refl rfl) (.cons (flat_refl rfl) (VRs.nil _)))
  · obtain ⟨l, st, e1, e2⟩ := Stands.nil.row hr 2
    obtain ⟨lb, q1, q2⟩ := slice_labs L len hl (by omega) hz hr.flat
    subst q1
    exact (law104 hmix _ s 0 (some 0) L.length lb (by omega) hl q2).entry rfl st (args' := [.string s, .slice (some x) lb.length L.length]) (.cons (flat_refl rfl) (.cons (VR.row rfl e1 e2 hr.spot hl) (VRs.nil _)))

theorem own : ownKnob Try.prog.godebug = none := by kernel_rfl
theorem laidOut : laidOutB Try.prog = true := by kernel_rfl
set_option maxRecDepth 100000 in
theorem lifted (os : Os) (started : os.Started) (H : Type) (enc : TypeId × Value → H) :
    ReturnsInHanded {} Try.checked os 4 .any (Rows.labelsAskSpec.pre6 enc Try.prog Try.f4 Rows.labelsAskRow.domain false) (Rows.labelsAskSpec.post enc Try.prog Try.f4 false true false false) := by
  refine returnsInHanded_of_change_sized (C := Try.checked) own started (by kernel_rfl) Try.func4
    (ChangeSpec.witness6 (enc := enc) (C := Try.checked) false ⟨#[], #[.string ByteArray.empty, .slice none 0 0], []⟩ 8 (by kernel_rfl) (by kernel_rfl) (by kernel_rfl) (by kernel_rfl)) ?_
  intro W base args ds gs before hval0 hW hcnd hsz0 _
  have hsz : (DataW.weightsEach Try.prog (Try.f4.params.toList ++ Rows.labelsAskSpec.plain.varTypes Try.prog) (ds ++ gs)).all (· ≤ reachBytes) = true := hsz0
  have hval : ∀ (j : Nat) t v, Try.f4.params[j]? = some t → args[j]? = some v → Value.okWide Try.prog W .any base t v := hval0
  have hW' := hW
  obtain ⟨p, q, hA0, hV, rfl, hfz, hnd⟩ := hW
  have hA : DataW.TrodAll enc Try.prog W 0 (fun _ => true) true Try.f4.params.toList args.toList ds p := hA0
  rw [Try.params4] at hA hval hsz
  obtain ⟨v0, vs0, d0, ds0, p0, q0, hargs, rfl, rfl, h0, r0⟩ := trodAll_cons hA
  obtain ⟨v1, vs1, d1, ds1, p1, q1, rfl, rfl, rfl, h1, r1⟩ := trodAll_cons r0
  obtain ⟨rfl, rfl, rfl⟩ := trodAll_nil r1
  obtain rfl : args = #[v0, v1] := by cases args; simp_all
  obtain ⟨rfl, rfl⟩ := trodVars_none hV
  obtain ⟨a0, rfl, rfl, rfl, y0⟩ := open_string Try.underlying9 (hval 0 9 v0 rfl rfl) h0
  have w0 : a0.size ≤ 140737488351232 := by
    have z := sized_string hsz (j := 0) (t := 9) rfl rfl
    rw [Array.length_toList] at z
    exact z
  have o1 := (hval 1 24 v1 rfl rfl)
  obtain ⟨a1, len1, cap1, rfl⟩ := okWide_slice Try.underlying24 o1
  have k1 := h1
  have lt1 : ∀ x ∈ p1, x.block < W.heap.size := by obtain ⟨m, hm⟩ := k1; exact DataW.trod_lt m _ _ _ hm
  have w1 := row_elems (n := 2) GoodLab Try.underlying24 (by decide) (by kernel_rfl) labGood o1 h1
  clear hA0 hval0 hsz0 hsz
  refine (walk W a0 a1 len1 cap1 w0 w1).mono fun e W' ⟨he, bel⟩ => ?_
  subst he
  exact ⟨_, rfl, _, _, _, [], _, [], hW', trodAll_mk1 (shut_bool Try.underlying4 _), (trodAll_cons_mk (shut_string Try.underlying9 y0) (trodAll_cons_mk (Below.trod laidOut (by kernel_rfl) (of_decide_eq_true (by kernel_rfl)) k1 bel lt1) trodAll_mk0)), rfl, bel.frame _, fun h => by cases h⟩
theorem over : Rows.labelsAskRow.holds Try.pinned (OpenSpec.ofChange Rows.labelsAskSpec) :=
  OpenClaim.holds_of_wide 4 Try.f4 rfl rfl rfl rfl rfl rfl rfl ⟨rfl, rfl, rfl, rfl, rfl⟩ rfl rfl rfl rfl rfl (by kernel_rfl) Try.func4 (by kernel_rfl)
    (of_decide_eq_true (by kernel_rfl)) (by unfold Func.isWrapper; first | (rw [if_pos (by decide +kernel)]; kernel_rfl) | (rw [if_neg (by decide +kernel)]; exact ⟨rfl, rfl⟩))
    (fun os started H enc _ => lifted os started H enc)
end Go.Proofs.Ytdpfmaimhimfcaa.labelsAsk
namespace Go.Proofs.Ytdpfmaimhimfcaa
theorem labelsAsk_holds : Rows.LabelsAskSaid := labelsAsk.over
#print axioms labelsAsk_holds
end Go.Proofs.Ytdpfmaimhimfcaa
