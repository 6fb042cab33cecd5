/- Proved: sordinelaw4.LabelsTurned returns true, whatever it is handed. Conditions: none. -/
import Derived.Test.YtdpfmaimhimfcaaRows
import Derived.Test.YtdpfmaimhimfcaaCh3
import Derived.WalkKit
import Derived.ProofKit
import Derived.OpenShut
import Derived.ShutString
import Derived.ChangeOld
import Derived.Below
import Derived.SizedLaws
namespace Go.Proofs.Ytdpfmaimhimfcaa.labelsTurned
open Go.ChangeShapes Go.WideShapes Go.ChangeAt Go.RowKit
open Go.ChangeMaps (open_string shut_string)
open Go.Proofs.Ytdpfmaimhimfcaa.AM
set_option linter.unusedVariables false
set_option linter.unusedSimpArgs false
theorem hmix : Try.prog.follows .mixedOrders = true := Try.checked.mixed
def GoodLab (c : List Value) : Prop := ∃ a b : ByteArray, c = [.string a, .string b] ∧ a.size ≤ 9223372036854775807 ∧ b.size ≤ 9223372036854775807
theorem labGood {H : Type} {enc : TypeId × Value → H} {W : World} : ∀ fuel cs y, DataW.trod enc Try.prog W 0 (fun _ => true) true fuel 23 cs = some y → cs.length = 2 → GoodLab cs ∧ ∀ x ∈ cs, flat x = true := by
  intro fuel cs y h hl
  have hc : Try.prog.cellsOf 9 = 1 := by kernel_rfl
  obtain ⟨y0, y1, n, _, _, h0, h1⟩ := trod_struct2 Try.underlying23 h
  match cs, hl with
  | [u, v], _ =>
    simp only [hc, List.drop_zero, List.drop_succ_cons, List.take_succ_cons, List.take_zero] at h0 h1
    obtain ⟨s, e0, _, z0⟩ := DataW.trod_string Try.underlying9 h0
    obtain ⟨r, e1, _, z1⟩ := DataW.trod_string Try.underlying9 h1
    injection e0 with e0
    injection e1 with e1
    subst e0 e1
    have hm : maxLen = 9223372036854775807 := by decide
    refine ⟨⟨s, r, rfl, by omega, by omega⟩, fun x hx => ?_⟩
    simp at hx
    rcases hx with rfl | rfl <;> rfl
theorem walk (W : World) (a0 : Option Addr) (len0 cap0 : Nat) (a1 : Int)
    (w0 : ∃ L : List (List Value), HArg W a0 len0 cap0 L.flatten ∧ L.length = cap0 ∧ len0 ≤ cap0 ∧ cap0 ≤ 9223372036854775807 ∧ ∀ c ∈ L, c.length = 2 ∧ GoodLab c)
    (w1 : (Lit.int .i64 a1).wf = true) :
    Calls Try.prog 9 #[.slice a0 len0 cap0, .int .i64 a1] W (fun e W' => e = .returned (.bool true) ∧ Below W.heap.size W W') := by
  obtain ⟨L, A0, c0, l0, m0, p0⟩ := w0
  have fL : FlatL L.flatten := ⟨fun x hx => by
    obtain ⟨c, h1, h2⟩ := List.mem_flatten.1 hx
    obtain ⟨_, a, b, rfl, _, _⟩ := p0 c h1
    simp at h2
    rcases h2 with rfl | rfl <;> rfl⟩
  obtain ⟨o0, s0, v0⟩ := Stands.nil.arg 2 A0
  obtain ⟨lb, q1, q2⟩ := slice_labs L len0 (by omega) (by omega) p0 fL
  subst q1
  have main := law109 hmix _ (some 2) cap0 a1 lb l0 q2 m0
  exact main.entry rfl s0 (.cons v0 (.cons (flat_refl rfl) (VRs.nil _)))

theorem own : ownKnob Try.prog.godebug = none := by kernel_rfl
theorem laidOut : laidOutB Try.prog = true := by kernel_rfl
set_option maxRecDepth 100000 in
theorem lifted (os : Os) (started : os.Started) (H : Type) (enc : TypeId × Value → H) :
    ReturnsInHanded {} Try.checked os 9 .any (Rows.labelsTurnedSpec.pre6 enc Try.prog Try.f9 Rows.labelsTurnedRow.domain false) (Rows.labelsTurnedSpec.post enc Try.prog Try.f9 false true false false) := by
  refine returnsInHanded_of_change_sized (C := Try.checked) own started (by kernel_rfl) Try.func9
    (ChangeSpec.witness6 (enc := enc) (C := Try.checked) false ⟨#[], #[.slice none 0 0, .int .i64 0], []⟩ 8 (by kernel_rfl) (by kernel_rfl) (by kernel_rfl) (by kernel_rfl)) ?_
  intro W base args ds gs before hval0 hW hcnd hsz0 _
  have hsz : (DataW.weightsEach Try.prog (Try.f9.params.toList ++ Rows.labelsTurnedSpec.plain.varTypes Try.prog) (ds ++ gs)).all (· ≤ reachBytes) = true := hsz0
  have hval : ∀ (j : Nat) t v, Try.f9.params[j]? = some t → args[j]? = some v → Value.okWide Try.prog W .any base t v := hval0
  have hW' := hW
  obtain ⟨p, q, hA0, hV, rfl, hfz, hnd⟩ := hW
  have hA : DataW.TrodAll enc Try.prog W 0 (fun _ => true) true Try.f9.params.toList args.toList ds p := hA0
  rw [Try.params9] at hA hval hsz
  obtain ⟨v0, vs0, d0, ds0, p0, q0, hargs, rfl, rfl, h0, r0⟩ := trodAll_cons hA
  obtain ⟨v1, vs1, d1, ds1, p1, q1, rfl, rfl, rfl, h1, r1⟩ := trodAll_cons r0
  obtain ⟨rfl, rfl, rfl⟩ := trodAll_nil r1
  obtain rfl : args = #[v0, v1] := by cases args; simp_all
  obtain ⟨rfl, rfl⟩ := trodVars_none hV
  have o0 := (hval 0 24 v0 rfl rfl)
  obtain ⟨a0, len0, cap0, rfl⟩ := okWide_slice Try.underlying24 o0
  have k0 := h0
  have lt0 : ∀ x ∈ p0, x.block < W.heap.size := by obtain ⟨m, hm⟩ := k0; exact DataW.trod_lt m _ _ _ hm
  have w0 := arg_elems (n := 2) GoodLab Try.underlying24 (by decide) (by kernel_rfl) labGood o0 h0
  obtain ⟨a1, rfl, rfl, rfl, w1⟩ := open_int Try.underlying3 (hval 1 3 v1 rfl rfl) h1
  clear hA0 hval0 hsz0 hsz
  refine (walk W a0 len0 cap0 a1 w0 w1).mono fun e W' ⟨he, bel⟩ => ?_
  subst he
  exact ⟨_, rfl, _, _, _, [], _, [], hW', trodAll_mk1 (shut_bool Try.underlying4 _), (trodAll_cons_mk (Below.trod laidOut (by kernel_rfl) (of_decide_eq_true (by kernel_rfl)) k0 bel lt0) (trodAll_cons_mk (shut_int Try.underlying3 w1) trodAll_mk0)), rfl, bel.frame _, fun h => by cases h⟩
theorem over : Rows.labelsTurnedRow.holds Try.pinned (OpenSpec.ofChange Rows.labelsTurnedSpec) :=
  OpenClaim.holds_of_wide 9 Try.f9 rfl rfl rfl rfl rfl rfl rfl ⟨rfl, rfl, rfl, rfl, rfl⟩ rfl rfl rfl rfl rfl (by kernel_rfl) Try.func9 (by kernel_rfl)
    (of_decide_eq_true (by kernel_rfl)) (by unfold Func.isWrapper; first | (rw [if_pos (by decide +kernel)]; kernel_rfl) | (rw [if_neg (by decide +kernel)]; exact ⟨rfl, rfl⟩))
    (fun os started H enc _ => lifted os started H enc)
end Go.Proofs.Ytdpfmaimhimfcaa.labelsTurned
namespace Go.Proofs.Ytdpfmaimhimfcaa
theorem labelsTurned_holds : Rows.LabelsTurnedSaid := labelsTurned.over
#print axioms labelsTurned_holds
end Go.Proofs.Ytdpfmaimhimfcaa
