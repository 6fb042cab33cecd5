/- Proved: sordinelaw1.VintBack returns true, whatever it is handed. Conditions: none. -/
import Derived.Test.YtfbjgddeipligaaRows
import Derived.Test.YtfbjgddeipligaaCh2
import Derived.WalkKit
import Derived.ProofKit
import Derived.OpenShut
import Derived.ShutString
import Derived.ChangeOld
import Derived.Below
import Derived.SizedLaws
namespace Go.Proofs.Ytfbjgddeipligaa.vintBack
open Go.ChangeShapes Go.WideShapes Go.ChangeAt Go.RowKit
open Go.ChangeMaps (open_string shut_string)
open Go.Proofs.Ytfbjgddeipligaa.AM
set_option linter.unusedVariables false
set_option linter.unusedSimpArgs false
theorem hmix : Try.prog.follows .mixedOrders = true := Try.checked.mixed
theorem walk (W : World) (n : Int) (s : ByteArray) (a : Option Addr) (len cap : Nat) (cut : Int) (w0 : (Lit.int .u64 n).wf = true) (w1 : s.size ≤ 140737488351232)
    (w2 : (a = none ∧ len = 0 ∧ cap = 0) ∨ ∃ (x : Addr) (zs : List Int), a = some x ∧ len ≤ cap ∧ zs.length = cap ∧ (∀ n ∈ zs, (Lit.int .u8 n).wf = true) ∧ Row W x (zs.map (Value.int .u8))) (w3 : (Lit.int .i64 cut).wf = true) :
    Calls Try.prog 8 #[.int .u64 n, .string s, .slice a len cap, .int .i64 cut] W (fun e W' => e = .returned (.bool true) ∧ Below W.heap.size W W') := by
  obtain ⟨h0, h1⟩ := u64_of w0
  rcases w2 with ⟨rfl, rfl, rfl⟩ | ⟨x, zs, rfl, hl, rfl, hz, hr⟩
  · have main : FunSays Try.prog 8 [.int .u64 n, .string s, .slice none 0 0, .int .i64 cut] (hp []) fun v _ => v = .bool true := by
      by_cases hs : 400 < s.size
      · exact law8zb hmix n s cut hs
      · exact law8z hmix n s cut ⟨h0, h1, by omega⟩
    exact main.entry rfl Stands.nil (.cons (flat_refl rfl) (.cons (flat_refl rfl) (.cons (flat_refl rfl) (.cons (flat_refl rfl) (VRs.nil _)))))
  · obtain ⟨l, st, e1, e2⟩ := Stands.nil.row hr 1
    obtain ⟨q1, q2⟩ := slice_u8 zs len hl hz
    have main : FunSays Try.prog 8 [.int .u64 n, .string s, .slice (some ⟨0,0,some 0⟩) len zs.length, .int .i64 cut] (hp [.cells (zs.map (Value.int .u8)) 1 false]) fun v _ => v = .bool true := by
      by_cases hs : 400 < s.size ∨ 400 < len
      · exact law8nb hmix _ 0 (some 0) len zs.length n s cut hs hr.flat
      · exact law8n hmix _ 0 (some 0) len zs.length n s cut (zs.take len) ⟨h0, h1, by omega⟩ ⟨q1, hl, by omega, by simp; omega, q2 (by omega)⟩
    exact main.entry rfl st (args' := [.int .u64 n, .string s, .slice (some x) len zs.length, .int .i64 cut]) (.cons (flat_refl rfl) (.cons (flat_refl rfl) (.cons (VR.row rfl e1 e2 hr.spot hl) (.cons (flat_refl rfl) (VRs.nil _)))))

theorem own : ownKnob Try.prog.godebug = none := by kernel_rfl
theorem laidOut : laidOutB Try.prog = true := by kernel_rfl
set_option maxRecDepth 100000 in
theorem lifted (os : Os) (started : os.Started) (H : Type) (enc : TypeId × Value → H) :
    ReturnsInHanded {} Try.checked os 8 .any (Rows.vintBackSpec.pre6 enc Try.prog Try.f8 Rows.vintBackRow.domain false) (Rows.vintBackSpec.post enc Try.prog Try.f8 false true false false) := by
  refine returnsInHanded_of_change_sized (C := Try.checked) own started (by kernel_rfl) Try.func8
    (ChangeSpec.witness6 (enc := enc) (C := Try.checked) false ⟨#[], #[.int .u64 0, .string ByteArray.empty, .slice none 0 0, .int .i64 0], []⟩ 8 (by kernel_rfl) (by kernel_rfl) (by kernel_rfl) (by kernel_rfl)) ?_
  intro W base args ds gs before hval0 hW hcnd hsz0 _
  have hsz : (DataW.weightsEach Try.prog (Try.f8.params.toList ++ Rows.vintBackSpec.plain.varTypes Try.prog) (ds ++ gs)).all (· ≤ reachBytes) = true := hsz0
  have hval : ∀ (j : Nat) t v, Try.f8.params[j]? = some t → args[j]? = some v → Value.okWide Try.prog W .any base t v := hval0
  have hW' := hW
  obtain ⟨p, q, hA0, hV, rfl, hfz, hnd⟩ := hW
  have hA : DataW.TrodAll enc Try.prog W 0 (fun _ => true) true Try.f8.params.toList args.toList ds p := hA0
  rw [Try.params8] at hA hval hsz
  obtain ⟨v0, vs0, d0, ds0, p0, q0, hargs, rfl, rfl, h0, r0⟩ := trodAll_cons hA
  obtain ⟨v1, vs1, d1, ds1, p1, q1, rfl, rfl, rfl, h1, r1⟩ := trodAll_cons r0
  obtain ⟨v2, vs2, d2, ds2, p2, q2, rfl, rfl, rfl, h2, r2⟩ := trodAll_cons r1
  obtain ⟨v3, vs3, d3, ds3, p3, q3, rfl, rfl, rfl, h3, r3⟩ := trodAll_cons r2
  obtain ⟨rfl, rfl, rfl⟩ := trodAll_nil r3
  obtain rfl : args = #[v0, v1, v2, v3] := by cases args; simp_all
  obtain ⟨rfl, rfl⟩ := trodVars_none hV
  obtain ⟨a0, rfl, rfl, rfl, w0⟩ := open_int Try.underlying22 (hval 0 22 v0 rfl rfl) h0
  obtain ⟨a1, rfl, rfl, rfl, y1⟩ := open_string Try.underlying9 (hval 1 9 v1 rfl rfl) h1
  have w1 : a1.size ≤ 140737488351232 := by
    have z := sized_string hsz (j := 1) (t := 9) rfl rfl
    rw [Array.length_toList] at z
    exact z
  have o2 := (hval 2 25 v2 rfl rfl)
  obtain ⟨a2, len2, cap2, rfl⟩ := okWide_slice Try.underlying25 o2
  have k2 := h2
  have lt2 : ∀ x ∈ p2, x.block < W.heap.size := by obtain ⟨m, hm⟩ := k2; exact DataW.trod_lt m _ _ _ hm
  have w2 := row_ints Try.underlying25 Try.underlying5 (by kernel_rfl) o2 h2
  obtain ⟨a3, rfl, rfl, rfl, w3⟩ := open_int Try.underlying3 (hval 3 3 v3 rfl rfl) h3
  clear hA0 hval0 hsz0 hsz
  refine (walk W a0 a1 a2 len2 cap2 a3 w0 w1 w2 w3).mono fun e W' ⟨he, bel⟩ => ?_
  subst he
  exact ⟨_, rfl, _, _, _, [], _, [], hW', trodAll_mk1 (shut_bool Try.underlying4 _), (trodAll_cons_mk (shut_int Try.underlying22 w0) (trodAll_cons_mk (shut_string Try.underlying9 y1) (trodAll_cons_mk (Below.trod laidOut (by kernel_rfl) (of_decide_eq_true (by kernel_rfl)) k2 bel lt2) (trodAll_cons_mk (shut_int Try.underlying3 w3) trodAll_mk0)))), rfl, bel.frame _, fun h => by cases h⟩
theorem over : Rows.vintBackRow.holds Try.pinned (OpenSpec.ofChange Rows.vintBackSpec) :=
  OpenClaim.holds_of_wide 8 Try.f8 rfl rfl rfl rfl rfl rfl rfl ⟨rfl, rfl, rfl, rfl, rfl⟩ rfl rfl rfl rfl rfl (by kernel_rfl) Try.func8 (by kernel_rfl)
    (of_decide_eq_true (by kernel_rfl)) (by unfold Func.isWrapper; first | (rw [if_pos (by decide +kernel)]; kernel_rfl) | (rw [if_neg (by decide +kernel)]; exact ⟨rfl, rfl⟩))
    (fun os started H enc _ => lifted os started H enc)
end Go.Proofs.Ytfbjgddeipligaa.vintBack
namespace Go.Proofs.Ytfbjgddeipligaa
theorem vintBack_holds : Rows.VintBackSaid := vintBack.over
#print axioms vintBack_holds
end Go.Proofs.Ytfbjgddeipligaa
