/- Proved: sordinelaw7.ScanRuns returns true. Conditions: none. -/
import Derived.Test.YtfgiifppapopnaaRows
import Derived.Test.YtfgiifppapopnaaAm2
import Derived.WalkKit
import Derived.ProofKit
import Derived.OpenShut
import Derived.ShutString
import Derived.ChangeOld
import Derived.Below
import Derived.SizedLaws
namespace Go.Proofs.Ytfgiifppapopnaa.scanRuns
open Go.ChangeShapes Go.WideShapes Go.ChangeAt Go.RowKit
open Go.ChangeMaps (open_string shut_string)
open Go.Proofs.Ytfgiifppapopnaa.AM
set_option linter.unusedVariables false

theorem named : (Try.prog.funcs.toList.all fun fn => !(fn.name == "runtime.NumGoroutine")) = true := by decide +kernel
theorem plain : Plain Try.prog := fun f fn hf _ hn => by
  have h1 := List.all_eq_true.1 named fn (by simpa using Array.mem_of_getElem? hf)
  rw [hn] at h1
  exact absurd h1 (by decide)

/-- what the abstract machine comes to -/
noncomputable def isT : Option (Value × Heap) → Bool
  | some (.bool true, _) => true
  | _ => false
theorem isT_true {r : Option (Value × Heap)} (h : isT r = true) : ∃ h', r = some (.bool true, h') := by
  unfold isT at h
  split at h
  · exact ⟨_, rfl⟩
  · cases h
theorem runs : isT (acall Try.prog (fun _ => none) 300 3 [] Heap.empty) = true := by decide +kernel
theorem walk (w : World) : Calls Try.prog 3 #[] w (fun e w' => e = .returned (.bool true) ∧ Below w.heap.size w w') := by
  obtain ⟨h', h2⟩ := isT_true runs
  have hmix : Try.prog.follows .mixedOrders = true := Try.checked.mixed
  rcases acall_ok hmix plain (S := fun _ => none) (fun f s hs => by cases hs) 300 3 [] Heap.empty (.bool true) h' h2 (fun _ => none) w [] (fun B _ _ => rfl) (WR.empty w) (VRs.nil _) with ⟨fn, _, _, hc⟩ | ⟨_, _, _, hq⟩
  · refine hc.mono ?_
    rintro e w' ⟨ρ', v', rfl, r', f', hv'⟩
    have hno : ∀ b, ¬ Own (fun _ => none) Heap.empty b := fun b ⟨B, l, cs, e, _, hl, _⟩ => by cases hl
    refine ⟨by rw [hv'.bool], f'.os, f'.tape, f'.output, f'.ws, fun k hk => (f'.keep k hk (hno k)).1⟩
  · exfalso
    have := hq w
    rw [run_callFunc_enter plain Try.func3 rfl] at this
    cases this

theorem own : ownKnob Try.prog.godebug = none := by kernel_rfl
set_option maxRecDepth 100000 in
theorem lifted (os : Os) (started : os.Started) (H : Type) (enc : TypeId × Value → H) :
    ReturnsInHanded {} Try.checked os 3 .any (Rows.scanRunsSpec.pre6 enc Try.prog Try.f3 Rows.scanRunsRow.domain false) (Rows.scanRunsSpec.post enc Try.prog Try.f3 false true false false) := by
  refine returnsInHanded_of_change_sized (C := Try.checked) own started (by kernel_rfl) Try.func3
    (ChangeSpec.witness6 (enc := enc) (C := Try.checked) false ⟨#[], #[], []⟩ 8 (by kernel_rfl) (by kernel_rfl) (by kernel_rfl) (by kernel_rfl)) ?_
  intro W base args ds gs before hval0 hW hcnd hsz0 _
  have hsz : (DataW.weightsEach Try.prog (Try.f3.params.toList ++ Rows.scanRunsSpec.plain.varTypes Try.prog) (ds ++ gs)).all (· ≤ reachBytes) = true := hsz0
  have hval : ∀ (j : Nat) t v, Try.f3.params[j]? = some t → args[j]? = some v → Value.okWide Try.prog W .any base t v := hval0
  have hW' := hW
  obtain ⟨p, q, hA0, hV, rfl, hfz, hnd⟩ := hW
  have hA : DataW.TrodAll enc Try.prog W 0 (fun _ => true) true Try.f3.params.toList args.toList ds p := hA0
  rw [Try.params3] at hA hval hsz
  obtain ⟨rfl, rfl, rfl⟩ := trodAll_none hA
  obtain ⟨rfl, rfl⟩ := trodVars_none hV
  clear hA0 hval0 hsz0 hsz
  refine (walk W).mono fun e W' ⟨he, bel⟩ => ?_
  subst he
  exact ⟨_, rfl, _, _, _, [], _, [], hW', trodAll_mk1 (shut_bool Try.underlying4 _), trodAll_mk0, rfl, bel.frame _, fun h => by cases h⟩
theorem over : Rows.scanRunsRow.holds Try.pinned (OpenSpec.ofChange Rows.scanRunsSpec) :=
  OpenClaim.holds_of_wide 3 Try.f3 rfl rfl rfl rfl rfl rfl rfl ⟨rfl, rfl, rfl, rfl, rfl⟩ rfl rfl rfl rfl rfl (by kernel_rfl) Try.func3 (by kernel_rfl)
    (of_decide_eq_true (by kernel_rfl)) (by unfold Func.isWrapper; first | (rw [if_pos (by decide +kernel)]; kernel_rfl) | (rw [if_neg (by decide +kernel)]; exact ⟨rfl, rfl⟩))
    (fun os started H enc _ => lifted os started H enc)
end Go.Proofs.Ytfgiifppapopnaa.scanRuns
namespace Go.Proofs.Ytfgiifppapopnaa
theorem scanRuns_holds : Rows.ScanRunsSaid := scanRuns.over
#print axioms scanRuns_holds
end Go.Proofs.Ytfgiifppapopnaa
