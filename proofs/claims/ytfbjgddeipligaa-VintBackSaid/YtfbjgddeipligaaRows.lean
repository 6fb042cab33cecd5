/-
  No cell of these rows narrows 'for every input' (looked for: loops, veiled, ifaces, maps, wideKeys, modest, calm, conditions, laid).
  DERIVED. THE GIVEN ROWS OF THIS SEAT. 6 by the template 'for every input the law returns true; each argument reads behind the call as it read before'; 0 by the template 'total and deterministic' (their statements: YtfbjgddeipligaaTotals.lean).
  GIVEN WITH THE SEED: the statements are not yours to turn. If you find one false, say at which input.
  Laid BY PROGRAM, IN A SANDBOX (cutbox-rows.mjs): the forced cells as the released guide's own fill.sh prints them over the translation 3652fad8ccbc4aab… (all of the seat's roots in one cut). By AI agents, Wed Nov 11 2026. No macro, syntax, notation, axiom, sorry.
-/
import Derived.Test.YtfbjgddeipligaaChecked
import GoSem.Claim
import GoSem.ClaimJoined
import GoSem.ClaimMapViews
import Derived.JoinedTies
import Derived.KernelRfl
namespace Go.Proofs.Ytfbjgddeipligaa
/- THE CELL 'sum', in the pinned program and in every row, IS THE sha256 OF THE DUMP (.gsa) THAT YtfbjgddeipligaaProg.lean LOADS. Nothing in Lean hashes anything: it is a label: what it is worth is what the hold of that sum in a sandbox is worth. -/
noncomputable def Try.pinned : Pinned := { name := "ytfbjgddeipligaa", sum := "3652fad8ccbc4aab69221f37963290b4a4034d3e941914896dea39c0b36d51e7", checked := Try.checked }
namespace Rows
def none {H : Type} : Left H := { results := [], args := [] }

/-- 'sordinelaw1.VintRuns': WHATEVER THE INPUT: true; the input reads as it did. -/
def vintRunsSpec : ChangeSpec := { name := "vintRuns", fn := fun _ => fun
  | [] => { results := [.lit (.bool true)], args := [] }
  | _ => none }
def vintRunsRow : OpenClaim := { program := "ytfbjgddeipligaa", sum := "3652fad8ccbc4aab69221f37963290b4a4034d3e941914896dea39c0b36d51e7", func := "sordine/sordinelaw1.VintRuns", spec := "vintRuns", apart := false }
def VintRunsSaid : Prop := vintRunsRow.holds Try.pinned (OpenSpec.ofChange vintRunsSpec)

/-- ITS FALSE NEIGHBOUR: 'it returns false'. Refute it at one input. -/
def vintRunsWrong : ChangeSpec := { name := "vintRuns", fn := fun _ => fun
  | [] => { results := [.lit (.bool false)], args := [] }
  | _ => none }
def VintRunsWrongFalsely : Prop := vintRunsRow.holds Try.pinned (OpenSpec.ofChange vintRunsWrong)

/-- 'sordinelaw1.VintOne': WHATEVER THE INPUT: true; the input reads as it did. -/
def vintOneSpec : ChangeSpec := { name := "vintOne", fn := fun _ => fun
  | [d] => { results := [.lit (.bool true)], args := [d] }
  | _ => none }
def vintOneRow : OpenClaim := { program := "ytfbjgddeipligaa", sum := "3652fad8ccbc4aab69221f37963290b4a4034d3e941914896dea39c0b36d51e7", func := "sordine/sordinelaw1.VintOne", spec := "vintOne", apart := false }
def VintOneSaid : Prop := vintOneRow.holds Try.pinned (OpenSpec.ofChange vintOneSpec)

/-- ITS FALSE NEIGHBOUR: 'it returns false'. Refute it at one input. -/
def vintOneWrong : ChangeSpec := { name := "vintOne", fn := fun _ => fun
  | [d] => { results := [.lit (.bool false)], args := [d] }
  | _ => none }
def VintOneWrongFalsely : Prop := vintOneRow.holds Try.pinned (OpenSpec.ofChange vintOneWrong)

/-- 'sordinelaw1.VintGrows': WHATEVER THE INPUT: true; the input reads as it did. -/
def vintGrowsSpec : ChangeSpec := { name := "vintGrows", fn := fun _ => fun
  | [d1, d2] => { results := [.lit (.bool true)], args := [d1, d2] }
  | _ => none }
def vintGrowsRow : OpenClaim := { program := "ytfbjgddeipligaa", sum := "3652fad8ccbc4aab69221f37963290b4a4034d3e941914896dea39c0b36d51e7", func := "sordine/sordinelaw1.VintGrows", spec := "vintGrows", apart := false }
def VintGrowsSaid : Prop := vintGrowsRow.holds Try.pinned (OpenSpec.ofChange vintGrowsSpec)

/-- ITS FALSE NEIGHBOUR: 'it returns false'. Refute it at one input. -/
def vintGrowsWrong : ChangeSpec := { name := "vintGrows", fn := fun _ => fun
  | [d1, d2] => { results := [.lit (.bool false)], args := [d1, d2] }
  | _ => none }
def VintGrowsWrongFalsely : Prop := vintGrowsRow.holds Try.pinned (OpenSpec.ofChange vintGrowsWrong)

/-- 'sordinelaw1.VintPuts': WHATEVER THE INPUT: true; the input reads as it did. -/
def vintPutsSpec : ChangeSpec := { name := "vintPuts", fn := fun _ => fun
  | [d1, d2] => { results := [.lit (.bool true)], args := [d1, d2] }
  | _ => none }
def vintPutsRow : OpenClaim := { program := "ytfbjgddeipligaa", sum := "3652fad8ccbc4aab69221f37963290b4a4034d3e941914896dea39c0b36d51e7", func := "sordine/sordinelaw1.VintPuts", spec := "vintPuts", apart := false }
def VintPutsSaid : Prop := vintPutsRow.holds Try.pinned (OpenSpec.ofChange vintPutsSpec)

/-- ITS FALSE NEIGHBOUR: 'it returns false'. Refute it at one input. -/
def vintPutsWrong : ChangeSpec := { name := "vintPuts", fn := fun _ => fun
  | [d1, d2] => { results := [.lit (.bool false)], args := [d1, d2] }
  | _ => none }
def VintPutsWrongFalsely : Prop := vintPutsRow.holds Try.pinned (OpenSpec.ofChange vintPutsWrong)

/-- 'sordinelaw1.VintGets': WHATEVER THE INPUT: true; the input reads as it did. -/
def vintGetsSpec : ChangeSpec := { name := "vintGets", fn := fun _ => fun
  | [d1, d2] => { results := [.lit (.bool true)], args := [d1, d2] }
  | _ => none }
def vintGetsRow : OpenClaim := { program := "ytfbjgddeipligaa", sum := "3652fad8ccbc4aab69221f37963290b4a4034d3e941914896dea39c0b36d51e7", func := "sordine/sordinelaw1.VintGets", spec := "vintGets", apart := false }
def VintGetsSaid : Prop := vintGetsRow.holds Try.pinned (OpenSpec.ofChange vintGetsSpec)

/-- ITS FALSE NEIGHBOUR: 'it returns false'. Refute it at one input. -/
def vintGetsWrong : ChangeSpec := { name := "vintGets", fn := fun _ => fun
  | [d1, d2] => { results := [.lit (.bool false)], args := [d1, d2] }
  | _ => none }
def VintGetsWrongFalsely : Prop := vintGetsRow.holds Try.pinned (OpenSpec.ofChange vintGetsWrong)

/-- 'sordinelaw1.VintBack': WHATEVER THE INPUT: true; the input reads as it did. -/
def vintBackSpec : ChangeSpec := { name := "vintBack", fn := fun _ => fun
  | [d1, d2, d3, d4] => { results := [.lit (.bool true)], args := [d1, d2, d3, d4] }
  | _ => none }
def vintBackRow : OpenClaim := { program := "ytfbjgddeipligaa", sum := "3652fad8ccbc4aab69221f37963290b4a4034d3e941914896dea39c0b36d51e7", func := "sordine/sordinelaw1.VintBack", spec := "vintBack", apart := false }
def VintBackSaid : Prop := vintBackRow.holds Try.pinned (OpenSpec.ofChange vintBackSpec)

/-- ITS FALSE NEIGHBOUR: 'it returns false'. Refute it at one input. -/
def vintBackWrong : ChangeSpec := { name := "vintBack", fn := fun _ => fun
  | [d1, d2, d3, d4] => { results := [.lit (.bool false)], args := [d1, d2, d3, d4] }
  | _ => none }
def VintBackWrongFalsely : Prop := vintBackRow.holds Try.pinned (OpenSpec.ofChange vintBackWrong)

/- THE SECOND FORM. 'bulk': how many values and letters a reading holds, each counted each time it is reached (what is shared counts as often as it is met; a slice's spare places count too). A statement '..UptoSaid' is the law's where the arguments, and the package variables that the reading takes, are together of bulk at most 1048576: NARROWER than '..Said'. Prove '..Said' where nothing that the law and all that it calls make is longer than what came in: it says more and counts as full. Else prove '..UptoSaid'. A law counts once. -/
mutual
def uptoBulk {H : Type} : DataW H → Nat
  | .lit (.string bytes) => bytes.length + 1
  | .lit _ => 1
  | .nil => 1
  | .ptr d => uptoBulk d + 1
  | .slice elems spare => uptoBulkAll elems + uptoBulkAll spare + 1
  | .agg parts => uptoBulkAll parts + 1
  | .iface _ d => uptoBulk d + 1
  | .map entries => uptoBulkEntries entries + 1
  | .held _ => 1
def uptoBulkAll {H : Type} : List (DataW H) → Nat
  | [] => 0
  | d :: r => uptoBulk d + uptoBulkAll r
def uptoBulkEntries {H : Type} : List (Lit × DataW H) → Nat
  | [] => 0
  | x :: r => uptoBulkEntry x + uptoBulkEntries r
def uptoBulkEntry {H : Type} : Lit × DataW H → Nat
  | (.string bytes, d) => bytes.length + uptoBulk d + 1
  | (_, d) => uptoBulk d + 1
 end
def uptoSmall : (H : Type) → List (DataW H) → Bool := fun _ ds => decide (uptoBulkAll ds ≤ 1048576)
def OpenSpec.upto (s : _root_.Go.ChangeSpec) : _root_.Go.OpenSpec := { _root_.Go.OpenSpec.ofChange s with cond := some uptoSmall }

/-- 'sordinelaw1.VintRuns', WHERE WHAT IT READS IS OF BULK AT MOST 1048576: true; the input reads as it did. -/
def vintRunsUptoRow : OpenClaim := { program := "ytfbjgddeipligaa", sum := "3652fad8ccbc4aab69221f37963290b4a4034d3e941914896dea39c0b36d51e7", func := "sordine/sordinelaw1.VintRuns", spec := "vintRuns", apart := false, narrowed := true }
def VintRunsUptoSaid : Prop := vintRunsUptoRow.holds Try.pinned (OpenSpec.upto vintRunsSpec)

/-- 'sordinelaw1.VintOne', WHERE WHAT IT READS IS OF BULK AT MOST 1048576: true; the input reads as it did. -/
def vintOneUptoRow : OpenClaim := { program := "ytfbjgddeipligaa", sum := "3652fad8ccbc4aab69221f37963290b4a4034d3e941914896dea39c0b36d51e7", func := "sordine/sordinelaw1.VintOne", spec := "vintOne", apart := false, narrowed := true }
def VintOneUptoSaid : Prop := vintOneUptoRow.holds Try.pinned (OpenSpec.upto vintOneSpec)

/-- 'sordinelaw1.VintGrows', WHERE WHAT IT READS IS OF BULK AT MOST 1048576: true; the input reads as it did. -/
def vintGrowsUptoRow : OpenClaim := { program := "ytfbjgddeipligaa", sum := "3652fad8ccbc4aab69221f37963290b4a4034d3e941914896dea39c0b36d51e7", func := "sordine/sordinelaw1.VintGrows", spec := "vintGrows", apart := false, narrowed := true }
def VintGrowsUptoSaid : Prop := vintGrowsUptoRow.holds Try.pinned (OpenSpec.upto vintGrowsSpec)

/-- 'sordinelaw1.VintPuts', WHERE WHAT IT READS IS OF BULK AT MOST 1048576: true; the input reads as it did. -/
def vintPutsUptoRow : OpenClaim := { program := "ytfbjgddeipligaa", sum := "3652fad8ccbc4aab69221f37963290b4a4034d3e941914896dea39c0b36d51e7", func := "sordine/sordinelaw1.VintPuts", spec := "vintPuts", apart := false, narrowed := true }
def VintPutsUptoSaid : Prop := vintPutsUptoRow.holds Try.pinned (OpenSpec.upto vintPutsSpec)

/-- 'sordinelaw1.VintGets', WHERE WHAT IT READS IS OF BULK AT MOST 1048576: true; the input reads as it did. -/
def vintGetsUptoRow : OpenClaim := { program := "ytfbjgddeipligaa", sum := "3652fad8ccbc4aab69221f37963290b4a4034d3e941914896dea39c0b36d51e7", func := "sordine/sordinelaw1.VintGets", spec := "vintGets", apart := false, narrowed := true }
def VintGetsUptoSaid : Prop := vintGetsUptoRow.holds Try.pinned (OpenSpec.upto vintGetsSpec)

/-- 'sordinelaw1.VintBack', WHERE WHAT IT READS IS OF BULK AT MOST 1048576: true; the input reads as it did. -/
def vintBackUptoRow : OpenClaim := { program := "ytfbjgddeipligaa", sum := "3652fad8ccbc4aab69221f37963290b4a4034d3e941914896dea39c0b36d51e7", func := "sordine/sordinelaw1.VintBack", spec := "vintBack", apart := false, narrowed := true }
def VintBackUptoSaid : Prop := vintBackUptoRow.holds Try.pinned (OpenSpec.upto vintBackSpec)

end Rows
end Go.Proofs.Ytfbjgddeipligaa
