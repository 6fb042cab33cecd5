/-
  NARROWER THAN 'FOR EVERY INPUT', by the rows' own cells (each row's printed sentence says how): ScanTrees: loops.
  DERIVED. THE GIVEN ROWS OF THIS SEAT. 7 by the template 'for every input the law returns true; each argument reads behind the call as it read before'; 0 by the template 'total and deterministic' (their statements: YtfgiifppapopnaaTotals.lean).
  GIVEN WITH THE SEED: the statements are not yours to turn. If you find one false, say at which input.
  Laid BY PROGRAM, IN A SANDBOX (cutbox-rows.mjs): the forced cells as the released guide's own fill.sh prints them over the translation 2a09bf3c924abe85… (all of the seat's roots in one cut). By AI agents, Wed Nov 11 2026. No macro, syntax, notation, axiom, sorry.
-/
import Derived.Test.YtfgiifppapopnaaChecked
import GoSem.Claim
import GoSem.ClaimJoined
import GoSem.ClaimMapViews
import Derived.JoinedTies
import Derived.KernelRfl
namespace Go.Proofs.Ytfgiifppapopnaa
/- THE CELL 'sum', in the pinned program and in every row, IS THE sha256 OF THE DUMP (.gsa) THAT YtfgiifppapopnaaProg.lean LOADS. Nothing in Lean hashes anything: it is a label: what it is worth is what the hold of that sum in a sandbox is worth. -/
noncomputable def Try.pinned : Pinned := { name := "ytfgiifppapopnaa", sum := "2a09bf3c924abe859d5daf989341310eb0c7ea72fde28fcc8782b78c48c0c07c", checked := Try.checked }
namespace Rows
def none {H : Type} : Left H := { results := [], args := [] }

/-- 'sordinelaw7.ScanRuns': WHATEVER THE INPUT: true; the input reads as it did. -/
def scanRunsSpec : ChangeSpec := { name := "scanRuns", fn := fun _ => fun
  | [] => { results := [.lit (.bool true)], args := [] }
  | _ => none }
def scanRunsRow : OpenClaim := { program := "ytfgiifppapopnaa", sum := "2a09bf3c924abe859d5daf989341310eb0c7ea72fde28fcc8782b78c48c0c07c", func := "sordine/sordinelaw7.ScanRuns", spec := "scanRuns", inPlace := ["internal/bytealg.IndexByteString"], unfollowed := true, recurses := true, apart := false }
def ScanRunsSaid : Prop := scanRunsRow.holds Try.pinned (OpenSpec.ofChange scanRunsSpec)

/-- ITS FALSE NEIGHBOUR: 'it returns false'. Refute it at one input. -/
def scanRunsWrong : ChangeSpec := { name := "scanRuns", fn := fun _ => fun
  | [] => { results := [.lit (.bool false)], args := [] }
  | _ => none }
def ScanRunsWrongFalsely : Prop := scanRunsRow.holds Try.pinned (OpenSpec.ofChange scanRunsWrong)

/-- 'sordinelaw7.ScanSets': WHATEVER THE INPUT: true; the input reads as it did. -/
def scanSetsSpec : ChangeSpec := { name := "scanSets", fn := fun _ => fun
  | [d1, d2, d3] => { results := [.lit (.bool true)], args := [d1, d2, d3] }
  | _ => none }
def scanSetsRow : OpenClaim := { program := "ytfgiifppapopnaa", sum := "2a09bf3c924abe859d5daf989341310eb0c7ea72fde28fcc8782b78c48c0c07c", func := "sordine/sordinelaw7.ScanSets", spec := "scanSets", inPlace := ["internal/bytealg.IndexByteString"], unfollowed := true, recurses := true, apart := false }
def ScanSetsSaid : Prop := scanSetsRow.holds Try.pinned (OpenSpec.ofChange scanSetsSpec)

/-- ITS FALSE NEIGHBOUR: 'it returns false'. Refute it at one input. -/
def scanSetsWrong : ChangeSpec := { name := "scanSets", fn := fun _ => fun
  | [d1, d2, d3] => { results := [.lit (.bool false)], args := [d1, d2, d3] }
  | _ => none }
def ScanSetsWrongFalsely : Prop := scanSetsRow.holds Try.pinned (OpenSpec.ofChange scanSetsWrong)

/-- 'sordinelaw7.ScanMatch': WHATEVER THE INPUT: true; the input reads as it did. -/
def scanMatchSpec : ChangeSpec := { name := "scanMatch", fn := fun _ => fun
  | [d1, d2] => { results := [.lit (.bool true)], args := [d1, d2] }
  | _ => none }
def scanMatchRow : OpenClaim := { program := "ytfgiifppapopnaa", sum := "2a09bf3c924abe859d5daf989341310eb0c7ea72fde28fcc8782b78c48c0c07c", func := "sordine/sordinelaw7.ScanMatch", spec := "scanMatch", inPlace := ["internal/bytealg.IndexByteString"], unfollowed := true, recurses := true, apart := false }
def ScanMatchSaid : Prop := scanMatchRow.holds Try.pinned (OpenSpec.ofChange scanMatchSpec)

/-- ITS FALSE NEIGHBOUR: 'it returns false'. Refute it at one input. -/
def scanMatchWrong : ChangeSpec := { name := "scanMatch", fn := fun _ => fun
  | [d1, d2] => { results := [.lit (.bool false)], args := [d1, d2] }
  | _ => none }
def ScanMatchWrongFalsely : Prop := scanMatchRow.holds Try.pinned (OpenSpec.ofChange scanMatchWrong)

/-- 'sordinelaw7.ScanPatterns': WHATEVER THE INPUT: true; the input reads as it did. -/
def scanPatternsSpec : ChangeSpec := { name := "scanPatterns", fn := fun _ => fun
  | [d1, d2] => { results := [.lit (.bool true)], args := [d1, d2] }
  | _ => none }
def scanPatternsRow : OpenClaim := { program := "ytfgiifppapopnaa", sum := "2a09bf3c924abe859d5daf989341310eb0c7ea72fde28fcc8782b78c48c0c07c", func := "sordine/sordinelaw7.ScanPatterns", spec := "scanPatterns", inPlace := ["internal/bytealg.IndexByteString"], unfollowed := true, recurses := true, apart := false }
def ScanPatternsSaid : Prop := scanPatternsRow.holds Try.pinned (OpenSpec.ofChange scanPatternsSpec)

/-- ITS FALSE NEIGHBOUR: 'it returns false'. Refute it at one input. -/
def scanPatternsWrong : ChangeSpec := { name := "scanPatterns", fn := fun _ => fun
  | [d1, d2] => { results := [.lit (.bool false)], args := [d1, d2] }
  | _ => none }
def ScanPatternsWrongFalsely : Prop := scanPatternsRow.holds Try.pinned (OpenSpec.ofChange scanPatternsWrong)

/-- 'sordinelaw7.ScanWays': WHATEVER THE INPUT: true; the input reads as it did. -/
def scanWaysSpec : ChangeSpec := { name := "scanWays", fn := fun _ => fun
  | [d1, d2, d3, d4] => { results := [.lit (.bool true)], args := [d1, d2, d3, d4] }
  | _ => none }
def scanWaysRow : OpenClaim := { program := "ytfgiifppapopnaa", sum := "2a09bf3c924abe859d5daf989341310eb0c7ea72fde28fcc8782b78c48c0c07c", func := "sordine/sordinelaw7.ScanWays", spec := "scanWays", inPlace := ["internal/bytealg.IndexByteString"], unfollowed := true, recurses := true, apart := false }
def ScanWaysSaid : Prop := scanWaysRow.holds Try.pinned (OpenSpec.ofChange scanWaysSpec)

/-- ITS FALSE NEIGHBOUR: 'it returns false'. Refute it at one input. -/
def scanWaysWrong : ChangeSpec := { name := "scanWays", fn := fun _ => fun
  | [d1, d2, d3, d4] => { results := [.lit (.bool false)], args := [d1, d2, d3, d4] }
  | _ => none }
def ScanWaysWrongFalsely : Prop := scanWaysRow.holds Try.pinned (OpenSpec.ofChange scanWaysWrong)

/-- 'sordinelaw7.ScanStates': WHATEVER THE INPUT: true; the input reads as it did. -/
def scanStatesSpec : ChangeSpec := { name := "scanStates", fn := fun _ => fun
  | [d1, d2, d3, d4] => { results := [.lit (.bool true)], args := [d1, d2, d3, d4] }
  | _ => none }
def scanStatesRow : OpenClaim := { program := "ytfgiifppapopnaa", sum := "2a09bf3c924abe859d5daf989341310eb0c7ea72fde28fcc8782b78c48c0c07c", func := "sordine/sordinelaw7.ScanStates", spec := "scanStates", inPlace := ["internal/bytealg.IndexByteString"], unfollowed := true, recurses := true, apart := false }
def ScanStatesSaid : Prop := scanStatesRow.holds Try.pinned (OpenSpec.ofChange scanStatesSpec)

/-- ITS FALSE NEIGHBOUR: 'it returns false'. Refute it at one input. -/
def scanStatesWrong : ChangeSpec := { name := "scanStates", fn := fun _ => fun
  | [d1, d2, d3, d4] => { results := [.lit (.bool false)], args := [d1, d2, d3, d4] }
  | _ => none }
def ScanStatesWrongFalsely : Prop := scanStatesRow.holds Try.pinned (OpenSpec.ofChange scanStatesWrong)

/-- 'sordinelaw7.ScanTrees': WHATEVER THE INPUT: true; the input reads as it did. -/
def scanTreesSpec : ChangeSpec := { name := "scanTrees", fn := fun _ => fun
  | [d1, d2] => { results := [.lit (.bool true)], args := [d1, d2] }
  | _ => none }
def scanTreesRow : OpenClaim := { program := "ytfgiifppapopnaa", sum := "2a09bf3c924abe859d5daf989341310eb0c7ea72fde28fcc8782b78c48c0c07c", func := "sordine/sordinelaw7.ScanTrees", spec := "scanTrees", inPlace := ["internal/bytealg.IndexByteString"], unfollowed := true, recurses := true, loops := true, apart := false }
def ScanTreesSaid : Prop := scanTreesRow.holds Try.pinned (OpenSpec.ofChange scanTreesSpec)

/-- ITS FALSE NEIGHBOUR: 'it returns false'. Refute it at one input. -/
def scanTreesWrong : ChangeSpec := { name := "scanTrees", fn := fun _ => fun
  | [d1, d2] => { results := [.lit (.bool false)], args := [d1, d2] }
  | _ => none }
def ScanTreesWrongFalsely : Prop := scanTreesRow.holds Try.pinned (OpenSpec.ofChange scanTreesWrong)

/- THE SECOND FORM. 'bulk': how many values and letters a reading holds, each counted each time it is reached (what is shared counts as often as it is met; a slice's spare places count too). A statement '..UptoSaid' is the law's where the arguments, and the package variables that the reading takes, are together of bulk at most 1048576: NARROWER than '..Said'. Prove '..Said' where nothing that the law and all that it calls make is longer than what came in: it says more and counts as full. Else prove '..UptoSaid'. A law counts once. -/
mutual
def uptoBulk {H : Type} : DataW H → Nat
  | .lit (.string bytes) => bytes.length + 1
  | .lit _ => 1
  | .nil => 1
  | .ptr d => uptoBulk d + 1
  | .slice elems spare => uptoBulkAll elems + uptoBulkAll spare + 1
  | .agg parts => uptoBulkAll parts + 1
  | .iface _ d => uptoBulk d + 1
  | .map entries => uptoBulkEntries entries + 1
  | .held _ => 1
def uptoBulkAll {H : Type} : List (DataW H) → Nat
  | [] => 0
  | d :: r => uptoBulk d + uptoBulkAll r
def uptoBulkEntries {H : Type} : List (Lit × DataW H) → Nat
  | [] => 0
  | x :: r => uptoBulkEntry x + uptoBulkEntries r
def uptoBulkEntry {H : Type} : Lit × DataW H → Nat
  | (.string bytes, d) => bytes.length + uptoBulk d + 1
  | (_, d) => uptoBulk d + 1
 end
def uptoSmall : (H : Type) → List (DataW H) → Bool := fun _ ds => decide (uptoBulkAll ds ≤ 1048576)
def OpenSpec.upto (s : _root_.Go.ChangeSpec) : _root_.Go.OpenSpec := { _root_.Go.OpenSpec.ofChange s with cond := some uptoSmall }

/-- 'sordinelaw7.ScanRuns', WHERE WHAT IT READS IS OF BULK AT MOST 1048576: true; the input reads as it did. -/
def scanRunsUptoRow : OpenClaim := { program := "ytfgiifppapopnaa", sum := "2a09bf3c924abe859d5daf989341310eb0c7ea72fde28fcc8782b78c48c0c07c", func := "sordine/sordinelaw7.ScanRuns", spec := "scanRuns", inPlace := ["internal/bytealg.IndexByteString"], unfollowed := true, recurses := true, apart := false, narrowed := true }
def ScanRunsUptoSaid : Prop := scanRunsUptoRow.holds Try.pinned (OpenSpec.upto scanRunsSpec)

/-- 'sordinelaw7.ScanSets', WHERE WHAT IT READS IS OF BULK AT MOST 1048576: true; the input reads as it did. -/
def scanSetsUptoRow : OpenClaim := { program := "ytfgiifppapopnaa", sum := "2a09bf3c924abe859d5daf989341310eb0c7ea72fde28fcc8782b78c48c0c07c", func := "sordine/sordinelaw7.ScanSets", spec := "scanSets", inPlace := ["internal/bytealg.IndexByteString"], unfollowed := true, recurses := true, apart := false, narrowed := true }
def ScanSetsUptoSaid : Prop := scanSetsUptoRow.holds Try.pinned (OpenSpec.upto scanSetsSpec)

/-- 'sordinelaw7.ScanMatch', WHERE WHAT IT READS IS OF BULK AT MOST 1048576: true; the input reads as it did. -/
def scanMatchUptoRow : OpenClaim := { program := "ytfgiifppapopnaa", sum := "2a09bf3c924abe859d5daf989341310eb0c7ea72fde28fcc8782b78c48c0c07c", func := "sordine/sordinelaw7.ScanMatch", spec := "scanMatch", inPlace := ["internal/bytealg.IndexByteString"], unfollowed := true, recurses := true, apart := false, narrowed := true }
def ScanMatchUptoSaid : Prop := scanMatchUptoRow.holds Try.pinned (OpenSpec.upto scanMatchSpec)

/-- 'sordinelaw7.ScanPatterns', WHERE WHAT IT READS IS OF BULK AT MOST 1048576: true; the input reads as it did. -/
def scanPatternsUptoRow : OpenClaim := { program := "ytfgiifppapopnaa", sum := "2a09bf3c924abe859d5daf989341310eb0c7ea72fde28fcc8782b78c48c0c07c", func := "sordine/sordinelaw7.ScanPatterns", spec := "scanPatterns", inPlace := ["internal/bytealg.IndexByteString"], unfollowed := true, recurses := true, apart := false, narrowed := true }
def ScanPatternsUptoSaid : Prop := scanPatternsUptoRow.holds Try.pinned (OpenSpec.upto scanPatternsSpec)

/-- 'sordinelaw7.ScanWays', WHERE WHAT IT READS IS OF BULK AT MOST 1048576: true; the input reads as it did. -/
def scanWaysUptoRow : OpenClaim := { program := "ytfgiifppapopnaa", sum := "2a09bf3c924abe859d5daf989341310eb0c7ea72fde28fcc8782b78c48c0c07c", func := "sordine/sordinelaw7.ScanWays", spec := "scanWays", inPlace := ["internal/bytealg.IndexByteString"], unfollowed := true, recurses := true, apart := false, narrowed := true }
def ScanWaysUptoSaid : Prop := scanWaysUptoRow.holds Try.pinned (OpenSpec.upto scanWaysSpec)

/-- 'sordinelaw7.ScanStates', WHERE WHAT IT READS IS OF BULK AT MOST 1048576: true; the input reads as it did. -/
def scanStatesUptoRow : OpenClaim := { program := "ytfgiifppapopnaa", sum := "2a09bf3c924abe859d5daf989341310eb0c7ea72fde28fcc8782b78c48c0c07c", func := "sordine/sordinelaw7.ScanStates", spec := "scanStates", inPlace := ["internal/bytealg.IndexByteString"], unfollowed := true, recurses := true, apart := false, narrowed := true }
def ScanStatesUptoSaid : Prop := scanStatesUptoRow.holds Try.pinned (OpenSpec.upto scanStatesSpec)

/-- 'sordinelaw7.ScanTrees', WHERE WHAT IT READS IS OF BULK AT MOST 1048576: true; the input reads as it did. -/
def scanTreesUptoRow : OpenClaim := { program := "ytfgiifppapopnaa", sum := "2a09bf3c924abe859d5daf989341310eb0c7ea72fde28fcc8782b78c48c0c07c", func := "sordine/sordinelaw7.ScanTrees", spec := "scanTrees", inPlace := ["internal/bytealg.IndexByteString"], unfollowed := true, recurses := true, loops := true, apart := false, narrowed := true }
def ScanTreesUptoSaid : Prop := scanTreesUptoRow.holds Try.pinned (OpenSpec.upto scanTreesSpec)

end Rows
end Go.Proofs.Ytfgiifppapopnaa
