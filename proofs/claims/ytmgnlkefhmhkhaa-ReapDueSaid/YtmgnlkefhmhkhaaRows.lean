/-
  No cell of these rows narrows 'for every input' (looked for: loops, veiled, ifaces, maps, wideKeys, modest, calm, conditions, laid).
  DERIVED. THE GIVEN ROWS OF THIS SEAT. 4 by the template 'for every input the law returns true; each argument reads behind the call as it read before'; 0 by the template 'total and deterministic' (their statements: YtmgnlkefhmhkhaaTotals.lean).
  GIVEN WITH THE SEED: the statements are not yours to turn. If you find one false, say at which input.
  Laid BY PROGRAM, IN A SANDBOX (cutbox-rows.mjs): the forced cells as the released guide's own fill.sh prints them over the translation 50b628e2b790fbfa… (all of the seat's roots in one cut). By AI agents, Wed Nov 11 2026. No macro, syntax, notation, axiom, sorry.
-/
import Derived.Test.YtmgnlkefhmhkhaaChecked
import GoSem.Claim
import GoSem.ClaimJoined
import GoSem.ClaimMapViews
import Derived.JoinedTies
import Derived.KernelRfl
namespace Go.Proofs.Ytmgnlkefhmhkhaa
/- THE CELL 'sum', in the pinned program and in every row, IS THE sha256 OF THE DUMP (.gsa) THAT YtmgnlkefhmhkhaaProg.lean LOADS. Nothing in Lean hashes anything: it is a label: what it is worth is what the hold of that sum in a sandbox is worth. -/
noncomputable def Try.pinned : Pinned := { name := "ytmgnlkefhmhkhaa", sum := "50b628e2b790fbfaba03b1786588ed3122a4fc684699e22eb6cf715c7e7402c7", checked := Try.checked }
namespace Rows
def none {H : Type} : Left H := { results := [], args := [] }

/-- 'sordinelaw13.ReapRuns': WHATEVER THE INPUT: true; the input reads as it did. -/
def reapRunsSpec : ChangeSpec := { name := "reapRuns", fn := fun _ => fun
  | [] => { results := [.lit (.bool true)], args := [] }
  | _ => none }
def reapRunsRow : OpenClaim := { program := "ytmgnlkefhmhkhaa", sum := "50b628e2b790fbfaba03b1786588ed3122a4fc684699e22eb6cf715c7e7402c7", func := "sordine/sordinelaw13.ReapRuns", spec := "reapRuns", inPlace := ["slices.overlaps[sordine/reap.entry]"], unfollowed := true, recurses := true, apart := false }
def ReapRunsSaid : Prop := reapRunsRow.holds Try.pinned (OpenSpec.ofChange reapRunsSpec)

/-- ITS FALSE NEIGHBOUR: 'it returns false'. Refute it at one input. -/
def reapRunsWrong : ChangeSpec := { name := "reapRuns", fn := fun _ => fun
  | [] => { results := [.lit (.bool false)], args := [] }
  | _ => none }
def ReapRunsWrongFalsely : Prop := reapRunsRow.holds Try.pinned (OpenSpec.ofChange reapRunsWrong)

/-- 'sordinelaw13.ReapPlays': WHATEVER THE INPUT: true; the input reads as it did. -/
def reapPlaysSpec : ChangeSpec := { name := "reapPlays", fn := fun _ => fun
  | [d1, d2] => { results := [.lit (.bool true)], args := [d1, d2] }
  | _ => none }
def reapPlaysRow : OpenClaim := { program := "ytmgnlkefhmhkhaa", sum := "50b628e2b790fbfaba03b1786588ed3122a4fc684699e22eb6cf715c7e7402c7", func := "sordine/sordinelaw13.ReapPlays", spec := "reapPlays", inPlace := ["slices.overlaps[sordine/reap.entry]"], unfollowed := true, recurses := true, apart := false }
def ReapPlaysSaid : Prop := reapPlaysRow.holds Try.pinned (OpenSpec.ofChange reapPlaysSpec)

/-- ITS FALSE NEIGHBOUR: 'it returns false'. Refute it at one input. -/
def reapPlaysWrong : ChangeSpec := { name := "reapPlays", fn := fun _ => fun
  | [d1, d2] => { results := [.lit (.bool false)], args := [d1, d2] }
  | _ => none }
def ReapPlaysWrongFalsely : Prop := reapPlaysRow.holds Try.pinned (OpenSpec.ofChange reapPlaysWrong)

/-- 'sordinelaw13.ReapDue': WHATEVER THE INPUT: true; the input reads as it did. -/
def reapDueSpec : ChangeSpec := { name := "reapDue", fn := fun _ => fun
  | [d1, d2, d3] => { results := [.lit (.bool true)], args := [d1, d2, d3] }
  | _ => none }
def reapDueRow : OpenClaim := { program := "ytmgnlkefhmhkhaa", sum := "50b628e2b790fbfaba03b1786588ed3122a4fc684699e22eb6cf715c7e7402c7", func := "sordine/sordinelaw13.ReapDue", spec := "reapDue", inPlace := ["slices.overlaps[sordine/reap.entry]"], unfollowed := true, recurses := true, apart := false }
def ReapDueSaid : Prop := reapDueRow.holds Try.pinned (OpenSpec.ofChange reapDueSpec)

/-- ITS FALSE NEIGHBOUR: 'it returns false'. Refute it at one input. -/
def reapDueWrong : ChangeSpec := { name := "reapDue", fn := fun _ => fun
  | [d1, d2, d3] => { results := [.lit (.bool false)], args := [d1, d2, d3] }
  | _ => none }
def ReapDueWrongFalsely : Prop := reapDueRow.holds Try.pinned (OpenSpec.ofChange reapDueWrong)

/-- 'sordinelaw13.ReapMoves': WHATEVER THE INPUT: true; the input reads as it did. -/
def reapMovesSpec : ChangeSpec := { name := "reapMoves", fn := fun _ => fun
  | [d1, d2, d3, d4, d5] => { results := [.lit (.bool true)], args := [d1, d2, d3, d4, d5] }
  | _ => none }
def reapMovesRow : OpenClaim := { program := "ytmgnlkefhmhkhaa", sum := "50b628e2b790fbfaba03b1786588ed3122a4fc684699e22eb6cf715c7e7402c7", func := "sordine/sordinelaw13.ReapMoves", spec := "reapMoves", inPlace := ["slices.overlaps[sordine/reap.entry]"], unfollowed := true, recurses := true, apart := false }
def ReapMovesSaid : Prop := reapMovesRow.holds Try.pinned (OpenSpec.ofChange reapMovesSpec)

/-- ITS FALSE NEIGHBOUR: 'it returns false'. Refute it at one input. -/
def reapMovesWrong : ChangeSpec := { name := "reapMoves", fn := fun _ => fun
  | [d1, d2, d3, d4, d5] => { results := [.lit (.bool false)], args := [d1, d2, d3, d4, d5] }
  | _ => none }
def ReapMovesWrongFalsely : Prop := reapMovesRow.holds Try.pinned (OpenSpec.ofChange reapMovesWrong)

/- THE SECOND FORM. 'bulk': how many values and letters a reading holds, each counted each time it is reached (what is shared counts as often as it is met; a slice's spare places count too). A statement '..UptoSaid' is the law's where the arguments, and the package variables that the reading takes, are together of bulk at most 1048576: NARROWER than '..Said'. Prove '..Said' where nothing that the law and all that it calls make is longer than what came in: it says more and counts as full. Else prove '..UptoSaid'. A law counts once. -/
mutual
def uptoBulk {H : Type} : DataW H → Nat
  | .lit (.string bytes) => bytes.length + 1
  | .lit _ => 1
  | .nil => 1
  | .ptr d => uptoBulk d + 1
  | .slice elems spare => uptoBulkAll elems + uptoBulkAll spare + 1
  | .agg parts => uptoBulkAll parts + 1
  | .iface _ d => uptoBulk d + 1
  | .map entries => uptoBulkEntries entries + 1
  | .held _ => 1
def uptoBulkAll {H : Type} : List (DataW H) → Nat
  | [] => 0
  | d :: r => uptoBulk d + uptoBulkAll r
def uptoBulkEntries {H : Type} : List (Lit × DataW H) → Nat
  | [] => 0
  | x :: r => uptoBulkEntry x + uptoBulkEntries r
def uptoBulkEntry {H : Type} : Lit × DataW H → Nat
  | (.string bytes, d) => bytes.length + uptoBulk d + 1
  | (_, d) => uptoBulk d + 1
 end
def uptoSmall : (H : Type) → List (DataW H) → Bool := fun _ ds => decide (uptoBulkAll ds ≤ 1048576)
def OpenSpec.upto (s : _root_.Go.ChangeSpec) : _root_.Go.OpenSpec := { _root_.Go.OpenSpec.ofChange s with cond := some uptoSmall }

/-- 'sordinelaw13.ReapRuns', WHERE WHAT IT READS IS OF BULK AT MOST 1048576: true; the input reads as it did. -/
def reapRunsUptoRow : OpenClaim := { program := "ytmgnlkefhmhkhaa", sum := "50b628e2b790fbfaba03b1786588ed3122a4fc684699e22eb6cf715c7e7402c7", func := "sordine/sordinelaw13.ReapRuns", spec := "reapRuns", inPlace := ["slices.overlaps[sordine/reap.entry]"], unfollowed := true, recurses := true, apart := false, narrowed := true }
def ReapRunsUptoSaid : Prop := reapRunsUptoRow.holds Try.pinned (OpenSpec.upto reapRunsSpec)

/-- 'sordinelaw13.ReapPlays', WHERE WHAT IT READS IS OF BULK AT MOST 1048576: true; the input reads as it did. -/
def reapPlaysUptoRow : OpenClaim := { program := "ytmgnlkefhmhkhaa", sum := "50b628e2b790fbfaba03b1786588ed3122a4fc684699e22eb6cf715c7e7402c7", func := "sordine/sordinelaw13.ReapPlays", spec := "reapPlays", inPlace := ["slices.overlaps[sordine/reap.entry]"], unfollowed := true, recurses := true, apart := false, narrowed := true }
def ReapPlaysUptoSaid : Prop := reapPlaysUptoRow.holds Try.pinned (OpenSpec.upto reapPlaysSpec)

/-- 'sordinelaw13.ReapDue', WHERE WHAT IT READS IS OF BULK AT MOST 1048576: true; the input reads as it did. -/
def reapDueUptoRow : OpenClaim := { program := "ytmgnlkefhmhkhaa", sum := "50b628e2b790fbfaba03b1786588ed3122a4fc684699e22eb6cf715c7e7402c7", func := "sordine/sordinelaw13.ReapDue", spec := "reapDue", inPlace := ["slices.overlaps[sordine/reap.entry]"], unfollowed := true, recurses := true, apart := false, narrowed := true }
def ReapDueUptoSaid : Prop := reapDueUptoRow.holds Try.pinned (OpenSpec.upto reapDueSpec)

/-- 'sordinelaw13.ReapMoves', WHERE WHAT IT READS IS OF BULK AT MOST 1048576: true; the input reads as it did. -/
def reapMovesUptoRow : OpenClaim := { program := "ytmgnlkefhmhkhaa", sum := "50b628e2b790fbfaba03b1786588ed3122a4fc684699e22eb6cf715c7e7402c7", func := "sordine/sordinelaw13.ReapMoves", spec := "reapMoves", inPlace := ["slices.overlaps[sordine/reap.entry]"], unfollowed := true, recurses := true, apart := false, narrowed := true }
def ReapMovesUptoSaid : Prop := reapMovesUptoRow.holds Try.pinned (OpenSpec.upto reapMovesSpec)

end Rows
end Go.Proofs.Ytmgnlkefhmhkhaa
