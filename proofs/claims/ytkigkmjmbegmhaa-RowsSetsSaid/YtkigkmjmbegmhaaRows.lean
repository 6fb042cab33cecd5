/-
  No cell of these rows narrows 'for every input' (looked for: loops, veiled, ifaces, maps, wideKeys, modest, calm, conditions, laid).
  DERIVED. THE GIVEN ROWS OF THIS SEAT. 6 by the template 'for every input the law returns true; each argument reads behind the call as it read before'; 0 by the template 'total and deterministic' (their statements: YtkigkmjmbegmhaaTotals.lean).
  GIVEN WITH THE SEED: the statements are not yours to turn. If you find one false, say at which input.
  Laid BY PROGRAM, IN A SANDBOX (cutbox-rows.mjs): the forced cells as the released guide's own fill.sh prints them over the translation b5a00ab3af5baa21… (all of the seat's roots in one cut). By AI agents, Wed Nov 11 2026. No macro, syntax, notation, axiom, sorry.
-/
import Derived.Test.YtkigkmjmbegmhaaChecked
import GoSem.Claim
import GoSem.ClaimJoined
import GoSem.ClaimMapViews
import Derived.JoinedTies
import Derived.KernelRfl
namespace Go.Proofs.Ytkigkmjmbegmhaa
/- THE CELL 'sum', in the pinned program and in every row, IS THE sha256 OF THE DUMP (.gsa) THAT YtkigkmjmbegmhaaProg.lean LOADS. Nothing in Lean hashes anything: it is a label: what it is worth is what the hold of that sum in a sandbox is worth. -/
noncomputable def Try.pinned : Pinned := { name := "ytkigkmjmbegmhaa", sum := "b5a00ab3af5baa21cca4c68ccc6f4df2f752db188414270c23bdc8544f6d8511", checked := Try.checked }
namespace Rows
def none {H : Type} : Left H := { results := [], args := [] }

/-- 'sordinelaw9.RowsRuns': WHATEVER THE INPUT: true; the input reads as it did. -/
def rowsRunsSpec : ChangeSpec := { name := "rowsRuns", fn := fun _ => fun
  | [] => { results := [.lit (.bool true)], args := [] }
  | _ => none }
def rowsRunsRow : OpenClaim := { program := "ytkigkmjmbegmhaa", sum := "b5a00ab3af5baa21cca4c68ccc6f4df2f752db188414270c23bdc8544f6d8511", func := "sordine/sordinelaw9.RowsRuns", spec := "rowsRuns", recurses := true, apart := false }
def RowsRunsSaid : Prop := rowsRunsRow.holds Try.pinned (OpenSpec.ofChange rowsRunsSpec)

/-- ITS FALSE NEIGHBOUR: 'it returns false'. Refute it at one input. -/
def rowsRunsWrong : ChangeSpec := { name := "rowsRuns", fn := fun _ => fun
  | [] => { results := [.lit (.bool false)], args := [] }
  | _ => none }
def RowsRunsWrongFalsely : Prop := rowsRunsRow.holds Try.pinned (OpenSpec.ofChange rowsRunsWrong)

/-- 'sordinelaw9.RowsMake': WHATEVER THE INPUT: true; the input reads as it did. -/
def rowsMakeSpec : ChangeSpec := { name := "rowsMake", fn := fun _ => fun
  | [d1, d2] => { results := [.lit (.bool true)], args := [d1, d2] }
  | _ => none }
def rowsMakeRow : OpenClaim := { program := "ytkigkmjmbegmhaa", sum := "b5a00ab3af5baa21cca4c68ccc6f4df2f752db188414270c23bdc8544f6d8511", func := "sordine/sordinelaw9.RowsMake", spec := "rowsMake", recurses := true, apart := false }
def RowsMakeSaid : Prop := rowsMakeRow.holds Try.pinned (OpenSpec.ofChange rowsMakeSpec)

/-- ITS FALSE NEIGHBOUR: 'it returns false'. Refute it at one input. -/
def rowsMakeWrong : ChangeSpec := { name := "rowsMake", fn := fun _ => fun
  | [d1, d2] => { results := [.lit (.bool false)], args := [d1, d2] }
  | _ => none }
def RowsMakeWrongFalsely : Prop := rowsMakeRow.holds Try.pinned (OpenSpec.ofChange rowsMakeWrong)

/-- 'sordinelaw9.RowsSets': WHATEVER THE INPUT: true; the input reads as it did. -/
def rowsSetsSpec : ChangeSpec := { name := "rowsSets", fn := fun _ => fun
  | [d1, d2] => { results := [.lit (.bool true)], args := [d1, d2] }
  | _ => none }
def rowsSetsRow : OpenClaim := { program := "ytkigkmjmbegmhaa", sum := "b5a00ab3af5baa21cca4c68ccc6f4df2f752db188414270c23bdc8544f6d8511", func := "sordine/sordinelaw9.RowsSets", spec := "rowsSets", unfollowed := true, recurses := true, apart := false }
def RowsSetsSaid : Prop := rowsSetsRow.holds Try.pinned (OpenSpec.ofChange rowsSetsSpec)

/-- ITS FALSE NEIGHBOUR: 'it returns false'. Refute it at one input. -/
def rowsSetsWrong : ChangeSpec := { name := "rowsSets", fn := fun _ => fun
  | [d1, d2] => { results := [.lit (.bool false)], args := [d1, d2] }
  | _ => none }
def RowsSetsWrongFalsely : Prop := rowsSetsRow.holds Try.pinned (OpenSpec.ofChange rowsSetsWrong)

/-- 'sordinelaw9.RowsParts': WHATEVER THE INPUT: true; the input reads as it did. -/
def rowsPartsSpec : ChangeSpec := { name := "rowsParts", fn := fun _ => fun
  | [d1, d2] => { results := [.lit (.bool true)], args := [d1, d2] }
  | _ => none }
def rowsPartsRow : OpenClaim := { program := "ytkigkmjmbegmhaa", sum := "b5a00ab3af5baa21cca4c68ccc6f4df2f752db188414270c23bdc8544f6d8511", func := "sordine/sordinelaw9.RowsParts", spec := "rowsParts", unfollowed := true, recurses := true, apart := false }
def RowsPartsSaid : Prop := rowsPartsRow.holds Try.pinned (OpenSpec.ofChange rowsPartsSpec)

/-- ITS FALSE NEIGHBOUR: 'it returns false'. Refute it at one input. -/
def rowsPartsWrong : ChangeSpec := { name := "rowsParts", fn := fun _ => fun
  | [d1, d2] => { results := [.lit (.bool false)], args := [d1, d2] }
  | _ => none }
def RowsPartsWrongFalsely : Prop := rowsPartsRow.holds Try.pinned (OpenSpec.ofChange rowsPartsWrong)

/-- 'sordinelaw9.RowsPut': WHATEVER THE INPUT: true; the input reads as it did. -/
def rowsPutSpec : ChangeSpec := { name := "rowsPut", fn := fun _ => fun
  | [d1, d2] => { results := [.lit (.bool true)], args := [d1, d2] }
  | _ => none }
def rowsPutRow : OpenClaim := { program := "ytkigkmjmbegmhaa", sum := "b5a00ab3af5baa21cca4c68ccc6f4df2f752db188414270c23bdc8544f6d8511", func := "sordine/sordinelaw9.RowsPut", spec := "rowsPut", unfollowed := true, recurses := true, apart := false }
def RowsPutSaid : Prop := rowsPutRow.holds Try.pinned (OpenSpec.ofChange rowsPutSpec)

/-- ITS FALSE NEIGHBOUR: 'it returns false'. Refute it at one input. -/
def rowsPutWrong : ChangeSpec := { name := "rowsPut", fn := fun _ => fun
  | [d1, d2] => { results := [.lit (.bool false)], args := [d1, d2] }
  | _ => none }
def RowsPutWrongFalsely : Prop := rowsPutRow.holds Try.pinned (OpenSpec.ofChange rowsPutWrong)

/-- 'sordinelaw9.RowsTell': WHATEVER THE INPUT: true; the input reads as it did. -/
def rowsTellSpec : ChangeSpec := { name := "rowsTell", fn := fun _ => fun
  | [d1, d2, d3] => { results := [.lit (.bool true)], args := [d1, d2, d3] }
  | _ => none }
def rowsTellRow : OpenClaim := { program := "ytkigkmjmbegmhaa", sum := "b5a00ab3af5baa21cca4c68ccc6f4df2f752db188414270c23bdc8544f6d8511", func := "sordine/sordinelaw9.RowsTell", spec := "rowsTell", unfollowed := true, recurses := true, apart := false }
def RowsTellSaid : Prop := rowsTellRow.holds Try.pinned (OpenSpec.ofChange rowsTellSpec)

/-- ITS FALSE NEIGHBOUR: 'it returns false'. Refute it at one input. -/
def rowsTellWrong : ChangeSpec := { name := "rowsTell", fn := fun _ => fun
  | [d1, d2, d3] => { results := [.lit (.bool false)], args := [d1, d2, d3] }
  | _ => none }
def RowsTellWrongFalsely : Prop := rowsTellRow.holds Try.pinned (OpenSpec.ofChange rowsTellWrong)

/- THE SECOND FORM. 'bulk': how many values and letters a reading holds, each counted each time it is reached (what is shared counts as often as it is met; a slice's spare places count too). A statement '..UptoSaid' is the law's where the arguments, and the package variables that the reading takes, are together of bulk at most 1048576: NARROWER than '..Said'. Prove '..Said' where nothing that the law and all that it calls make is longer than what came in: it says more and counts as full. Else prove '..UptoSaid'. A law counts once. -/
mutual
def uptoBulk {H : Type} : DataW H → Nat
  | .lit (.string bytes) => bytes.length + 1
  | .lit _ => 1
  | .nil => 1
  | .ptr d => uptoBulk d + 1
  | .slice elems spare => uptoBulkAll elems + uptoBulkAll spare + 1
  | .agg parts => uptoBulkAll parts + 1
  | .iface _ d => uptoBulk d + 1
  | .map entries => uptoBulkEntries entries + 1
  | .held _ => 1
def uptoBulkAll {H : Type} : List (DataW H) → Nat
  | [] => 0
  | d :: r => uptoBulk d + uptoBulkAll r
def uptoBulkEntries {H : Type} : List (Lit × DataW H) → Nat
  | [] => 0
  | x :: r => uptoBulkEntry x + uptoBulkEntries r
def uptoBulkEntry {H : Type} : Lit × DataW H → Nat
  | (.string bytes, d) => bytes.length + uptoBulk d + 1
  | (_, d) => uptoBulk d + 1
 end
def uptoSmall : (H : Type) → List (DataW H) → Bool := fun _ ds => decide (uptoBulkAll ds ≤ 1048576)
def OpenSpec.upto (s : _root_.Go.ChangeSpec) : _root_.Go.OpenSpec := { _root_.Go.OpenSpec.ofChange s with cond := some uptoSmall }

/-- 'sordinelaw9.RowsRuns', WHERE WHAT IT READS IS OF BULK AT MOST 1048576: true; the input reads as it did. -/
def rowsRunsUptoRow : OpenClaim := { program := "ytkigkmjmbegmhaa", sum := "b5a00ab3af5baa21cca4c68ccc6f4df2f752db188414270c23bdc8544f6d8511", func := "sordine/sordinelaw9.RowsRuns", spec := "rowsRuns", recurses := true, apart := false, narrowed := true }
def RowsRunsUptoSaid : Prop := rowsRunsUptoRow.holds Try.pinned (OpenSpec.upto rowsRunsSpec)

/-- 'sordinelaw9.RowsMake', WHERE WHAT IT READS IS OF BULK AT MOST 1048576: true; the input reads as it did. -/
def rowsMakeUptoRow : OpenClaim := { program := "ytkigkmjmbegmhaa", sum := "b5a00ab3af5baa21cca4c68ccc6f4df2f752db188414270c23bdc8544f6d8511", func := "sordine/sordinelaw9.RowsMake", spec := "rowsMake", recurses := true, apart := false, narrowed := true }
def RowsMakeUptoSaid : Prop := rowsMakeUptoRow.holds Try.pinned (OpenSpec.upto rowsMakeSpec)

/-- 'sordinelaw9.RowsSets', WHERE WHAT IT READS IS OF BULK AT MOST 1048576: true; the input reads as it did. -/
def rowsSetsUptoRow : OpenClaim := { program := "ytkigkmjmbegmhaa", sum := "b5a00ab3af5baa21cca4c68ccc6f4df2f752db188414270c23bdc8544f6d8511", func := "sordine/sordinelaw9.RowsSets", spec := "rowsSets", unfollowed := true, recurses := true, apart := false, narrowed := true }
def RowsSetsUptoSaid : Prop := rowsSetsUptoRow.holds Try.pinned (OpenSpec.upto rowsSetsSpec)

/-- 'sordinelaw9.RowsParts', WHERE WHAT IT READS IS OF BULK AT MOST 1048576: true; the input reads as it did. -/
def rowsPartsUptoRow : OpenClaim := { program := "ytkigkmjmbegmhaa", sum := "b5a00ab3af5baa21cca4c68ccc6f4df2f752db188414270c23bdc8544f6d8511", func := "sordine/sordinelaw9.RowsParts", spec := "rowsParts", unfollowed := true, recurses := true, apart := false, narrowed := true }
def RowsPartsUptoSaid : Prop := rowsPartsUptoRow.holds Try.pinned (OpenSpec.upto rowsPartsSpec)

/-- 'sordinelaw9.RowsPut', WHERE WHAT IT READS IS OF BULK AT MOST 1048576: true; the input reads as it did. -/
def rowsPutUptoRow : OpenClaim := { program := "ytkigkmjmbegmhaa", sum := "b5a00ab3af5baa21cca4c68ccc6f4df2f752db188414270c23bdc8544f6d8511", func := "sordine/sordinelaw9.RowsPut", spec := "rowsPut", unfollowed := true, recurses := true, apart := false, narrowed := true }
def RowsPutUptoSaid : Prop := rowsPutUptoRow.holds Try.pinned (OpenSpec.upto rowsPutSpec)

/-- 'sordinelaw9.RowsTell', WHERE WHAT IT READS IS OF BULK AT MOST 1048576: true; the input reads as it did. -/
def rowsTellUptoRow : OpenClaim := { program := "ytkigkmjmbegmhaa", sum := "b5a00ab3af5baa21cca4c68ccc6f4df2f752db188414270c23bdc8544f6d8511", func := "sordine/sordinelaw9.RowsTell", spec := "rowsTell", unfollowed := true, recurses := true, apart := false, narrowed := true }
def RowsTellUptoSaid : Prop := rowsTellUptoRow.holds Try.pinned (OpenSpec.upto rowsTellSpec)

end Rows
end Go.Proofs.Ytkigkmjmbegmhaa
