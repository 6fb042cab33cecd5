/-
  No cell of these rows narrows 'for every input' (looked for: loops, veiled, ifaces, maps, wideKeys, modest, calm, conditions, laid).
  DERIVED. THE GIVEN ROWS OF THIS SEAT. 7 by the template 'for every input the law returns true; each argument reads behind the call as it read before'; 0 by the template 'total and deterministic' (their statements: YtdpfmaimhimfcaaTotals.lean).
  GIVEN WITH THE SEED: the statements are not yours to turn. If you find one false, say at which input.
  Laid BY PROGRAM, IN A SANDBOX (cutbox-rows.mjs): the forced cells as the released guide's own fill.sh prints them over the translation 9d5de1f3f623da24… (all of the seat's roots in one cut). By AI agents, Wed Nov 11 2026. No macro, syntax, notation, axiom, sorry.
-/
import Derived.Test.YtdpfmaimhimfcaaChecked
import GoSem.Claim
import GoSem.ClaimJoined
import GoSem.ClaimMapViews
import Derived.JoinedTies
import Derived.KernelRfl
namespace Go.Proofs.Ytdpfmaimhimfcaa
/- THE CELL 'sum', in the pinned program and in every row, IS THE sha256 OF THE DUMP (.gsa) THAT YtdpfmaimhimfcaaProg.lean LOADS. Nothing in Lean hashes anything: it is a label: what it is worth is what the hold of that sum in a sandbox is worth. -/
noncomputable def Try.pinned : Pinned := { name := "ytdpfmaimhimfcaa", sum := "9d5de1f3f623da24e33155e1f52920f094a52364507ac3bdc64e08c962daa3f3", checked := Try.checked }
namespace Rows
def none {H : Type} : Left H := { results := [], args := [] }

/-- 'sordinelaw4.LabelsRuns': WHATEVER THE INPUT: true; the input reads as it did. -/
def labelsRunsSpec : ChangeSpec := { name := "labelsRuns", fn := fun _ => fun
  | [] => { results := [.lit (.bool true)], args := [] }
  | _ => none }
def labelsRunsRow : OpenClaim := { program := "ytdpfmaimhimfcaa", sum := "9d5de1f3f623da24e33155e1f52920f094a52364507ac3bdc64e08c962daa3f3", func := "sordine/sordinelaw4.LabelsRuns", spec := "labelsRuns", unfollowed := true, recurses := true, apart := false }
def LabelsRunsSaid : Prop := labelsRunsRow.holds Try.pinned (OpenSpec.ofChange labelsRunsSpec)

/-- ITS FALSE NEIGHBOUR: 'it returns false'. Refute it at one input. -/
def labelsRunsWrong : ChangeSpec := { name := "labelsRuns", fn := fun _ => fun
  | [] => { results := [.lit (.bool false)], args := [] }
  | _ => none }
def LabelsRunsWrongFalsely : Prop := labelsRunsRow.holds Try.pinned (OpenSpec.ofChange labelsRunsWrong)

/-- 'sordinelaw4.LabelsAsk': WHATEVER THE INPUT: true; the input reads as it did. -/
def labelsAskSpec : ChangeSpec := { name := "labelsAsk", fn := fun _ => fun
  | [d1, d2] => { results := [.lit (.bool true)], args := [d1, d2] }
  | _ => none }
def labelsAskRow : OpenClaim := { program := "ytdpfmaimhimfcaa", sum := "9d5de1f3f623da24e33155e1f52920f094a52364507ac3bdc64e08c962daa3f3", func := "sordine/sordinelaw4.LabelsAsk", spec := "labelsAsk", unfollowed := true, recurses := true, apart := false }
def LabelsAskSaid : Prop := labelsAskRow.holds Try.pinned (OpenSpec.ofChange labelsAskSpec)

/-- ITS FALSE NEIGHBOUR: 'it returns false'. Refute it at one input. -/
def labelsAskWrong : ChangeSpec := { name := "labelsAsk", fn := fun _ => fun
  | [d1, d2] => { results := [.lit (.bool false)], args := [d1, d2] }
  | _ => none }
def LabelsAskWrongFalsely : Prop := labelsAskRow.holds Try.pinned (OpenSpec.ofChange labelsAskWrong)

/-- 'sordinelaw4.LabelsKeys': WHATEVER THE INPUT: true; the input reads as it did. -/
def labelsKeysSpec : ChangeSpec := { name := "labelsKeys", fn := fun _ => fun
  | [d1, d2, d3] => { results := [.lit (.bool true)], args := [d1, d2, d3] }
  | _ => none }
def labelsKeysRow : OpenClaim := { program := "ytdpfmaimhimfcaa", sum := "9d5de1f3f623da24e33155e1f52920f094a52364507ac3bdc64e08c962daa3f3", func := "sordine/sordinelaw4.LabelsKeys", spec := "labelsKeys", unfollowed := true, recurses := true, apart := false }
def LabelsKeysSaid : Prop := labelsKeysRow.holds Try.pinned (OpenSpec.ofChange labelsKeysSpec)

/-- ITS FALSE NEIGHBOUR: 'it returns false'. Refute it at one input. -/
def labelsKeysWrong : ChangeSpec := { name := "labelsKeys", fn := fun _ => fun
  | [d1, d2, d3] => { results := [.lit (.bool false)], args := [d1, d2, d3] }
  | _ => none }
def LabelsKeysWrongFalsely : Prop := labelsKeysRow.holds Try.pinned (OpenSpec.ofChange labelsKeysWrong)

/-- 'sordinelaw4.LabelsBytes': WHATEVER THE INPUT: true; the input reads as it did. -/
def labelsBytesSpec : ChangeSpec := { name := "labelsBytes", fn := fun _ => fun
  | [d1, d2] => { results := [.lit (.bool true)], args := [d1, d2] }
  | _ => none }
def labelsBytesRow : OpenClaim := { program := "ytdpfmaimhimfcaa", sum := "9d5de1f3f623da24e33155e1f52920f094a52364507ac3bdc64e08c962daa3f3", func := "sordine/sordinelaw4.LabelsBytes", spec := "labelsBytes", unfollowed := true, recurses := true, apart := false }
def LabelsBytesSaid : Prop := labelsBytesRow.holds Try.pinned (OpenSpec.ofChange labelsBytesSpec)

/-- ITS FALSE NEIGHBOUR: 'it returns false'. Refute it at one input. -/
def labelsBytesWrong : ChangeSpec := { name := "labelsBytes", fn := fun _ => fun
  | [d1, d2] => { results := [.lit (.bool false)], args := [d1, d2] }
  | _ => none }
def LabelsBytesWrongFalsely : Prop := labelsBytesRow.holds Try.pinned (OpenSpec.ofChange labelsBytesWrong)

/-- 'sordinelaw4.LabelsBack': WHATEVER THE INPUT: true; the input reads as it did. -/
def labelsBackSpec : ChangeSpec := { name := "labelsBack", fn := fun _ => fun
  | [d1, d2, d3] => { results := [.lit (.bool true)], args := [d1, d2, d3] }
  | _ => none }
def labelsBackRow : OpenClaim := { program := "ytdpfmaimhimfcaa", sum := "9d5de1f3f623da24e33155e1f52920f094a52364507ac3bdc64e08c962daa3f3", func := "sordine/sordinelaw4.LabelsBack", spec := "labelsBack", unfollowed := true, recurses := true, apart := false }
def LabelsBackSaid : Prop := labelsBackRow.holds Try.pinned (OpenSpec.ofChange labelsBackSpec)

/-- ITS FALSE NEIGHBOUR: 'it returns false'. Refute it at one input. -/
def labelsBackWrong : ChangeSpec := { name := "labelsBack", fn := fun _ => fun
  | [d1, d2, d3] => { results := [.lit (.bool false)], args := [d1, d2, d3] }
  | _ => none }
def LabelsBackWrongFalsely : Prop := labelsBackRow.holds Try.pinned (OpenSpec.ofChange labelsBackWrong)

/-- 'sordinelaw4.LabelsMake': WHATEVER THE INPUT: true; the input reads as it did. -/
def labelsMakeSpec : ChangeSpec := { name := "labelsMake", fn := fun _ => fun
  | [d] => { results := [.lit (.bool true)], args := [d] }
  | _ => none }
def labelsMakeRow : OpenClaim := { program := "ytdpfmaimhimfcaa", sum := "9d5de1f3f623da24e33155e1f52920f094a52364507ac3bdc64e08c962daa3f3", func := "sordine/sordinelaw4.LabelsMake", spec := "labelsMake", inPlace := ["internal/bytealg.abigen_runtime_cmpstring"], unfollowed := true, recurses := true, apart := false }
def LabelsMakeSaid : Prop := labelsMakeRow.holds Try.pinned (OpenSpec.ofChange labelsMakeSpec)

/-- ITS FALSE NEIGHBOUR: 'it returns false'. Refute it at one input. -/
def labelsMakeWrong : ChangeSpec := { name := "labelsMake", fn := fun _ => fun
  | [d] => { results := [.lit (.bool false)], args := [d] }
  | _ => none }
def LabelsMakeWrongFalsely : Prop := labelsMakeRow.holds Try.pinned (OpenSpec.ofChange labelsMakeWrong)

/-- 'sordinelaw4.LabelsTurned': WHATEVER THE INPUT: true; the input reads as it did. -/
def labelsTurnedSpec : ChangeSpec := { name := "labelsTurned", fn := fun _ => fun
  | [d1, d2] => { results := [.lit (.bool true)], args := [d1, d2] }
  | _ => none }
def labelsTurnedRow : OpenClaim := { program := "ytdpfmaimhimfcaa", sum := "9d5de1f3f623da24e33155e1f52920f094a52364507ac3bdc64e08c962daa3f3", func := "sordine/sordinelaw4.LabelsTurned", spec := "labelsTurned", inPlace := ["internal/bytealg.abigen_runtime_cmpstring"], unfollowed := true, recurses := true, apart := false }
def LabelsTurnedSaid : Prop := labelsTurnedRow.holds Try.pinned (OpenSpec.ofChange labelsTurnedSpec)

/-- ITS FALSE NEIGHBOUR: 'it returns false'. Refute it at one input. -/
def labelsTurnedWrong : ChangeSpec := { name := "labelsTurned", fn := fun _ => fun
  | [d1, d2] => { results := [.lit (.bool false)], args := [d1, d2] }
  | _ => none }
def LabelsTurnedWrongFalsely : Prop := labelsTurnedRow.holds Try.pinned (OpenSpec.ofChange labelsTurnedWrong)

/- THE SECOND FORM. 'bulk': how many values and letters a reading holds, each counted each time it is reached (what is shared counts as often as it is met; a slice's spare places count too). A statement '..UptoSaid' is the law's where the arguments, and the package variables that the reading takes, are together of bulk at most 1048576: NARROWER than '..Said'. Prove '..Said' where nothing that the law and all that it calls make is longer than what came in: it says more and counts as full. Else prove '..UptoSaid'. A law counts once. -/
mutual
def uptoBulk {H : Type} : DataW H → Nat
  | .lit (.string bytes) => bytes.length + 1
  | .lit _ => 1
  | .nil => 1
  | .ptr d => uptoBulk d + 1
  | .slice elems spare => uptoBulkAll elems + uptoBulkAll spare + 1
  | .agg parts => uptoBulkAll parts + 1
  | .iface _ d => uptoBulk d + 1
  | .map entries => uptoBulkEntries entries + 1
  | .held _ => 1
def uptoBulkAll {H : Type} : List (DataW H) → Nat
  | [] => 0
  | d :: r => uptoBulk d + uptoBulkAll r
def uptoBulkEntries {H : Type} : List (Lit × DataW H) → Nat
  | [] => 0
  | x :: r => uptoBulkEntry x + uptoBulkEntries r
def uptoBulkEntry {H : Type} : Lit × DataW H → Nat
  | (.string bytes, d) => bytes.length + uptoBulk d + 1
  | (_, d) => uptoBulk d + 1
 end
def uptoSmall : (H : Type) → List (DataW H) → Bool := fun _ ds => decide (uptoBulkAll ds ≤ 1048576)
def OpenSpec.upto (s : _root_.Go.ChangeSpec) : _root_.Go.OpenSpec := { _root_.Go.OpenSpec.ofChange s with cond := some uptoSmall }

/-- 'sordinelaw4.LabelsRuns', WHERE WHAT IT READS IS OF BULK AT MOST 1048576: true; the input reads as it did. -/
def labelsRunsUptoRow : OpenClaim := { program := "ytdpfmaimhimfcaa", sum := "9d5de1f3f623da24e33155e1f52920f094a52364507ac3bdc64e08c962daa3f3", func := "sordine/sordinelaw4.LabelsRuns", spec := "labelsRuns", unfollowed := true, recurses := true, apart := false, narrowed := true }
def LabelsRunsUptoSaid : Prop := labelsRunsUptoRow.holds Try.pinned (OpenSpec.upto labelsRunsSpec)

/-- 'sordinelaw4.LabelsAsk', WHERE WHAT IT READS IS OF BULK AT MOST 1048576: true; the input reads as it did. -/
def labelsAskUptoRow : OpenClaim := { program := "ytdpfmaimhimfcaa", sum := "9d5de1f3f623da24e33155e1f52920f094a52364507ac3bdc64e08c962daa3f3", func := "sordine/sordinelaw4.LabelsAsk", spec := "labelsAsk", unfollowed := true, recurses := true, apart := false, narrowed := true }
def LabelsAskUptoSaid : Prop := labelsAskUptoRow.holds Try.pinned (OpenSpec.upto labelsAskSpec)

/-- 'sordinelaw4.LabelsKeys', WHERE WHAT IT READS IS OF BULK AT MOST 1048576: true; the input reads as it did. -/
def labelsKeysUptoRow : OpenClaim := { program := "ytdpfmaimhimfcaa", sum := "9d5de1f3f623da24e33155e1f52920f094a52364507ac3bdc64e08c962daa3f3", func := "sordine/sordinelaw4.LabelsKeys", spec := "labelsKeys", unfollowed := true, recurses := true, apart := false, narrowed := true }
def LabelsKeysUptoSaid : Prop := labelsKeysUptoRow.holds Try.pinned (OpenSpec.upto labelsKeysSpec)

/-- 'sordinelaw4.LabelsBytes', WHERE WHAT IT READS IS OF BULK AT MOST 1048576: true; the input reads as it did. -/
def labelsBytesUptoRow : OpenClaim := { program := "ytdpfmaimhimfcaa", sum := "9d5de1f3f623da24e33155e1f52920f094a52364507ac3bdc64e08c962daa3f3", func := "sordine/sordinelaw4.LabelsBytes", spec := "labelsBytes", unfollowed := true, recurses := true, apart := false, narrowed := true }
def LabelsBytesUptoSaid : Prop := labelsBytesUptoRow.holds Try.pinned (OpenSpec.upto labelsBytesSpec)

/-- 'sordinelaw4.LabelsBack', WHERE WHAT IT READS IS OF BULK AT MOST 1048576: true; the input reads as it did. -/
def labelsBackUptoRow : OpenClaim := { program := "ytdpfmaimhimfcaa", sum := "9d5de1f3f623da24e33155e1f52920f094a52364507ac3bdc64e08c962daa3f3", func := "sordine/sordinelaw4.LabelsBack", spec := "labelsBack", unfollowed := true, recurses := true, apart := false, narrowed := true }
def LabelsBackUptoSaid : Prop := labelsBackUptoRow.holds Try.pinned (OpenSpec.upto labelsBackSpec)

/-- 'sordinelaw4.LabelsMake', WHERE WHAT IT READS IS OF BULK AT MOST 1048576: true; the input reads as it did. -/
def labelsMakeUptoRow : OpenClaim := { program := "ytdpfmaimhimfcaa", sum := "9d5de1f3f623da24e33155e1f52920f094a52364507ac3bdc64e08c962daa3f3", func := "sordine/sordinelaw4.LabelsMake", spec := "labelsMake", inPlace := ["internal/bytealg.abigen_runtime_cmpstring"], unfollowed := true, recurses := true, apart := false, narrowed := true }
def LabelsMakeUptoSaid : Prop := labelsMakeUptoRow.holds Try.pinned (OpenSpec.upto labelsMakeSpec)

/-- 'sordinelaw4.LabelsTurned', WHERE WHAT IT READS IS OF BULK AT MOST 1048576: true; the input reads as it did. -/
def labelsTurnedUptoRow : OpenClaim := { program := "ytdpfmaimhimfcaa", sum := "9d5de1f3f623da24e33155e1f52920f094a52364507ac3bdc64e08c962daa3f3", func := "sordine/sordinelaw4.LabelsTurned", spec := "labelsTurned", inPlace := ["internal/bytealg.abigen_runtime_cmpstring"], unfollowed := true, recurses := true, apart := false, narrowed := true }
def LabelsTurnedUptoSaid : Prop := labelsTurnedUptoRow.holds Try.pinned (OpenSpec.upto labelsTurnedSpec)

end Rows
end Go.Proofs.Ytdpfmaimhimfcaa
