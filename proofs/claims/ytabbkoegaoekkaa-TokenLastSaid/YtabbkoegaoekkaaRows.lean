/-
  No cell of these rows narrows 'for every input' (looked for: loops, veiled, ifaces, maps, wideKeys, modest, calm, conditions, laid).
  DERIVED. THE GIVEN ROWS OF THIS SEAT. 5 by the template 'for every input the law returns true; each argument reads behind the call as it read before'; 0 by the template 'total and deterministic' (their statements: YtabbkoegaoekkaaTotals.lean).
  GIVEN WITH THE SEED: the statements are not yours to turn. If you find one false, say at which input.
  Laid BY PROGRAM, IN A SANDBOX (cutbox-rows.mjs): the forced cells as the released guide's own fill.sh prints them over the translation 4362048b7d1ab7c3… (all of the seat's roots in one cut). By AI agents, Wed Nov 11 2026. No macro, syntax, notation, axiom, sorry.
-/
import Derived.Test.YtabbkoegaoekkaaChecked
import GoSem.Claim
import GoSem.ClaimJoined
import GoSem.ClaimMapViews
import Derived.JoinedTies
import Derived.KernelRfl
namespace Go.Proofs.Ytabbkoegaoekkaa
/- THE CELL 'sum', in the pinned program and in every row, IS THE sha256 OF THE DUMP (.gsa) THAT YtabbkoegaoekkaaProg.lean LOADS. Nothing in Lean hashes anything: it is a label: what it is worth is what the hold of that sum in a sandbox is worth. -/
noncomputable def Try.pinned : Pinned := { name := "ytabbkoegaoekkaa", sum := "4362048b7d1ab7c37ee25d9fb4ded3278b61f21fa602dc2e885bd85f1e902cf8", checked := Try.checked }
namespace Rows
def none {H : Type} : Left H := { results := [], args := [] }

/-- 'sordinelaw19.TokenRuns': WHATEVER THE INPUT: true; the input reads as it did. -/
def tokenRunsSpec : ChangeSpec := { name := "tokenRuns", fn := fun _ => fun
  | [] => { results := [.lit (.bool true)], args := [] }
  | _ => none }
def tokenRunsRow : OpenClaim := { program := "ytabbkoegaoekkaa", sum := "4362048b7d1ab7c37ee25d9fb4ded3278b61f21fa602dc2e885bd85f1e902cf8", func := "sordine/sordinelaw19.TokenRuns", spec := "tokenRuns", recurses := true, apart := false }
def TokenRunsSaid : Prop := tokenRunsRow.holds Try.pinned (OpenSpec.ofChange tokenRunsSpec)

/-- ITS FALSE NEIGHBOUR: 'it returns false'. Refute it at one input. -/
def tokenRunsWrong : ChangeSpec := { name := "tokenRuns", fn := fun _ => fun
  | [] => { results := [.lit (.bool false)], args := [] }
  | _ => none }
def TokenRunsWrongFalsely : Prop := tokenRunsRow.holds Try.pinned (OpenSpec.ofChange tokenRunsWrong)

/-- 'sordinelaw19.TokenEqual': WHATEVER THE INPUT: true; the input reads as it did. -/
def tokenEqualSpec : ChangeSpec := { name := "tokenEqual", fn := fun _ => fun
  | [d1, d2] => { results := [.lit (.bool true)], args := [d1, d2] }
  | _ => none }
def tokenEqualRow : OpenClaim := { program := "ytabbkoegaoekkaa", sum := "4362048b7d1ab7c37ee25d9fb4ded3278b61f21fa602dc2e885bd85f1e902cf8", func := "sordine/sordinelaw19.TokenEqual", spec := "tokenEqual", recurses := true, apart := false }
def TokenEqualSaid : Prop := tokenEqualRow.holds Try.pinned (OpenSpec.ofChange tokenEqualSpec)

/-- ITS FALSE NEIGHBOUR: 'it returns false'. Refute it at one input. -/
def tokenEqualWrong : ChangeSpec := { name := "tokenEqual", fn := fun _ => fun
  | [d1, d2] => { results := [.lit (.bool false)], args := [d1, d2] }
  | _ => none }
def TokenEqualWrongFalsely : Prop := tokenEqualRow.holds Try.pinned (OpenSpec.ofChange tokenEqualWrong)

/-- 'sordinelaw19.TokenOne': WHATEVER THE INPUT: true; the input reads as it did. -/
def tokenOneSpec : ChangeSpec := { name := "tokenOne", fn := fun _ => fun
  | [d1, d2] => { results := [.lit (.bool true)], args := [d1, d2] }
  | _ => none }
def tokenOneRow : OpenClaim := { program := "ytabbkoegaoekkaa", sum := "4362048b7d1ab7c37ee25d9fb4ded3278b61f21fa602dc2e885bd85f1e902cf8", func := "sordine/sordinelaw19.TokenOne", spec := "tokenOne", recurses := true, apart := false }
def TokenOneSaid : Prop := tokenOneRow.holds Try.pinned (OpenSpec.ofChange tokenOneSpec)

/-- ITS FALSE NEIGHBOUR: 'it returns false'. Refute it at one input. -/
def tokenOneWrong : ChangeSpec := { name := "tokenOne", fn := fun _ => fun
  | [d1, d2] => { results := [.lit (.bool false)], args := [d1, d2] }
  | _ => none }
def TokenOneWrongFalsely : Prop := tokenOneRow.holds Try.pinned (OpenSpec.ofChange tokenOneWrong)

/-- 'sordinelaw19.TokenPlays': WHATEVER THE INPUT: true; the input reads as it did. -/
def tokenPlaysSpec : ChangeSpec := { name := "tokenPlays", fn := fun _ => fun
  | [d1, d2, d3] => { results := [.lit (.bool true)], args := [d1, d2, d3] }
  | _ => none }
def tokenPlaysRow : OpenClaim := { program := "ytabbkoegaoekkaa", sum := "4362048b7d1ab7c37ee25d9fb4ded3278b61f21fa602dc2e885bd85f1e902cf8", func := "sordine/sordinelaw19.TokenPlays", spec := "tokenPlays", unfollowed := true, recurses := true, apart := false }
def TokenPlaysSaid : Prop := tokenPlaysRow.holds Try.pinned (OpenSpec.ofChange tokenPlaysSpec)

/-- ITS FALSE NEIGHBOUR: 'it returns false'. Refute it at one input. -/
def tokenPlaysWrong : ChangeSpec := { name := "tokenPlays", fn := fun _ => fun
  | [d1, d2, d3] => { results := [.lit (.bool false)], args := [d1, d2, d3] }
  | _ => none }
def TokenPlaysWrongFalsely : Prop := tokenPlaysRow.holds Try.pinned (OpenSpec.ofChange tokenPlaysWrong)

/-- 'sordinelaw19.TokenLast': WHATEVER THE INPUT: true; the input reads as it did. -/
def tokenLastSpec : ChangeSpec := { name := "tokenLast", fn := fun _ => fun
  | [d1, d2] => { results := [.lit (.bool true)], args := [d1, d2] }
  | _ => none }
def tokenLastRow : OpenClaim := { program := "ytabbkoegaoekkaa", sum := "4362048b7d1ab7c37ee25d9fb4ded3278b61f21fa602dc2e885bd85f1e902cf8", func := "sordine/sordinelaw19.TokenLast", spec := "tokenLast", unfollowed := true, recurses := true, apart := false }
def TokenLastSaid : Prop := tokenLastRow.holds Try.pinned (OpenSpec.ofChange tokenLastSpec)

/-- ITS FALSE NEIGHBOUR: 'it returns false'. Refute it at one input. -/
def tokenLastWrong : ChangeSpec := { name := "tokenLast", fn := fun _ => fun
  | [d1, d2] => { results := [.lit (.bool false)], args := [d1, d2] }
  | _ => none }
def TokenLastWrongFalsely : Prop := tokenLastRow.holds Try.pinned (OpenSpec.ofChange tokenLastWrong)

/- THE SECOND FORM. 'bulk': how many values and letters a reading holds, each counted each time it is reached (what is shared counts as often as it is met; a slice's spare places count too). A statement '..UptoSaid' is the law's where the arguments, and the package variables that the reading takes, are together of bulk at most 1048576: NARROWER than '..Said'. Prove '..Said' where nothing that the law and all that it calls make is longer than what came in: it says more and counts as full. Else prove '..UptoSaid'. A law counts once. -/
mutual
def uptoBulk {H : Type} : DataW H → Nat
  | .lit (.string bytes) => bytes.length + 1
  | .lit _ => 1
  | .nil => 1
  | .ptr d => uptoBulk d + 1
  | .slice elems spare => uptoBulkAll elems + uptoBulkAll spare + 1
  | .agg parts => uptoBulkAll parts + 1
  | .iface _ d => uptoBulk d + 1
  | .map entries => uptoBulkEntries entries + 1
  | .held _ => 1
def uptoBulkAll {H : Type} : List (DataW H) → Nat
  | [] => 0
  | d :: r => uptoBulk d + uptoBulkAll r
def uptoBulkEntries {H : Type} : List (Lit × DataW H) → Nat
  | [] => 0
  | x :: r => uptoBulkEntry x + uptoBulkEntries r
def uptoBulkEntry {H : Type} : Lit × DataW H → Nat
  | (.string bytes, d) => bytes.length + uptoBulk d + 1
  | (_, d) => uptoBulk d + 1
 end
def uptoSmall : (H : Type) → List (DataW H) → Bool := fun _ ds => decide (uptoBulkAll ds ≤ 1048576)
def OpenSpec.upto (s : _root_.Go.ChangeSpec) : _root_.Go.OpenSpec := { _root_.Go.OpenSpec.ofChange s with cond := some uptoSmall }

/-- 'sordinelaw19.TokenRuns', WHERE WHAT IT READS IS OF BULK AT MOST 1048576: true; the input reads as it did. -/
def tokenRunsUptoRow : OpenClaim := { program := "ytabbkoegaoekkaa", sum := "4362048b7d1ab7c37ee25d9fb4ded3278b61f21fa602dc2e885bd85f1e902cf8", func := "sordine/sordinelaw19.TokenRuns", spec := "tokenRuns", recurses := true, apart := false, narrowed := true }
def TokenRunsUptoSaid : Prop := tokenRunsUptoRow.holds Try.pinned (OpenSpec.upto tokenRunsSpec)

/-- 'sordinelaw19.TokenEqual', WHERE WHAT IT READS IS OF BULK AT MOST 1048576: true; the input reads as it did. -/
def tokenEqualUptoRow : OpenClaim := { program := "ytabbkoegaoekkaa", sum := "4362048b7d1ab7c37ee25d9fb4ded3278b61f21fa602dc2e885bd85f1e902cf8", func := "sordine/sordinelaw19.TokenEqual", spec := "tokenEqual", recurses := true, apart := false, narrowed := true }
def TokenEqualUptoSaid : Prop := tokenEqualUptoRow.holds Try.pinned (OpenSpec.upto tokenEqualSpec)

/-- 'sordinelaw19.TokenOne', WHERE WHAT IT READS IS OF BULK AT MOST 1048576: true; the input reads as it did. -/
def tokenOneUptoRow : OpenClaim := { program := "ytabbkoegaoekkaa", sum := "4362048b7d1ab7c37ee25d9fb4ded3278b61f21fa602dc2e885bd85f1e902cf8", func := "sordine/sordinelaw19.TokenOne", spec := "tokenOne", recurses := true, apart := false, narrowed := true }
def TokenOneUptoSaid : Prop := tokenOneUptoRow.holds Try.pinned (OpenSpec.upto tokenOneSpec)

/-- 'sordinelaw19.TokenPlays', WHERE WHAT IT READS IS OF BULK AT MOST 1048576: true; the input reads as it did. -/
def tokenPlaysUptoRow : OpenClaim := { program := "ytabbkoegaoekkaa", sum := "4362048b7d1ab7c37ee25d9fb4ded3278b61f21fa602dc2e885bd85f1e902cf8", func := "sordine/sordinelaw19.TokenPlays", spec := "tokenPlays", unfollowed := true, recurses := true, apart := false, narrowed := true }
def TokenPlaysUptoSaid : Prop := tokenPlaysUptoRow.holds Try.pinned (OpenSpec.upto tokenPlaysSpec)

/-- 'sordinelaw19.TokenLast', WHERE WHAT IT READS IS OF BULK AT MOST 1048576: true; the input reads as it did. -/
def tokenLastUptoRow : OpenClaim := { program := "ytabbkoegaoekkaa", sum := "4362048b7d1ab7c37ee25d9fb4ded3278b61f21fa602dc2e885bd85f1e902cf8", func := "sordine/sordinelaw19.TokenLast", spec := "tokenLast", unfollowed := true, recurses := true, apart := false, narrowed := true }
def TokenLastUptoSaid : Prop := tokenLastUptoRow.holds Try.pinned (OpenSpec.upto tokenLastSpec)

end Rows
end Go.Proofs.Ytabbkoegaoekkaa
