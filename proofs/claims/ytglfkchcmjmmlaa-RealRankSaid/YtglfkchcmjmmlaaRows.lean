/-
  No cell of these rows narrows 'for every input' (looked for: loops, veiled, ifaces, maps, wideKeys, modest, calm, conditions, laid).
  DERIVED. THE GIVEN ROWS OF THIS SEAT. 10 by the template 'for every input the law returns true; each argument reads behind the call as it read before'; 0 by the template 'total and deterministic' (their statements: YtglfkchcmjmmlaaTotals.lean).
  GIVEN WITH THE SEED: the statements are not yours to turn. If you find one false, say at which input.
  Laid BY PROGRAM, IN A SANDBOX (cutbox-rows.mjs): the forced cells as the released guide's own fill.sh prints them over the translation 93d75d0dc8e8a5ed… (all of the seat's roots in one cut). By AI agents, Wed Nov 11 2026. No macro, syntax, notation, axiom, sorry.
-/
import Derived.Test.YtglfkchcmjmmlaaChecked
import GoSem.Claim
import GoSem.ClaimJoined
import GoSem.ClaimMapViews
import Derived.JoinedTies
import Derived.KernelRfl
namespace Go.Proofs.Ytglfkchcmjmmlaa
/- THE CELL 'sum', in the pinned program and in every row, IS THE sha256 OF THE DUMP (.gsa) THAT YtglfkchcmjmmlaaProg.lean LOADS. Nothing in Lean hashes anything: it is a label: what it is worth is what the hold of that sum in a sandbox is worth. -/
noncomputable def Try.pinned : Pinned := { name := "ytglfkchcmjmmlaa", sum := "93d75d0dc8e8a5edc9bb5025d78533938ffe052133012caa94053ab6cd5c6358", checked := Try.checked }
namespace Rows
def none {H : Type} : Left H := { results := [], args := [] }

/-- 'sordinelaw3.RealRuns': WHATEVER THE INPUT: true; the input reads as it did. -/
def realRunsSpec : ChangeSpec := { name := "realRuns", fn := fun _ => fun
  | [] => { results := [.lit (.bool true)], args := [] }
  | _ => none }
def realRunsRow : OpenClaim := { program := "ytglfkchcmjmmlaa", sum := "93d75d0dc8e8a5edc9bb5025d78533938ffe052133012caa94053ab6cd5c6358", func := "sordine/sordinelaw3.RealRuns", spec := "realRuns", inPlace := ["math.Float64bits", "math.Float64frombits"], unfollowed := true, recurses := true, apart := false }
def RealRunsSaid : Prop := realRunsRow.holds Try.pinned (OpenSpec.ofChange realRunsSpec)

/-- ITS FALSE NEIGHBOUR: 'it returns false'. Refute it at one input. -/
def realRunsWrong : ChangeSpec := { name := "realRuns", fn := fun _ => fun
  | [] => { results := [.lit (.bool false)], args := [] }
  | _ => none }
def RealRunsWrongFalsely : Prop := realRunsRow.holds Try.pinned (OpenSpec.ofChange realRunsWrong)

/-- 'sordinelaw3.RealLine': WHATEVER THE INPUT: true; the input reads as it did. -/
def realLineSpec : ChangeSpec := { name := "realLine", fn := fun _ => fun
  | [d1, d2, d3] => { results := [.lit (.bool true)], args := [d1, d2, d3] }
  | _ => none }
def realLineRow : OpenClaim := { program := "ytglfkchcmjmmlaa", sum := "93d75d0dc8e8a5edc9bb5025d78533938ffe052133012caa94053ab6cd5c6358", func := "sordine/sordinelaw3.RealLine", spec := "realLine", inPlace := ["math.Float64bits", "math.Float64frombits"], unfollowed := true, recurses := true, apart := false }
def RealLineSaid : Prop := realLineRow.holds Try.pinned (OpenSpec.ofChange realLineSpec)

/-- ITS FALSE NEIGHBOUR: 'it returns false'. Refute it at one input. -/
def realLineWrong : ChangeSpec := { name := "realLine", fn := fun _ => fun
  | [d1, d2, d3] => { results := [.lit (.bool false)], args := [d1, d2, d3] }
  | _ => none }
def RealLineWrongFalsely : Prop := realLineRow.holds Try.pinned (OpenSpec.ofChange realLineWrong)

/-- 'sordinelaw3.RealBands': WHATEVER THE INPUT: true; the input reads as it did. -/
def realBandsSpec : ChangeSpec := { name := "realBands", fn := fun _ => fun
  | [d1, d2] => { results := [.lit (.bool true)], args := [d1, d2] }
  | _ => none }
def realBandsRow : OpenClaim := { program := "ytglfkchcmjmmlaa", sum := "93d75d0dc8e8a5edc9bb5025d78533938ffe052133012caa94053ab6cd5c6358", func := "sordine/sordinelaw3.RealBands", spec := "realBands", inPlace := ["math.Float64bits", "math.Float64frombits"], unfollowed := true, recurses := true, apart := false }
def RealBandsSaid : Prop := realBandsRow.holds Try.pinned (OpenSpec.ofChange realBandsSpec)

/-- ITS FALSE NEIGHBOUR: 'it returns false'. Refute it at one input. -/
def realBandsWrong : ChangeSpec := { name := "realBands", fn := fun _ => fun
  | [d1, d2] => { results := [.lit (.bool false)], args := [d1, d2] }
  | _ => none }
def RealBandsWrongFalsely : Prop := realBandsRow.holds Try.pinned (OpenSpec.ofChange realBandsWrong)

/-- 'sordinelaw3.RealFalls': WHATEVER THE INPUT: true; the input reads as it did. -/
def realFallsSpec : ChangeSpec := { name := "realFalls", fn := fun _ => fun
  | [d] => { results := [.lit (.bool true)], args := [d] }
  | _ => none }
def realFallsRow : OpenClaim := { program := "ytglfkchcmjmmlaa", sum := "93d75d0dc8e8a5edc9bb5025d78533938ffe052133012caa94053ab6cd5c6358", func := "sordine/sordinelaw3.RealFalls", spec := "realFalls", inPlace := ["math.Float64bits", "math.Float64frombits"], unfollowed := true, recurses := true, apart := false }
def RealFallsSaid : Prop := realFallsRow.holds Try.pinned (OpenSpec.ofChange realFallsSpec)

/-- ITS FALSE NEIGHBOUR: 'it returns false'. Refute it at one input. -/
def realFallsWrong : ChangeSpec := { name := "realFalls", fn := fun _ => fun
  | [d] => { results := [.lit (.bool false)], args := [d] }
  | _ => none }
def RealFallsWrongFalsely : Prop := realFallsRow.holds Try.pinned (OpenSpec.ofChange realFallsWrong)

/-- 'sordinelaw3.RealOrder': WHATEVER THE INPUT: true; the input reads as it did. -/
def realOrderSpec : ChangeSpec := { name := "realOrder", fn := fun _ => fun
  | [d1, d2] => { results := [.lit (.bool true)], args := [d1, d2] }
  | _ => none }
def realOrderRow : OpenClaim := { program := "ytglfkchcmjmmlaa", sum := "93d75d0dc8e8a5edc9bb5025d78533938ffe052133012caa94053ab6cd5c6358", func := "sordine/sordinelaw3.RealOrder", spec := "realOrder", inPlace := ["math.Float64bits", "math.Float64frombits"], unfollowed := true, recurses := true, apart := false }
def RealOrderSaid : Prop := realOrderRow.holds Try.pinned (OpenSpec.ofChange realOrderSpec)

/-- ITS FALSE NEIGHBOUR: 'it returns false'. Refute it at one input. -/
def realOrderWrong : ChangeSpec := { name := "realOrder", fn := fun _ => fun
  | [d1, d2] => { results := [.lit (.bool false)], args := [d1, d2] }
  | _ => none }
def RealOrderWrongFalsely : Prop := realOrderRow.holds Try.pinned (OpenSpec.ofChange realOrderWrong)

/-- 'sordinelaw3.RealRank': WHATEVER THE INPUT: true; the input reads as it did. -/
def realRankSpec : ChangeSpec := { name := "realRank", fn := fun _ => fun
  | [d] => { results := [.lit (.bool true)], args := [d] }
  | _ => none }
def realRankRow : OpenClaim := { program := "ytglfkchcmjmmlaa", sum := "93d75d0dc8e8a5edc9bb5025d78533938ffe052133012caa94053ab6cd5c6358", func := "sordine/sordinelaw3.RealRank", spec := "realRank", inPlace := ["math.Float64bits", "math.Float64frombits"], unfollowed := true, recurses := true, apart := false }
def RealRankSaid : Prop := realRankRow.holds Try.pinned (OpenSpec.ofChange realRankSpec)

/-- ITS FALSE NEIGHBOUR: 'it returns false'. Refute it at one input. -/
def realRankWrong : ChangeSpec := { name := "realRank", fn := fun _ => fun
  | [d] => { results := [.lit (.bool false)], args := [d] }
  | _ => none }
def RealRankWrongFalsely : Prop := realRankRow.holds Try.pinned (OpenSpec.ofChange realRankWrong)

/-- 'sordinelaw3.RealBits': WHATEVER THE INPUT: true; the input reads as it did. -/
def realBitsSpec : ChangeSpec := { name := "realBits", fn := fun _ => fun
  | [d1, d2] => { results := [.lit (.bool true)], args := [d1, d2] }
  | _ => none }
def realBitsRow : OpenClaim := { program := "ytglfkchcmjmmlaa", sum := "93d75d0dc8e8a5edc9bb5025d78533938ffe052133012caa94053ab6cd5c6358", func := "sordine/sordinelaw3.RealBits", spec := "realBits", inPlace := ["math.Float64frombits", "math.Float64bits"], unfollowed := true, recurses := true, apart := false }
def RealBitsSaid : Prop := realBitsRow.holds Try.pinned (OpenSpec.ofChange realBitsSpec)

/-- ITS FALSE NEIGHBOUR: 'it returns false'. Refute it at one input. -/
def realBitsWrong : ChangeSpec := { name := "realBits", fn := fun _ => fun
  | [d1, d2] => { results := [.lit (.bool false)], args := [d1, d2] }
  | _ => none }
def RealBitsWrongFalsely : Prop := realBitsRow.holds Try.pinned (OpenSpec.ofChange realBitsWrong)

/-- 'sordinelaw3.RealWithin': WHATEVER THE INPUT: true; the input reads as it did. -/
def realWithinSpec : ChangeSpec := { name := "realWithin", fn := fun _ => fun
  | [d1, d2, d3, d4, d5] => { results := [.lit (.bool true)], args := [d1, d2, d3, d4, d5] }
  | _ => none }
def realWithinRow : OpenClaim := { program := "ytglfkchcmjmmlaa", sum := "93d75d0dc8e8a5edc9bb5025d78533938ffe052133012caa94053ab6cd5c6358", func := "sordine/sordinelaw3.RealWithin", spec := "realWithin", inPlace := ["math.Float64frombits", "math.Float64bits"], unfollowed := true, recurses := true, apart := false }
def RealWithinSaid : Prop := realWithinRow.holds Try.pinned (OpenSpec.ofChange realWithinSpec)

/-- ITS FALSE NEIGHBOUR: 'it returns false'. Refute it at one input. -/
def realWithinWrong : ChangeSpec := { name := "realWithin", fn := fun _ => fun
  | [d1, d2, d3, d4, d5] => { results := [.lit (.bool false)], args := [d1, d2, d3, d4, d5] }
  | _ => none }
def RealWithinWrongFalsely : Prop := realWithinRow.holds Try.pinned (OpenSpec.ofChange realWithinWrong)

/-- 'sordinelaw3.RealExtremes': WHATEVER THE INPUT: true; the input reads as it did. -/
def realExtremesSpec : ChangeSpec := { name := "realExtremes", fn := fun _ => fun
  | [d] => { results := [.lit (.bool true)], args := [d] }
  | _ => none }
def realExtremesRow : OpenClaim := { program := "ytglfkchcmjmmlaa", sum := "93d75d0dc8e8a5edc9bb5025d78533938ffe052133012caa94053ab6cd5c6358", func := "sordine/sordinelaw3.RealExtremes", spec := "realExtremes", inPlace := ["math.Float64bits", "math.Float64frombits"], unfollowed := true, recurses := true, apart := false }
def RealExtremesSaid : Prop := realExtremesRow.holds Try.pinned (OpenSpec.ofChange realExtremesSpec)

/-- ITS FALSE NEIGHBOUR: 'it returns false'. Refute it at one input. -/
def realExtremesWrong : ChangeSpec := { name := "realExtremes", fn := fun _ => fun
  | [d] => { results := [.lit (.bool false)], args := [d] }
  | _ => none }
def RealExtremesWrongFalsely : Prop := realExtremesRow.holds Try.pinned (OpenSpec.ofChange realExtremesWrong)

/-- 'sordinelaw3.RealTexts': WHATEVER THE INPUT: true; the input reads as it did. -/
def realTextsSpec : ChangeSpec := { name := "realTexts", fn := fun _ => fun
  | [d1, d2] => { results := [.lit (.bool true)], args := [d1, d2] }
  | _ => none }
def realTextsRow : OpenClaim := { program := "ytglfkchcmjmmlaa", sum := "93d75d0dc8e8a5edc9bb5025d78533938ffe052133012caa94053ab6cd5c6358", func := "sordine/sordinelaw3.RealTexts", spec := "realTexts", inPlace := ["math.Float64bits", "math.Float64frombits"], unfollowed := true, recurses := true, apart := false }
def RealTextsSaid : Prop := realTextsRow.holds Try.pinned (OpenSpec.ofChange realTextsSpec)

/-- ITS FALSE NEIGHBOUR: 'it returns false'. Refute it at one input. -/
def realTextsWrong : ChangeSpec := { name := "realTexts", fn := fun _ => fun
  | [d1, d2] => { results := [.lit (.bool false)], args := [d1, d2] }
  | _ => none }
def RealTextsWrongFalsely : Prop := realTextsRow.holds Try.pinned (OpenSpec.ofChange realTextsWrong)

/- THE SECOND FORM. 'bulk': how many values and letters a reading holds, each counted each time it is reached (what is shared counts as often as it is met; a slice's spare places count too). A statement '..UptoSaid' is the law's where the arguments, and the package variables that the reading takes, are together of bulk at most 1048576: NARROWER than '..Said'. Prove '..Said' where nothing that the law and all that it calls make is longer than what came in: it says more and counts as full. Else prove '..UptoSaid'. A law counts once. -/
mutual
def uptoBulk {H : Type} : DataW H → Nat
  | .lit (.string bytes) => bytes.length + 1
  | .lit _ => 1
  | .nil => 1
  | .ptr d => uptoBulk d + 1
  | .slice elems spare => uptoBulkAll elems + uptoBulkAll spare + 1
  | .agg parts => uptoBulkAll parts + 1
  | .iface _ d => uptoBulk d + 1
  | .map entries => uptoBulkEntries entries + 1
  | .held _ => 1
def uptoBulkAll {H : Type} : List (DataW H) → Nat
  | [] => 0
  | d :: r => uptoBulk d + uptoBulkAll r
def uptoBulkEntries {H : Type} : List (Lit × DataW H) → Nat
  | [] => 0
  | x :: r => uptoBulkEntry x + uptoBulkEntries r
def uptoBulkEntry {H : Type} : Lit × DataW H → Nat
  | (.string bytes, d) => bytes.length + uptoBulk d + 1
  | (_, d) => uptoBulk d + 1
 end
def uptoSmall : (H : Type) → List (DataW H) → Bool := fun _ ds => decide (uptoBulkAll ds ≤ 1048576)
def OpenSpec.upto (s : _root_.Go.ChangeSpec) : _root_.Go.OpenSpec := { _root_.Go.OpenSpec.ofChange s with cond := some uptoSmall }

/-- 'sordinelaw3.RealRuns', WHERE WHAT IT READS IS OF BULK AT MOST 1048576: true; the input reads as it did. -/
def realRunsUptoRow : OpenClaim := { program := "ytglfkchcmjmmlaa", sum := "93d75d0dc8e8a5edc9bb5025d78533938ffe052133012caa94053ab6cd5c6358", func := "sordine/sordinelaw3.RealRuns", spec := "realRuns", inPlace := ["math.Float64bits", "math.Float64frombits"], unfollowed := true, recurses := true, apart := false, narrowed := true }
def RealRunsUptoSaid : Prop := realRunsUptoRow.holds Try.pinned (OpenSpec.upto realRunsSpec)

/-- 'sordinelaw3.RealLine', WHERE WHAT IT READS IS OF BULK AT MOST 1048576: true; the input reads as it did. -/
def realLineUptoRow : OpenClaim := { program := "ytglfkchcmjmmlaa", sum := "93d75d0dc8e8a5edc9bb5025d78533938ffe052133012caa94053ab6cd5c6358", func := "sordine/sordinelaw3.RealLine", spec := "realLine", inPlace := ["math.Float64bits", "math.Float64frombits"], unfollowed := true, recurses := true, apart := false, narrowed := true }
def RealLineUptoSaid : Prop := realLineUptoRow.holds Try.pinned (OpenSpec.upto realLineSpec)

/-- 'sordinelaw3.RealBands', WHERE WHAT IT READS IS OF BULK AT MOST 1048576: true; the input reads as it did. -/
def realBandsUptoRow : OpenClaim := { program := "ytglfkchcmjmmlaa", sum := "93d75d0dc8e8a5edc9bb5025d78533938ffe052133012caa94053ab6cd5c6358", func := "sordine/sordinelaw3.RealBands", spec := "realBands", inPlace := ["math.Float64bits", "math.Float64frombits"], unfollowed := true, recurses := true, apart := false, narrowed := true }
def RealBandsUptoSaid : Prop := realBandsUptoRow.holds Try.pinned (OpenSpec.upto realBandsSpec)

/-- 'sordinelaw3.RealFalls', WHERE WHAT IT READS IS OF BULK AT MOST 1048576: true; the input reads as it did. -/
def realFallsUptoRow : OpenClaim := { program := "ytglfkchcmjmmlaa", sum := "93d75d0dc8e8a5edc9bb5025d78533938ffe052133012caa94053ab6cd5c6358", func := "sordine/sordinelaw3.RealFalls", spec := "realFalls", inPlace := ["math.Float64bits", "math.Float64frombits"], unfollowed := true, recurses := true, apart := false, narrowed := true }
def RealFallsUptoSaid : Prop := realFallsUptoRow.holds Try.pinned (OpenSpec.upto realFallsSpec)

/-- 'sordinelaw3.RealOrder', WHERE WHAT IT READS IS OF BULK AT MOST 1048576: true; the input reads as it did. -/
def realOrderUptoRow : OpenClaim := { program := "ytglfkchcmjmmlaa", sum := "93d75d0dc8e8a5edc9bb5025d78533938ffe052133012caa94053ab6cd5c6358", func := "sordine/sordinelaw3.RealOrder", spec := "realOrder", inPlace := ["math.Float64bits", "math.Float64frombits"], unfollowed := true, recurses := true, apart := false, narrowed := true }
def RealOrderUptoSaid : Prop := realOrderUptoRow.holds Try.pinned (OpenSpec.upto realOrderSpec)

/-- 'sordinelaw3.RealRank', WHERE WHAT IT READS IS OF BULK AT MOST 1048576: true; the input reads as it did. -/
def realRankUptoRow : OpenClaim := { program := "ytglfkchcmjmmlaa", sum := "93d75d0dc8e8a5edc9bb5025d78533938ffe052133012caa94053ab6cd5c6358", func := "sordine/sordinelaw3.RealRank", spec := "realRank", inPlace := ["math.Float64bits", "math.Float64frombits"], unfollowed := true, recurses := true, apart := false, narrowed := true }
def RealRankUptoSaid : Prop := realRankUptoRow.holds Try.pinned (OpenSpec.upto realRankSpec)

/-- 'sordinelaw3.RealBits', WHERE WHAT IT READS IS OF BULK AT MOST 1048576: true; the input reads as it did. -/
def realBitsUptoRow : OpenClaim := { program := "ytglfkchcmjmmlaa", sum := "93d75d0dc8e8a5edc9bb5025d78533938ffe052133012caa94053ab6cd5c6358", func := "sordine/sordinelaw3.RealBits", spec := "realBits", inPlace := ["math.Float64frombits", "math.Float64bits"], unfollowed := true, recurses := true, apart := false, narrowed := true }
def RealBitsUptoSaid : Prop := realBitsUptoRow.holds Try.pinned (OpenSpec.upto realBitsSpec)

/-- 'sordinelaw3.RealWithin', WHERE WHAT IT READS IS OF BULK AT MOST 1048576: true; the input reads as it did. -/
def realWithinUptoRow : OpenClaim := { program := "ytglfkchcmjmmlaa", sum := "93d75d0dc8e8a5edc9bb5025d78533938ffe052133012caa94053ab6cd5c6358", func := "sordine/sordinelaw3.RealWithin", spec := "realWithin", inPlace := ["math.Float64frombits", "math.Float64bits"], unfollowed := true, recurses := true, apart := false, narrowed := true }
def RealWithinUptoSaid : Prop := realWithinUptoRow.holds Try.pinned (OpenSpec.upto realWithinSpec)

/-- 'sordinelaw3.RealExtremes', WHERE WHAT IT READS IS OF BULK AT MOST 1048576: true; the input reads as it did. -/
def realExtremesUptoRow : OpenClaim := { program := "ytglfkchcmjmmlaa", sum := "93d75d0dc8e8a5edc9bb5025d78533938ffe052133012caa94053ab6cd5c6358", func := "sordine/sordinelaw3.RealExtremes", spec := "realExtremes", inPlace := ["math.Float64bits", "math.Float64frombits"], unfollowed := true, recurses := true, apart := false, narrowed := true }
def RealExtremesUptoSaid : Prop := realExtremesUptoRow.holds Try.pinned (OpenSpec.upto realExtremesSpec)

/-- 'sordinelaw3.RealTexts', WHERE WHAT IT READS IS OF BULK AT MOST 1048576: true; the input reads as it did. -/
def realTextsUptoRow : OpenClaim := { program := "ytglfkchcmjmmlaa", sum := "93d75d0dc8e8a5edc9bb5025d78533938ffe052133012caa94053ab6cd5c6358", func := "sordine/sordinelaw3.RealTexts", spec := "realTexts", inPlace := ["math.Float64bits", "math.Float64frombits"], unfollowed := true, recurses := true, apart := false, narrowed := true }
def RealTextsUptoSaid : Prop := realTextsUptoRow.holds Try.pinned (OpenSpec.upto realTextsSpec)

end Rows
end Go.Proofs.Ytglfkchcmjmmlaa
