/- Proved: sordinelaw1.VintRuns returns true. Conditions: none. -/
import Derived.Test.YtnikgpohdookkaaPVintRunsx1
import Derived.Laws.BitsLemmas
namespace Go.Proofs.Ytnikgpohdookkaa.Pure
open Go.RowKit Go.Proofs.Ytnikgpohdookkaa.PVintRuns Go.Proofs.YtnikgpohdookkaaW.PrintWords Go.Proofs.YtnikgpohdookkaaW.PrintLast Go.Proofs.YtnikgpohdookkaaW.PrintMore

theorem VintRuns : sordinelaw1_VintRuns.Pure := ⟨20, by decide +kernel⟩

end Go.Proofs.Ytnikgpohdookkaa.Pure
