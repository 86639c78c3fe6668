/- Proved: every constant of api has the number that the document gives it; no condition. -/
import Derived.Test.YtknlcbahfpphgaaPTopNumbersx1
namespace Go.Proofs.Ytknlcbahfpphgaa.Pure
open Go.RowKit Go.Proofs.Ytknlcbahfpphgaa.PTopNumbers Go.Proofs.YtknlcbahfpphgaaW.PrintWords Go.Proofs.YtknlcbahfpphgaaW.PrintLast

theorem TopNumbers : arbitertop_TopNumbers.Pure := ⟨9, by decide⟩

end Go.Proofs.Ytknlcbahfpphgaa.Pure
