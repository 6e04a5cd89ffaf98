/- the references' product of rows of limbs, as numbers -/
import Derived.Test.YtmknpclfanblfaaONatSumsLimbC
set_option linter.unusedVariables false
set_option linter.unusedSimpArgs false
namespace Go.Proofs.Ytmknpclfanblfaa.EONatSums
open Go.RowKit Go.Proofs.Ytmknpclfanblfaa.PONatSums Go.Proofs.YtmknpclfanblfaaN Go.Proofs.YtmknpclfanblfaaW.PrintWords Go.Proofs.YtmknpclfanblfaaW.PrintLast Go.Proofs.YtmknpclfanblfaaW.PrintMore
end Go.Proofs.Ytmknpclfanblfaa.EONatSums
