/- The references of nat's functions, as numbers. -/
import Derived.Test.YtmknpclfanblfaaONatSumsNatA
import Derived.Test.YtmknpclfanblfaaONatSumsLimbC
import Derived.Test.YtmknpclfanblfaaONatSumsLimbD
set_option linter.unusedVariables false
set_option linter.unusedSimpArgs false
namespace Go.Proofs.Ytmknpclfanblfaa.EONatSums
open Go.RowKit Go.Proofs.Ytmknpclfanblfaa.PONatSums Go.Proofs.YtmknpclfanblfaaN Go.Proofs.YtmknpclfanblfaaW.PrintWords Go.Proofs.YtmknpclfanblfaaW.PrintLast Go.Proofs.YtmknpclfanblfaaW.PrintMore
end Go.Proofs.Ytmknpclfanblfaa.EONatSums
