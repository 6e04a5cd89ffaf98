/- Differences, sums of rows and products, as numbers. -/
import Derived.Test.YtdknpbabdkjhfaaOLimbPowersLimbA
set_option linter.unusedVariables false
set_option linter.unusedSimpArgs false
namespace Go.Proofs.Ytdknpbabdkjhfaa.EOLimbPowers
open Go.RowKit Go.Proofs.Ytdknpbabdkjhfaa.POLimbPowers Go.Proofs.YtdknpbabdkjhfaaN Go.Proofs.YtdknpbabdkjhfaaW.PrintWords Go.Proofs.YtdknpbabdkjhfaaW.PrintLast Go.Proofs.YtdknpbabdkjhfaaW.PrintMore
end Go.Proofs.Ytdknpbabdkjhfaa.EOLimbPowers
