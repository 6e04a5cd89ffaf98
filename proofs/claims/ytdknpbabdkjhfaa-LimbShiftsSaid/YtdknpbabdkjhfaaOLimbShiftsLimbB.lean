/- Differences, sums of rows and products, as numbers. -/
import Derived.Test.YtdknpbabdkjhfaaOLimbShiftsLimbA
set_option linter.unusedVariables false
set_option linter.unusedSimpArgs false
namespace Go.Proofs.Ytdknpbabdkjhfaa.EOLimbShifts
open Go.RowKit Go.Proofs.Ytdknpbabdkjhfaa.POLimbShifts Go.Proofs.YtdknpbabdkjhfaaN Go.Proofs.YtdknpbabdkjhfaaW.PrintWords Go.Proofs.YtdknpbabdkjhfaaW.PrintLast Go.Proofs.YtdknpbabdkjhfaaW.PrintMore
end Go.Proofs.Ytdknpbabdkjhfaa.EOLimbShifts
