-- Written by a program of this session (pr.py, over the kit's print.py).
import Derived.Test.YtdknpbabdkjhfaaPOLimbPowersx0
import Derived.Test.YtdknpbabdkjhfaaPOLimbPowersx1
import Derived.Test.YtdknpbabdkjhfaaPOLimbPowersx2
import Derived.Test.YtdknpbabdkjhfaaPOLimbPowersx3
import Derived.Test.YtdknpbabdkjhfaaPOLimbPowersx4
namespace Go.Proofs.Ytdknpbabdkjhfaa.POLimbPowers
open Go.RowKit Go.Proofs.YtdknpbabdkjhfaaN Go.Proofs.YtdknpbabdkjhfaaW.PrintWords Go.Proofs.YtdknpbabdkjhfaaW.PrintLast Go.Proofs.YtdknpbabdkjhfaaW.PrintMore
attribute [local go_sem] max2_int min2_int max_two min_two max_three min_three max_four min_four   -- for this text's walks alone
set_option linter.unusedVariables false
set_option linter.unusedSimpArgs false

end Go.Proofs.Ytdknpbabdkjhfaa.POLimbPowers
