-- Written by a program of this session (pr.py, over the kit's print.py).
import Derived.Test.YtfoickaangjmnaaPOQuotArgsx0
import Derived.Test.YtfoickaangjmnaaPOQuotArgsx1
import Derived.Test.YtfoickaangjmnaaPOQuotArgsx2
import Derived.Test.YtfoickaangjmnaaPOQuotArgsx3
import Derived.Test.YtfoickaangjmnaaPOQuotArgsx4
import Derived.Test.YtfoickaangjmnaaPOQuotArgsx5
import Derived.Test.YtfoickaangjmnaaPOQuotArgsx6
import Derived.Test.YtfoickaangjmnaaPOQuotArgsx7
import Derived.Test.YtfoickaangjmnaaPOQuotArgsx8
import Derived.Test.YtfoickaangjmnaaPOQuotArgsx9
namespace Go.Proofs.Ytfoickaangjmnaa.POQuotArgs
open Go.RowKit Go.Proofs.YtfoickaangjmnaaN Go.Proofs.YtfoickaangjmnaaW.PrintWords Go.Proofs.YtfoickaangjmnaaW.PrintLast Go.Proofs.YtfoickaangjmnaaW.PrintMore
attribute [local go_sem] max2_int min2_int max_two min_two max_three min_three max_four min_four   -- for this text's walks alone
set_option linter.unusedVariables false
set_option linter.unusedSimpArgs false

end Go.Proofs.Ytfoickaangjmnaa.POQuotArgs
