-- Written by a program of this session (pr.py, over the kit's print.py).
import Derived.Test.YtfoickaangjmnaaPOQuotTimesx0
import Derived.Test.YtfoickaangjmnaaPOQuotTimesx1
import Derived.Test.YtfoickaangjmnaaPOQuotTimesx2
import Derived.Test.YtfoickaangjmnaaPOQuotTimesx3
import Derived.Test.YtfoickaangjmnaaPOQuotTimesx4
import Derived.Test.YtfoickaangjmnaaPOQuotTimesx5
import Derived.Test.YtfoickaangjmnaaPOQuotTimesx6
import Derived.Test.YtfoickaangjmnaaPOQuotTimesx7
import Derived.Test.YtfoickaangjmnaaPOQuotTimesx8
import Derived.Test.YtfoickaangjmnaaPOQuotTimesx9
import Derived.Test.YtfoickaangjmnaaPOQuotTimesx10
namespace Go.Proofs.Ytfoickaangjmnaa.POQuotTimes
open Go.RowKit Go.Proofs.YtfoickaangjmnaaN Go.Proofs.YtfoickaangjmnaaW.PrintWords Go.Proofs.YtfoickaangjmnaaW.PrintLast Go.Proofs.YtfoickaangjmnaaW.PrintMore
attribute [local go_sem] max2_int min2_int max_two min_two max_three min_three max_four min_four   -- for this text's walks alone
set_option linter.unusedVariables false
set_option linter.unusedSimpArgs false

end Go.Proofs.Ytfoickaangjmnaa.POQuotTimes
