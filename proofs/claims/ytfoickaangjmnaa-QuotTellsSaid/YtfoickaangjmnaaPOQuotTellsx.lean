-- Written by a program of this session (pr.py, over the kit's print.py).
import Derived.Test.YtfoickaangjmnaaPOQuotTellsx0
import Derived.Test.YtfoickaangjmnaaPOQuotTellsx1
import Derived.Test.YtfoickaangjmnaaPOQuotTellsx2
import Derived.Test.YtfoickaangjmnaaPOQuotTellsx3
import Derived.Test.YtfoickaangjmnaaPOQuotTellsx4
import Derived.Test.YtfoickaangjmnaaPOQuotTellsx5
import Derived.Test.YtfoickaangjmnaaPOQuotTellsx6
import Derived.Test.YtfoickaangjmnaaPOQuotTellsx7
import Derived.Test.YtfoickaangjmnaaPOQuotTellsx8
import Derived.Test.YtfoickaangjmnaaPOQuotTellsx9
import Derived.Test.YtfoickaangjmnaaPOQuotTellsx10
import Derived.Test.YtfoickaangjmnaaPOQuotTellsx11
import Derived.Test.YtfoickaangjmnaaPOQuotTellsx12
import Derived.Test.YtfoickaangjmnaaPOQuotTellsx13
namespace Go.Proofs.Ytfoickaangjmnaa.POQuotTells
open Go.RowKit Go.Proofs.YtfoickaangjmnaaN Go.Proofs.YtfoickaangjmnaaW.PrintWords Go.Proofs.YtfoickaangjmnaaW.PrintLast Go.Proofs.YtfoickaangjmnaaW.PrintMore
attribute [local go_sem] max2_int min2_int max_two min_two max_three min_three max_four min_four   -- for this text's walks alone
set_option linter.unusedVariables false
set_option linter.unusedSimpArgs false

end Go.Proofs.Ytfoickaangjmnaa.POQuotTells
