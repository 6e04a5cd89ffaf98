-- Written by a program of this session (pr.py, over the kit's print.py).
import Derived.Test.YtfoickaangjmnaaPOQuotBothx0
import Derived.Test.YtfoickaangjmnaaPOQuotBothx1
import Derived.Test.YtfoickaangjmnaaPOQuotBothx2
import Derived.Test.YtfoickaangjmnaaPOQuotBothx3
import Derived.Test.YtfoickaangjmnaaPOQuotBothx4
import Derived.Test.YtfoickaangjmnaaPOQuotBothx5
import Derived.Test.YtfoickaangjmnaaPOQuotBothx6
import Derived.Test.YtfoickaangjmnaaPOQuotBothx7
import Derived.Test.YtfoickaangjmnaaPOQuotBothx8
import Derived.Test.YtfoickaangjmnaaPOQuotBothx9
import Derived.Test.YtfoickaangjmnaaPOQuotBothx10
import Derived.Test.YtfoickaangjmnaaPOQuotBothx11
namespace Go.Proofs.Ytfoickaangjmnaa.POQuotBoth
open Go.RowKit Go.Proofs.YtfoickaangjmnaaN Go.Proofs.YtfoickaangjmnaaW.PrintWords Go.Proofs.YtfoickaangjmnaaW.PrintLast Go.Proofs.YtfoickaangjmnaaW.PrintMore
attribute [local go_sem] max2_int min2_int max_two min_two max_three min_three max_four min_four   -- for this text's walks alone
set_option linter.unusedVariables false
set_option linter.unusedSimpArgs false

end Go.Proofs.Ytfoickaangjmnaa.POQuotBoth
