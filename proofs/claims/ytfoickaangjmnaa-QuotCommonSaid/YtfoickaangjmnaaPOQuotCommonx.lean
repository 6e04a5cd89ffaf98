-- Written by a program of this session (pr.py, over the kit's print.py).
import Derived.Test.YtfoickaangjmnaaPOQuotCommonx0
import Derived.Test.YtfoickaangjmnaaPOQuotCommonx1
import Derived.Test.YtfoickaangjmnaaPOQuotCommonx2
import Derived.Test.YtfoickaangjmnaaPOQuotCommonx3
import Derived.Test.YtfoickaangjmnaaPOQuotCommonx4
import Derived.Test.YtfoickaangjmnaaPOQuotCommonx5
import Derived.Test.YtfoickaangjmnaaPOQuotCommonx6
import Derived.Test.YtfoickaangjmnaaPOQuotCommonx7
import Derived.Test.YtfoickaangjmnaaPOQuotCommonx8
import Derived.Test.YtfoickaangjmnaaPOQuotCommonx9
import Derived.Test.YtfoickaangjmnaaPOQuotCommonx10
import Derived.Test.YtfoickaangjmnaaPOQuotCommonx11
import Derived.Test.YtfoickaangjmnaaPOQuotCommonx12
import Derived.Test.YtfoickaangjmnaaPOQuotCommonx13
import Derived.Test.YtfoickaangjmnaaPOQuotCommonx14
namespace Go.Proofs.Ytfoickaangjmnaa.POQuotCommon
open Go.RowKit Go.Proofs.YtfoickaangjmnaaN Go.Proofs.YtfoickaangjmnaaW.PrintWords Go.Proofs.YtfoickaangjmnaaW.PrintLast Go.Proofs.YtfoickaangjmnaaW.PrintMore
attribute [local go_sem] max2_int min2_int max_two min_two max_three min_three max_four min_four   -- for this text's walks alone
set_option linter.unusedVariables false
set_option linter.unusedSimpArgs false

end Go.Proofs.Ytfoickaangjmnaa.POQuotCommon
