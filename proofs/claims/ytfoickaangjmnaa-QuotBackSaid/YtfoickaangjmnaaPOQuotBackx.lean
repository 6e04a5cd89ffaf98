-- Written by a program of this session (pr.py, over the kit's print.py).
import Derived.Test.YtfoickaangjmnaaPOQuotBackx0
import Derived.Test.YtfoickaangjmnaaPOQuotBackx1
import Derived.Test.YtfoickaangjmnaaPOQuotBackx2
import Derived.Test.YtfoickaangjmnaaPOQuotBackx3
import Derived.Test.YtfoickaangjmnaaPOQuotBackx4
import Derived.Test.YtfoickaangjmnaaPOQuotBackx5
import Derived.Test.YtfoickaangjmnaaPOQuotBackx6
import Derived.Test.YtfoickaangjmnaaPOQuotBackx7
import Derived.Test.YtfoickaangjmnaaPOQuotBackx8
import Derived.Test.YtfoickaangjmnaaPOQuotBackx9
import Derived.Test.YtfoickaangjmnaaPOQuotBackx10
namespace Go.Proofs.Ytfoickaangjmnaa.POQuotBack
open Go.RowKit Go.Proofs.YtfoickaangjmnaaN Go.Proofs.YtfoickaangjmnaaW.PrintWords Go.Proofs.YtfoickaangjmnaaW.PrintLast Go.Proofs.YtfoickaangjmnaaW.PrintMore
attribute [local go_sem] max2_int min2_int max_two min_two max_three min_three max_four min_four   -- for this text's walks alone
set_option linter.unusedVariables false
set_option linter.unusedSimpArgs false

end Go.Proofs.Ytfoickaangjmnaa.POQuotBack
