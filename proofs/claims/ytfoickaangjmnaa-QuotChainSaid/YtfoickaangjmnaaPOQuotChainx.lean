-- Written by a program of this session (pr.py, over the kit's print.py).
import Derived.Test.YtfoickaangjmnaaPOQuotChainx0
import Derived.Test.YtfoickaangjmnaaPOQuotChainx1
import Derived.Test.YtfoickaangjmnaaPOQuotChainx2
import Derived.Test.YtfoickaangjmnaaPOQuotChainx3
import Derived.Test.YtfoickaangjmnaaPOQuotChainx4
import Derived.Test.YtfoickaangjmnaaPOQuotChainx5
import Derived.Test.YtfoickaangjmnaaPOQuotChainx6
import Derived.Test.YtfoickaangjmnaaPOQuotChainx7
import Derived.Test.YtfoickaangjmnaaPOQuotChainx8
import Derived.Test.YtfoickaangjmnaaPOQuotChainx9
import Derived.Test.YtfoickaangjmnaaPOQuotChainx10
namespace Go.Proofs.Ytfoickaangjmnaa.POQuotChain
open Go.RowKit Go.Proofs.YtfoickaangjmnaaN Go.Proofs.YtfoickaangjmnaaW.PrintWords Go.Proofs.YtfoickaangjmnaaW.PrintLast Go.Proofs.YtfoickaangjmnaaW.PrintMore
attribute [local go_sem] max2_int min2_int max_two min_two max_three min_three max_four min_four   -- for this text's walks alone
set_option linter.unusedVariables false
set_option linter.unusedSimpArgs false

end Go.Proofs.Ytfoickaangjmnaa.POQuotChain
