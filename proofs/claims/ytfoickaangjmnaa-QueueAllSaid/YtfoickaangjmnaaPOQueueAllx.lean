-- Written by a program of this session (pr.py, over the kit's print.py).
import Derived.Test.YtfoickaangjmnaaPOQueueAllx0
import Derived.Test.YtfoickaangjmnaaPOQueueAllx1
import Derived.Test.YtfoickaangjmnaaPOQueueAllx2
import Derived.Test.YtfoickaangjmnaaPOQueueAllx3
import Derived.Test.YtfoickaangjmnaaPOQueueAllx4
import Derived.Test.YtfoickaangjmnaaPOQueueAllx5
import Derived.Test.YtfoickaangjmnaaPOQueueAllx6
import Derived.Test.YtfoickaangjmnaaPOQueueAllx7
import Derived.Test.YtfoickaangjmnaaPOQueueAllx8
import Derived.Test.YtfoickaangjmnaaPOQueueAllx9
import Derived.Test.YtfoickaangjmnaaPOQueueAllx10
namespace Go.Proofs.Ytfoickaangjmnaa.POQueueAll
open Go.RowKit Go.Proofs.YtfoickaangjmnaaN Go.Proofs.YtfoickaangjmnaaW.PrintWords Go.Proofs.YtfoickaangjmnaaW.PrintLast Go.Proofs.YtfoickaangjmnaaW.PrintMore
attribute [local go_sem] max2_int min2_int max_two min_two max_three min_three max_four min_four   -- for this text's walks alone
set_option linter.unusedVariables false
set_option linter.unusedSimpArgs false

end Go.Proofs.Ytfoickaangjmnaa.POQueueAll
