-- Written by a program of this session (pr.py, over the kit's print.py).
import Derived.Test.YtfoickaangjmnaaPOQueueArgsx0
import Derived.Test.YtfoickaangjmnaaPOQueueArgsx1
import Derived.Test.YtfoickaangjmnaaPOQueueArgsx2
import Derived.Test.YtfoickaangjmnaaPOQueueArgsx3
import Derived.Test.YtfoickaangjmnaaPOQueueArgsx4
import Derived.Test.YtfoickaangjmnaaPOQueueArgsx5
import Derived.Test.YtfoickaangjmnaaPOQueueArgsx6
import Derived.Test.YtfoickaangjmnaaPOQueueArgsx7
import Derived.Test.YtfoickaangjmnaaPOQueueArgsx8
import Derived.Test.YtfoickaangjmnaaPOQueueArgsx13
namespace Go.Proofs.Ytfoickaangjmnaa.POQueueArgs
open Go.RowKit Go.Proofs.YtfoickaangjmnaaN Go.Proofs.YtfoickaangjmnaaW.PrintWords Go.Proofs.YtfoickaangjmnaaW.PrintLast Go.Proofs.YtfoickaangjmnaaW.PrintMore
attribute [local go_sem] max2_int min2_int max_two min_two max_three min_three max_four min_four   -- for this text's walks alone
set_option linter.unusedVariables false
set_option linter.unusedSimpArgs false

end Go.Proofs.Ytfoickaangjmnaa.POQueueArgs
