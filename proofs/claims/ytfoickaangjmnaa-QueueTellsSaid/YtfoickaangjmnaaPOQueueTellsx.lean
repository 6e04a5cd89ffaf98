-- Written by a program of this session (pr.py, over the kit's print.py).
import Derived.Test.YtfoickaangjmnaaPOQueueTellsx0
import Derived.Test.YtfoickaangjmnaaPOQueueTellsx1
import Derived.Test.YtfoickaangjmnaaPOQueueTellsx2
import Derived.Test.YtfoickaangjmnaaPOQueueTellsx3
import Derived.Test.YtfoickaangjmnaaPOQueueTellsx4
import Derived.Test.YtfoickaangjmnaaPOQueueTellsx5
import Derived.Test.YtfoickaangjmnaaPOQueueTellsx6
import Derived.Test.YtfoickaangjmnaaPOQueueTellsx7
import Derived.Test.YtfoickaangjmnaaPOQueueTellsx8
import Derived.Test.YtfoickaangjmnaaPOQueueTellsx9
import Derived.Test.YtfoickaangjmnaaPOQueueTellsx10
import Derived.Test.YtfoickaangjmnaaPOQueueTellsx11
import Derived.Test.YtfoickaangjmnaaPOQueueTellsx12
namespace Go.Proofs.Ytfoickaangjmnaa.POQueueTells
open Go.RowKit Go.Proofs.YtfoickaangjmnaaN Go.Proofs.YtfoickaangjmnaaW.PrintWords Go.Proofs.YtfoickaangjmnaaW.PrintLast Go.Proofs.YtfoickaangjmnaaW.PrintMore
attribute [local go_sem] max2_int min2_int max_two min_two max_three min_three max_four min_four   -- for this text's walks alone
set_option linter.unusedVariables false
set_option linter.unusedSimpArgs false

end Go.Proofs.Ytfoickaangjmnaa.POQueueTells
