-- Written by a program of this session (pr.py, over the kit's print.py).
import Derived.Test.YtfoickaangjmnaaPOQueueBytesx0
import Derived.Test.YtfoickaangjmnaaPOQueueBytesx1
import Derived.Test.YtfoickaangjmnaaPOQueueBytesx2
import Derived.Test.YtfoickaangjmnaaPOQueueBytesx3
import Derived.Test.YtfoickaangjmnaaPOQueueBytesx4
import Derived.Test.YtfoickaangjmnaaPOQueueBytesx5
import Derived.Test.YtfoickaangjmnaaPOQueueBytesx6
import Derived.Test.YtfoickaangjmnaaPOQueueBytesx7
import Derived.Test.YtfoickaangjmnaaPOQueueBytesx8
import Derived.Test.YtfoickaangjmnaaPOQueueBytesx9
import Derived.Test.YtfoickaangjmnaaPOQueueBytesx10
import Derived.Test.YtfoickaangjmnaaPOQueueBytesx11
import Derived.Test.YtfoickaangjmnaaPOQueueBytesx12
namespace Go.Proofs.Ytfoickaangjmnaa.POQueueBytes
open Go.RowKit Go.Proofs.YtfoickaangjmnaaN Go.Proofs.YtfoickaangjmnaaW.PrintWords Go.Proofs.YtfoickaangjmnaaW.PrintLast Go.Proofs.YtfoickaangjmnaaW.PrintMore
attribute [local go_sem] max2_int min2_int max_two min_two max_three min_three max_four min_four   -- for this text's walks alone
set_option linter.unusedVariables false
set_option linter.unusedSimpArgs false

end Go.Proofs.Ytfoickaangjmnaa.POQueueBytes
