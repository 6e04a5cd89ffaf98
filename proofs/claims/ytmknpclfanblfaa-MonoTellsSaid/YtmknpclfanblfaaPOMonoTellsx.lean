-- Written by a program of this session (pr.py, over the kit's print.py).
import Derived.Test.YtmknpclfanblfaaPOMonoTellsx0
import Derived.Test.YtmknpclfanblfaaPOMonoTellsx1
import Derived.Test.YtmknpclfanblfaaPOMonoTellsx2
import Derived.Test.YtmknpclfanblfaaPOMonoTellsx3
import Derived.Test.YtmknpclfanblfaaPOMonoTellsx4
import Derived.Test.YtmknpclfanblfaaPOMonoTellsx5
import Derived.Test.YtmknpclfanblfaaPOMonoTellsx6
import Derived.Test.YtmknpclfanblfaaPOMonoTellsx7
import Derived.Test.YtmknpclfanblfaaPOMonoTellsx8
import Derived.Test.YtmknpclfanblfaaPOMonoTellsx9
import Derived.Test.YtmknpclfanblfaaPOMonoTellsx10
import Derived.Test.YtmknpclfanblfaaPOMonoTellsx11
namespace Go.Proofs.Ytmknpclfanblfaa.POMonoTells
open Go.RowKit Go.Proofs.YtmknpclfanblfaaN Go.Proofs.YtmknpclfanblfaaW.PrintWords Go.Proofs.YtmknpclfanblfaaW.PrintLast Go.Proofs.YtmknpclfanblfaaW.PrintMore
attribute [local go_sem] max2_int min2_int max_two min_two max_three min_three max_four min_four   -- for this text's walks alone
set_option linter.unusedVariables false
set_option linter.unusedSimpArgs false

end Go.Proofs.Ytmknpclfanblfaa.POMonoTells
