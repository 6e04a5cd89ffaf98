-- Written by a program of this session (pr.py, over the kit's print.py).
import Derived.Test.YtmknpclfanblfaaPOMonoBackx0
import Derived.Test.YtmknpclfanblfaaPOMonoBackx1
import Derived.Test.YtmknpclfanblfaaPOMonoBackx2
import Derived.Test.YtmknpclfanblfaaPOMonoBackx3
import Derived.Test.YtmknpclfanblfaaPOMonoBackx4
import Derived.Test.YtmknpclfanblfaaPOMonoBackx5
import Derived.Test.YtmknpclfanblfaaPOMonoBackx6
namespace Go.Proofs.Ytmknpclfanblfaa.POMonoBack
open Go.RowKit Go.Proofs.YtmknpclfanblfaaN Go.Proofs.YtmknpclfanblfaaW.PrintWords Go.Proofs.YtmknpclfanblfaaW.PrintLast Go.Proofs.YtmknpclfanblfaaW.PrintMore
attribute [local go_sem] max2_int min2_int max_two min_two max_three min_three max_four min_four   -- for this text's walks alone
set_option linter.unusedVariables false
set_option linter.unusedSimpArgs false

end Go.Proofs.Ytmknpclfanblfaa.POMonoBack
