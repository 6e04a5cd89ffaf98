-- Written by a program of this session (pr.py, over the kit's print.py).
import Derived.Test.YtijgeonhbmgikaaPOOctetShortx0
import Derived.Test.YtijgeonhbmgikaaPOOctetShortx1
import Derived.Test.YtijgeonhbmgikaaPOOctetShortx2
import Derived.Test.YtijgeonhbmgikaaPOOctetShortx3
import Derived.Test.YtijgeonhbmgikaaPOOctetShortx4
namespace Go.Proofs.Ytijgeonhbmgikaa.POOctetShort
open Go.RowKit Go.Proofs.YtijgeonhbmgikaaN Go.Proofs.YtijgeonhbmgikaaW.PrintWords Go.Proofs.YtijgeonhbmgikaaW.PrintLast Go.Proofs.YtijgeonhbmgikaaW.PrintMore
attribute [local go_sem] max2_int min2_int max_two min_two max_three min_three max_four min_four   -- for this text's walks alone
set_option linter.unusedVariables false
set_option linter.unusedSimpArgs false

end Go.Proofs.Ytijgeonhbmgikaa.POOctetShort
