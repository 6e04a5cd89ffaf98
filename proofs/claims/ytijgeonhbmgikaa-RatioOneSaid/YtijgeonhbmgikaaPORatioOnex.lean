-- Written by a program of this session (pr.py, over the kit's print.py).
import Derived.Test.YtijgeonhbmgikaaPORatioOnex0
import Derived.Test.YtijgeonhbmgikaaPORatioOnex1
import Derived.Test.YtijgeonhbmgikaaPORatioOnex2
import Derived.Test.YtijgeonhbmgikaaPORatioOnex3
import Derived.Test.YtijgeonhbmgikaaPORatioOnex4
import Derived.Test.YtijgeonhbmgikaaPORatioOnex5
import Derived.Test.YtijgeonhbmgikaaPORatioOnex6
import Derived.Test.YtijgeonhbmgikaaPORatioOnex7
import Derived.Test.YtijgeonhbmgikaaPORatioOnex8
import Derived.Test.YtijgeonhbmgikaaPORatioOnex9
import Derived.Test.YtijgeonhbmgikaaPORatioOnex10
import Derived.Test.YtijgeonhbmgikaaPORatioOnex11
import Derived.Test.YtijgeonhbmgikaaPORatioOnex12
namespace Go.Proofs.Ytijgeonhbmgikaa.PORatioOne
open Go.RowKit Go.Proofs.YtijgeonhbmgikaaN Go.Proofs.YtijgeonhbmgikaaW.PrintWords Go.Proofs.YtijgeonhbmgikaaW.PrintLast Go.Proofs.YtijgeonhbmgikaaW.PrintMore
attribute [local go_sem] max2_int min2_int max_two min_two max_three min_three max_four min_four   -- for this text's walks alone
set_option linter.unusedVariables false
set_option linter.unusedSimpArgs false

end Go.Proofs.Ytijgeonhbmgikaa.PORatioOne
