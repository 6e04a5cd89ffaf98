-- printed (pr.py)
import Derived.Test.YtijgeonhbmgikaaPORatioSignsx0
import Derived.Test.YtijgeonhbmgikaaPORatioSignsx1
import Derived.Test.YtijgeonhbmgikaaPORatioSignsx2
import Derived.Test.YtijgeonhbmgikaaPORatioSignsx3
import Derived.Test.YtijgeonhbmgikaaPORatioSignsx4
import Derived.Test.YtijgeonhbmgikaaPORatioSignsx5
import Derived.Test.YtijgeonhbmgikaaPORatioSignsx6
import Derived.Test.YtijgeonhbmgikaaPORatioSignsx7
import Derived.Test.YtijgeonhbmgikaaPORatioSignsx8
import Derived.Test.YtijgeonhbmgikaaPORatioSignsx9
import Derived.Test.YtijgeonhbmgikaaPORatioSignsx10
import Derived.Test.YtijgeonhbmgikaaPORatioSignsx11
import Derived.Test.YtijgeonhbmgikaaPORatioSignsx12
import Derived.Test.YtijgeonhbmgikaaPORatioSignsx13
namespace Go.Proofs.Ytijgeonhbmgikaa.PORatioSigns
open Go.RowKit Go.Proofs.YtijgeonhbmgikaaN Go.Proofs.YtijgeonhbmgikaaW.PrintWords Go.Proofs.YtijgeonhbmgikaaW.PrintLast Go.Proofs.YtijgeonhbmgikaaW.PrintMore
attribute [local go_sem] qG qE qg qd zl zk qF qD
set_option linter.unusedVariables false
set_option linter.unusedSimpArgs false

end Go.Proofs.Ytijgeonhbmgikaa.PORatioSigns
