-- printed (pr.py)
import Derived.Test.YtijgeonhbmgikaaPOOctetOnex0
import Derived.Test.YtijgeonhbmgikaaPOOctetOnex1
import Derived.Test.YtijgeonhbmgikaaPOOctetOnex2
import Derived.Test.YtijgeonhbmgikaaPOOctetOnex3
import Derived.Test.YtijgeonhbmgikaaPOOctetOnex4
import Derived.Test.YtijgeonhbmgikaaPOOctetOnex5
import Derived.Test.YtijgeonhbmgikaaPOOctetOnex6
import Derived.Test.YtijgeonhbmgikaaPOOctetOnex7
import Derived.Test.YtijgeonhbmgikaaPOOctetOnex8
import Derived.Test.YtijgeonhbmgikaaPOOctetOnex9
import Derived.Test.YtijgeonhbmgikaaPOOctetOnex10
import Derived.Test.YtijgeonhbmgikaaPOOctetOnex11
import Derived.Test.YtijgeonhbmgikaaPOOctetOnex12
import Derived.Test.YtijgeonhbmgikaaPOOctetOnex13
namespace Go.Proofs.Ytijgeonhbmgikaa.POOctetOne
open Go.RowKit Go.Proofs.YtijgeonhbmgikaaN Go.Proofs.YtijgeonhbmgikaaW.PrintWords Go.Proofs.YtijgeonhbmgikaaW.PrintLast Go.Proofs.YtijgeonhbmgikaaW.PrintMore
attribute [local go_sem] zQ zN qA zy zC zA zP zM
set_option linter.unusedVariables false
set_option linter.unusedSimpArgs false

end Go.Proofs.Ytijgeonhbmgikaa.POOctetOne
