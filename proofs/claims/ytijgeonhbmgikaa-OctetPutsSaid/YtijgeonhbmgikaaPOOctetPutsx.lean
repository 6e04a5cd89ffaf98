-- printed (pr.py)
import Derived.Test.YtijgeonhbmgikaaPOOctetPutsx0
import Derived.Test.YtijgeonhbmgikaaPOOctetPutsx1
import Derived.Test.YtijgeonhbmgikaaPOOctetPutsx2
import Derived.Test.YtijgeonhbmgikaaPOOctetPutsx3
import Derived.Test.YtijgeonhbmgikaaPOOctetPutsx4
import Derived.Test.YtijgeonhbmgikaaPOOctetPutsx5
import Derived.Test.YtijgeonhbmgikaaPOOctetPutsx6
import Derived.Test.YtijgeonhbmgikaaPOOctetPutsx7
import Derived.Test.YtijgeonhbmgikaaPOOctetPutsx8
import Derived.Test.YtijgeonhbmgikaaPOOctetPutsx9
import Derived.Test.YtijgeonhbmgikaaPOOctetPutsx10
import Derived.Test.YtijgeonhbmgikaaPOOctetPutsx11
import Derived.Test.YtijgeonhbmgikaaPOOctetPutsx12
import Derived.Test.YtijgeonhbmgikaaPOOctetPutsx13
import Derived.Test.YtijgeonhbmgikaaPOOctetPutsx14
import Derived.Test.YtijgeonhbmgikaaPOOctetPutsx15
import Derived.Test.YtijgeonhbmgikaaPOOctetPutsx16
namespace Go.Proofs.Ytijgeonhbmgikaa.POOctetPuts
open Go.RowKit Go.Proofs.YtijgeonhbmgikaaN Go.Proofs.YtijgeonhbmgikaaW.PrintWords Go.Proofs.YtijgeonhbmgikaaW.PrintLast Go.Proofs.YtijgeonhbmgikaaW.PrintMore
attribute [local go_sem] qE qC qP qO ze za qD qA
set_option linter.unusedVariables false
set_option linter.unusedSimpArgs false

end Go.Proofs.Ytijgeonhbmgikaa.POOctetPuts
