-- printed (pr.py)
import Derived.Test.YtijgeonhbmgikaaPOOctetBackx0
import Derived.Test.YtijgeonhbmgikaaPOOctetBackx1
import Derived.Test.YtijgeonhbmgikaaPOOctetBackx2
import Derived.Test.YtijgeonhbmgikaaPOOctetBackx3
import Derived.Test.YtijgeonhbmgikaaPOOctetBackx4
import Derived.Test.YtijgeonhbmgikaaPOOctetBackx5
import Derived.Test.YtijgeonhbmgikaaPOOctetBackx6
import Derived.Test.YtijgeonhbmgikaaPOOctetBackx7
import Derived.Test.YtijgeonhbmgikaaPOOctetBackx8
import Derived.Test.YtijgeonhbmgikaaPOOctetBackx9
import Derived.Test.YtijgeonhbmgikaaPOOctetBackx10
import Derived.Test.YtijgeonhbmgikaaPOOctetBackx11
import Derived.Test.YtijgeonhbmgikaaPOOctetBackx12
import Derived.Test.YtijgeonhbmgikaaPOOctetBackx13
import Derived.Test.YtijgeonhbmgikaaPOOctetBackx14
namespace Go.Proofs.Ytijgeonhbmgikaa.POOctetBack
open Go.RowKit Go.Proofs.YtijgeonhbmgikaaN Go.Proofs.YtijgeonhbmgikaaW.PrintWords Go.Proofs.YtijgeonhbmgikaaW.PrintLast Go.Proofs.YtijgeonhbmgikaaW.PrintMore
attribute [local go_sem] zW zU qC qA zF zD zV zT
set_option linter.unusedVariables false
set_option linter.unusedSimpArgs false

end Go.Proofs.Ytijgeonhbmgikaa.POOctetBack
