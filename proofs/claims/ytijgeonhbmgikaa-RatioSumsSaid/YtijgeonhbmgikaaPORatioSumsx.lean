-- printed (pr.py)
import Derived.Test.YtijgeonhbmgikaaPORatioSumsx0
import Derived.Test.YtijgeonhbmgikaaPORatioSumsx1
import Derived.Test.YtijgeonhbmgikaaPORatioSumsx2
import Derived.Test.YtijgeonhbmgikaaPORatioSumsx3
import Derived.Test.YtijgeonhbmgikaaPORatioSumsx4
import Derived.Test.YtijgeonhbmgikaaPORatioSumsx5
import Derived.Test.YtijgeonhbmgikaaPORatioSumsx6
import Derived.Test.YtijgeonhbmgikaaPORatioSumsx7
import Derived.Test.YtijgeonhbmgikaaPORatioSumsx8
import Derived.Test.YtijgeonhbmgikaaPORatioSumsx9
import Derived.Test.YtijgeonhbmgikaaPORatioSumsx10
import Derived.Test.YtijgeonhbmgikaaPORatioSumsx11
import Derived.Test.YtijgeonhbmgikaaPORatioSumsx12
import Derived.Test.YtijgeonhbmgikaaPORatioSumsx13
import Derived.Test.YtijgeonhbmgikaaPORatioSumsx14
import Derived.Test.YtijgeonhbmgikaaPORatioSumsx15
import Derived.Test.YtijgeonhbmgikaaPORatioSumsx16
namespace Go.Proofs.Ytijgeonhbmgikaa.PORatioSums
open Go.RowKit Go.Proofs.YtijgeonhbmgikaaN Go.Proofs.YtijgeonhbmgikaaW.PrintWords Go.Proofs.YtijgeonhbmgikaaW.PrintLast Go.Proofs.YtijgeonhbmgikaaW.PrintMore
attribute [local go_sem] qV qR qy qx qA zy qU qP

end Go.Proofs.Ytijgeonhbmgikaa.PORatioSums
