-- printed (pr.py)
import Derived.Test.YtijgeonhbmgikaaPORatioFieldx18
namespace Go.Proofs.Ytijgeonhbmgikaa.PORatioField
open Go.RowKit Go.Proofs.YtijgeonhbmgikaaN Go.Proofs.YtijgeonhbmgikaaW.PrintWords Go.Proofs.YtijgeonhbmgikaaW.PrintLast Go.Proofs.YtijgeonhbmgikaaW.PrintMore
attribute [local go_sem] qH qF qg qd zq zo qG qE
set_option linter.unusedVariables false
set_option linter.unusedSimpArgs false
end Go.Proofs.Ytijgeonhbmgikaa.PORatioField
