-- printed (pr.py)
import Derived.Test.YtijgeonhbmgikaaPORatioMakesx19
namespace Go.Proofs.Ytijgeonhbmgikaa.PORatioMakes
open Go.RowKit Go.Proofs.YtijgeonhbmgikaaN Go.Proofs.YtijgeonhbmgikaaW.PrintWords Go.Proofs.YtijgeonhbmgikaaW.PrintLast Go.Proofs.YtijgeonhbmgikaaW.PrintMore
attribute [local go_sem] qJ qH qd qc zo zn qI qG
set_option linter.unusedVariables false
set_option linter.unusedSimpArgs false
end Go.Proofs.Ytijgeonhbmgikaa.PORatioMakes
