-- printed (pr.py)
import Derived.Test.YtoganbmeedimiaaGreatPOPressSizesx15
namespace Go.Proofs.YtoganbmeedimiaaGreat.POPressSizes
open Go.RowKit Go.Proofs.YtoganbmeedimiaaGreatN Go.Proofs.YtoganbmeedimiaaGreatW.PrintWords Go.Proofs.YtoganbmeedimiaaGreatW.PrintLast Go.Proofs.YtoganbmeedimiaaGreatW.PrintMore
attribute [local go_sem] zU zQ zn zm vV vU zT zP
set_option linter.unusedVariables false
set_option linter.unusedSimpArgs false
end Go.Proofs.YtoganbmeedimiaaGreat.POPressSizes
