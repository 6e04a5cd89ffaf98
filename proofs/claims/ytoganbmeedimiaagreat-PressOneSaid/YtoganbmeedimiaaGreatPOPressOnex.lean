-- printed (pr.py)
import Derived.Test.YtoganbmeedimiaaGreatPOPressOnex16
namespace Go.Proofs.YtoganbmeedimiaaGreat.POPressOne
open Go.RowKit Go.Proofs.YtoganbmeedimiaaGreatN Go.Proofs.YtoganbmeedimiaaGreatW.PrintWords Go.Proofs.YtoganbmeedimiaaGreatW.PrintLast Go.Proofs.YtoganbmeedimiaaGreatW.PrintMore
attribute [local go_sem] zV zR qA zy vZ vY zU zQ
set_option linter.unusedVariables false
set_option linter.unusedSimpArgs false
end Go.Proofs.YtoganbmeedimiaaGreat.POPressOne
