/- OWN TEXT, written by rows.py: the pure statement of the law TouchWords. -/
import Derived.Test.YtiaohbbafaaibaaP21
import Derived.Test.YtiaohbbafaaibaaOpns
namespace Go.Proofs.Ytiaohbbafaaibaa.P
open Go.RowKit Go.Proofs.YtiaohbbafaaibaaW.PrintWords Go.Proofs.YtiaohbbafaaibaaW.PrintLast Go.Proofs.YtiaohbbafaaibaaW.PrintMore Go.Proofs.Ytiaohbbafaaibaa.Opn
set_option linter.unusedVariables false
set_option linter.unusedSimpArgs false
def pleatlaw13_TouchWords.Pure : Prop := ∀ (x0 : Int), ((Lit.int .u32 x0).wf = true) → ∃ k, pleatlaw13_TouchWords.f k x0 = some true
end Go.Proofs.Ytiaohbbafaaibaa.P
