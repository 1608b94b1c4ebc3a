/- OWN TEXT, written by rows.py: the pure statement of the law IsaWords. -/
import Derived.Test.YtiaohbbafaaibaaP15
import Derived.Test.YtiaohbbafaaibaaOpns
namespace Go.Proofs.Ytiaohbbafaaibaa.P
open Go.RowKit Go.Proofs.YtiaohbbafaaibaaW.PrintWords Go.Proofs.YtiaohbbafaaibaaW.PrintLast Go.Proofs.YtiaohbbafaaibaaW.PrintMore Go.Proofs.Ytiaohbbafaaibaa.Opn
set_option linter.unusedVariables false
set_option linter.unusedSimpArgs false
def pleatlaw02_IsaWords.Pure : Prop := ∀ (x0 : Int), ((Lit.int .u32 x0).wf = true) → ∃ k, pleatlaw02_IsaWords.f k x0 = some true
end Go.Proofs.Ytiaohbbafaaibaa.P
