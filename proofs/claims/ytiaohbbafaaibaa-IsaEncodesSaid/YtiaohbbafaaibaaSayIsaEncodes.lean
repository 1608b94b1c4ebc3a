/- OWN TEXT, written by rows.py: the pure statement of the law IsaEncodes. -/
import Derived.Test.YtiaohbbafaaibaaP16
import Derived.Test.YtiaohbbafaaibaaOpns
namespace Go.Proofs.Ytiaohbbafaaibaa.P
open Go.RowKit Go.Proofs.YtiaohbbafaaibaaW.PrintWords Go.Proofs.YtiaohbbafaaibaaW.PrintLast Go.Proofs.YtiaohbbafaaibaaW.PrintMore Go.Proofs.Ytiaohbbafaaibaa.Opn
set_option linter.unusedVariables false
set_option linter.unusedSimpArgs false
def pleatlaw02_IsaEncodes.Pure : Prop := ∀ (x0 : S36) (x1 : Int), (wf36 x0) → ((Lit.int .i64 x1).wf = true) → ∃ k, pleatlaw02_IsaEncodes.f k x0.f0 x0.f1 x0.f2 x0.f3 x0.f4 x1 = some true
end Go.Proofs.Ytiaohbbafaaibaa.P
