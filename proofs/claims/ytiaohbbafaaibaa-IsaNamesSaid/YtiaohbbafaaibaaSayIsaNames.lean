/- OWN TEXT, written by rows.py: the pure statement of the law IsaNames. -/
import Derived.Test.YtiaohbbafaaibaaP17
import Derived.Test.YtiaohbbafaaibaaOpns
namespace Go.Proofs.Ytiaohbbafaaibaa.P
open Go.RowKit Go.Proofs.YtiaohbbafaaibaaW.PrintWords Go.Proofs.YtiaohbbafaaibaaW.PrintLast Go.Proofs.YtiaohbbafaaibaaW.PrintMore Go.Proofs.Ytiaohbbafaaibaa.Opn
set_option linter.unusedVariables false
set_option linter.unusedSimpArgs false
def pleatlaw02_IsaNames.Pure : Prop := ∀ (x0 : Int) (x1 : ByteArray), ((Lit.int .i8 x0).wf = true) → (x1.size ≤ 140737488351232) → ∃ k, pleatlaw02_IsaNames.f k x0 x1 = some true
end Go.Proofs.Ytiaohbbafaaibaa.P
