/- OWN TEXT, written by rows.py: the pure statement of the law TouchAll. -/
import Derived.Test.YtiaohbbafaaibaaP21
import Derived.Test.YtiaohbbafaaibaaOpns
namespace Go.Proofs.Ytiaohbbafaaibaa.P
open Go.RowKit Go.Proofs.YtiaohbbafaaibaaW.PrintWords Go.Proofs.YtiaohbbafaaibaaW.PrintLast Go.Proofs.YtiaohbbafaaibaaW.PrintMore Go.Proofs.Ytiaohbbafaaibaa.Opn
set_option linter.unusedVariables false
set_option linter.unusedSimpArgs false
def pleatlaw13_TouchAll.Pure : Prop := ∀ (x0 : List Int) (x1 : List Int), (x0.length ≤ 9223372036854775807 ∧ x0.length * 4 ≤ 140737488351232 ∧ ∀ y ∈ x0, (Lit.int .u32 y).wf = true) → (x1.length ≤ 9223372036854775807 ∧ x1.length * 4 ≤ 140737488351232 ∧ ∀ y ∈ x1, (Lit.int .u32 y).wf = true) → ∃ k, pleatlaw13_TouchAll.f k x0 x1 = some true
end Go.Proofs.Ytiaohbbafaaibaa.P
