/- OWN TEXT, written by rows.py: the pure statement of the law GainParts. -/
import Derived.Test.YtiaohbbafaaibaaP9
import Derived.Test.YtiaohbbafaaibaaOpns
namespace Go.Proofs.Ytiaohbbafaaibaa.P
open Go.RowKit Go.Proofs.YtiaohbbafaaibaaW.PrintWords Go.Proofs.YtiaohbbafaaibaaW.PrintLast Go.Proofs.YtiaohbbafaaibaaW.PrintMore Go.Proofs.Ytiaohbbafaaibaa.Opn
set_option linter.unusedVariables false
set_option linter.unusedSimpArgs false
def pleatlaw21_GainParts.Pure : Prop := ∀ (x0 : Int) (x1 : List (S32)) (x2 : S32), ((Lit.int .i64 x0).wf = true) → (x1.length ≤ 9223372036854775807 ∧ x1.length * 16 ≤ 140737488351232 ∧ ∀ y ∈ x1, wf32 y) → (wf32 x2) → ∃ k, pleatlaw21_GainParts.f k x0 x1 x2.f0 x2.f1 x2.f2 = some true
end Go.Proofs.Ytiaohbbafaaibaa.P
