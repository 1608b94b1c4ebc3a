/- The statement GainSums: of every input its law's Go function answers true and leaves its arguments as they were; no further condition. This text: the law over numbers and lists, no memory. -/
import Derived.Test.YtiaohbbafaaibaaSayGainSums
import Derived.Test.YtiaohbbafaaibaaGainL
set_option linter.unusedVariables false
set_option linter.unusedSimpArgs false
namespace Go.Proofs.Ytiaohbbafaaibaa.P
open Go.RowKit Go.Proofs.YtiaohbbafaaibaaW.PrintWords

theorem pureGainSums : pleatlaw21_GainSums.Pure := by
  intro n l c hn hl hc
  refine Ev.rounds (g := fun k => pleatlaw21_GainSums.f k n l c) ?_
  unfold pleatlaw21_GainSums.f
  refine Ev.ite2 (fun h => Ev.bind gain_works (Ev.val rfl)) (fun h => ?_)
  have hl5 : l.length ≤ 5000 := by omega
  refine Ev.bind0 (copySpots l hl5) (Ev.bind (of_all n l hl5) (Ev.bind (ref_all n l hl5) (Ev.iteT rfl ?_)))
  refine Ev.bind0 (cost1 c) (Ev.bind (cost2 c) (Ev.iteT rfl ?_))
  refine Ev.bind (size1 c n) (Ev.bind (size2 c n) (Ev.iteT rfl ?_))
  exact Ev.bind (eqSpots l hl5) (Ev.iteT rfl (Ev.bind gain_works (Ev.val rfl)))

end Go.Proofs.Ytiaohbbafaaibaa.P
