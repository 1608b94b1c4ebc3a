/- The statement TouchWords: of every input its law's Go function answers true and leaves its arguments as they were; no further condition. This text: the law over numbers and lists, no memory. -/
import Derived.Test.YtiaohbbafaaibaaSayTouchWords
import Derived.Test.YtiaohbbafaaibaaTouchL
set_option linter.unusedVariables false
set_option linter.unusedSimpArgs false
namespace Go.Proofs.Ytiaohbbafaaibaa.P
open Go.RowKit Go.Proofs.YtiaohbbafaaibaaW.PrintWords

theorem pureTouchWords : pleatlaw13_TouchWords.Pure := by
  intro w hw
  obtain ⟨w0, w1'⟩ := wf_u32 hw
  have w1 : w < 4294967296 := by omega
  refine Ev.rounds (g := fun k => pleatlaw13_TouchWords.f k w) ?_
  unfold pleatlaw13_TouchWords.f
  refine Ev.bind0 (reads1 w0 w1) (Ev.bind (reads2 w0 w1) (Ev.iteT rfl ?_))
  refine Ev.bind0 (writes1 w0 w1) (Ev.bind (writes2 w0 w1) (Ev.iteT rfl ?_))
  refine Ev.bind0 (links1 w0 w1) (Ev.bind (links2 w0 w1) (Ev.iteT (by simp) ?_))
  exact Ev.bind (alone1 w0 w1) (Ev.bind (alone2 w0 w1) (Ev.iteT (by simp) (Ev.bind touch_works (Ev.val rfl))))

end Go.Proofs.Ytiaohbbafaaibaa.P
