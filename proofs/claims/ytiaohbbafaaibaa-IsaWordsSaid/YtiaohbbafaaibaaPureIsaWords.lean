/- The statement IsaWords: of every input its law's Go function answers true and leaves its arguments as they were; no further condition. This text: the law over numbers and lists, no memory. -/
import Derived.Test.YtiaohbbafaaibaaSayIsaWords
import Derived.Test.YtiaohbbafaaibaaIsaL
set_option linter.unusedVariables false
set_option linter.unusedSimpArgs false
namespace Go.Proofs.Ytiaohbbafaaibaa.P
open Go.RowKit Go.Proofs.YtiaohbbafaaibaaW.PrintWords

theorem isa_works : Ev (fun k => pleatlaw02_works.f k) true := Ev.of (k := 30) (pleatlaw02_works.mono) (by decide +kernel)

theorem pureIsaWords : pleatlaw02_IsaWords.Pure := by
  intro w hw
  obtain ⟨w0, w1'⟩ := wf_u32 hw
  have w1 : w < 4294967296 := by omega
  refine Ev.rounds (g := fun k => pleatlaw02_IsaWords.f k w) ?_
  have e : Ev (fun k => pleatlaw02_IsaWords.j0 k w false (decS w).1 (decS w).2.1 (decS w).2.2.1 (decS w).2.2.2.1 (decS w).2.2.2.2) true := by
    refine Ev.succ ?_
    simp only [pleatlaw02_IsaWords.j0]
    refine Ev.iteF (by decide) (Ev.bind0 (enc1 _ _ _ _ _) ?_)
    rcases decS_cases w with ⟨h1, h2⟩ | ⟨h1, h2⟩
    · have e : encS (decS w).1 (decS w).2.1 (decS w).2.2.1 (decS w).2.2.2.1 (decS w).2.2.2.2 = (0, 10) := by unfold encS; rw [if_pos (by omega)]
      rw [e]
      refine Ev.iteF (by omega) (Ev.iteT (by omega) (Ev.iteT rfl (Ev.iteT rfl (Ev.bind isa_works (Ev.val rfl)))))
    · rw [h2]
      refine Ev.iteT h1 (Ev.iteT rfl (Ev.iteT rfl (Ev.iteF (by omega) (Ev.bind isa_works (Ev.val rfl)))))
  unfold pleatlaw02_IsaWords.f
  refine Ev.bind (dec1 w0 w1) (Ev.bind (tgt1 w0 w1) (Ev.bind (tgt2 w0 w1) (Ev.bind (dec2 w0 w1) (Ev.iteF (by simp) ?_))))
  refine Ev.bind (ends1 w0 w1) (Ev.bind (ends2 w0 w1) (Ev.iteF (by simp) ?_))
  refine Ev.bind (falls1 w0 w1) (Ev.bind (falls2 w0 w1) (Ev.iteF (by simp) (Ev.iteT rfl ?_)))
  rw [show ((tgtS w).2 != (tgtS w).2) = false by simp]
  exact e

end Go.Proofs.Ytiaohbbafaaibaa.P
