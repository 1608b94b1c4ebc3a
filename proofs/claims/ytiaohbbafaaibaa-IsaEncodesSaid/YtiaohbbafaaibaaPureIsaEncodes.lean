/- The statement IsaEncodes: of every input its law's Go function answers true and leaves its arguments as they were; no further condition. This text: the law over numbers and lists, no memory. -/
import Derived.Test.YtiaohbbafaaibaaSayIsaEncodes
import Derived.Test.YtiaohbbafaaibaaIsaM
set_option linter.unusedVariables false
set_option linter.unusedSimpArgs false
namespace Go.Proofs.Ytiaohbbafaaibaa.P
open Go.RowKit Go.Proofs.YtiaohbbafaaibaaW.PrintWords

theorem isa_works : Ev (fun k => pleatlaw02_works.f k) true := Ev.of (k := 30) (pleatlaw02_works.mono) (by decide +kernel)

theorem pureIsaEncodes : pleatlaw02_IsaEncodes.Pure := by
  intro i p hi hp
  refine Ev.rounds (g := fun k => pleatlaw02_IsaEncodes.f k i.f0 i.f1 i.f2 i.f3 i.f4 p) ?_
  generalize hr : encS i.f0 i.f1 i.f2 i.f3 i.f4 = r
  have hf := encS_fst i.f0 i.f1 i.f2 i.f3 i.f4
  rw [hr] at hf
  have e2 : Ev (fun k => pleatlaw02_IsaEncodes.j2 k p (aimS r.1 p).2 (aimS r.1 p).1 false) true := by
    refine Ev.succ ?_
    simp only [pleatlaw02_IsaEncodes.j2]
    refine Ev.iteF (by decide) (Ev.ite2 (fun h => ?_) (fun h => Ev.bind isa_works (Ev.val rfl)))
    have ha := aimS_fst r.1 p
    refine Ev.bind (tgt1 ha.1 ha.2) ?_
    rw [aim_goes h]
    exact Ev.iteT rfl (Ev.iteT rfl (Ev.bind isa_works (Ev.val rfl)))
  have e1 : Ev (fun k => pleatlaw02_IsaEncodes.j1 k p r.1 r.1 false) true := by
    refine Ev.succ ?_
    simp only [pleatlaw02_IsaEncodes.j1]
    refine Ev.iteF (by decide) (Ev.bind0 (aim1 hf.1 hf.2 p) (Ev.bind0 (aim2 hf.1 hf.2 p) (Ev.iteT rfl ?_)))
    rw [show ((aimS r.1 p).2 != (aimS r.1 p).2) = false by simp]
    exact e2
  unfold pleatlaw02_IsaEncodes.f
  refine Ev.bind0 (enc1 _ _ _ _ _) (Ev.bind (enc2 _ _ _ _ _) ?_)
  rw [hr]
  refine Ev.iteT rfl ?_
  rw [show (r.2 != r.2) = false by simp]
  refine Ev.succ ?_
  simp only [pleatlaw02_IsaEncodes.j0]
  refine Ev.iteF (by decide) (Ev.ite2 (fun h => ?_) (fun h => e1))
  refine Ev.bind (dec1 hf.1 hf.2) ?_
  rw [round_trip (w := r.1) (by rw [hr]; exact Prod.ext rfl h)]
  simp only [beq_self_eq_true, Bool.not_true, Bool.or_self]
  exact e1

end Go.Proofs.Ytiaohbbafaaibaa.P
