/- OWN TEXT: a word aimed elsewhere, over plain numbers: what the program's and the reference's function come to. -/
import Derived.Test.YtiaohbbafaaibaaHAim
import Derived.Test.YtiaohbbafaaibaaIsaL
set_option linter.unusedVariables false
set_option linter.unusedSimpArgs false
namespace Go.Proofs.Ytiaohbbafaaibaa.P
open Go.RowKit Go.Proofs.YtiaohbbafaaibaaW.PrintWords

theorem aim1 {w : Int} (w0 : 0 ≤ w) (w1 : w < 4294967296) (p : Int) : isa_Aim.f w p = some (aimS w p) := by unfold isa_Aim.f; rw [if_pos w0, if_pos w1]
theorem aim2 {w : Int} (w0 : 0 ≤ w) (w1 : w < 4294967296) (p : Int) : pleatref02_Aim.f w p = some (aimS w p) := by unfold pleatref02_Aim.f; rw [if_pos w0, if_pos w1]
/-- Where a word is aimed, there it goes. -/
theorem aim_goes {w p : Int} (h : (aimS w p).2 = 0) : tgtS (aimS w p).1 = (p, true) := by
  unfold aimS at h ⊢
  split at h
  · rename_i ht
    rw [if_pos ht]
    split at h
    · cases h
    · rename_i h1
      rw [if_neg h1]
      split at h
      · cases h
      · rename_i h2
        rw [if_neg h2]
        have hr := round_trip (w := (encS (decS w).1 (decS w).2.1 (decS w).2.2.1 (decS w).2.2.2.1 p).1) (Prod.ext rfl h)
        have hb : bitF (hasF (decS w).1) 16 = true := by
          unfold tgtS at ht
          split at ht
          · assumption
          · cases ht
        unfold tgtS
        rw [hr]
        show (if bitF (hasF (decS w).1) 16 = true then (p, true) else (0, false)) = (p, true)
        rw [if_pos hb]
  · cases h
theorem aimS_fst (w p : Int) : 0 ≤ (aimS w p).1 ∧ (aimS w p).1 < 4294967296 := by
  unfold aimS
  split
  · split
    · decide
    · split
      · decide
      · exact encS_fst _ _ _ _ _
  · decide

end Go.Proofs.Ytiaohbbafaaibaa.P
