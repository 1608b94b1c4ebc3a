/- OWN TEXT: what gain.Cost comes to (its table is an array, which the print does not take), in the print's own form. -/
import Derived.Test.YtiaohbbafaaibaaP0
namespace Go.Proofs.Ytiaohbbafaaibaa.P
open Go.RowKit Go.Proofs.YtiaohbbafaaibaaW.PrintWords Go.Proofs.YtiaohbbafaaibaaW.PrintLast Go.Proofs.YtiaohbbafaaibaaW.PrintMore
set_option linter.unusedVariables false
set_option linter.unusedSimpArgs false

theorem gain_costs.calls (w : World) :
    Calls Try.prog 87 #[] w fun e w' => e = .returned (.agg #[.int .i64 0, .int .i64 1, .int .i64 1, .int .i64 1, .int .i64 3]) ∧ Below w.heap.size w w' := by
  go_enter Try.func87, Try.ntmps87
  go_wp2
  exact bodyPost_ret (v := .agg #[.int .i64 0, .int .i64 1, .int .i64 1, .int .i64 1, .int .i64 3]) (by simp [results, Try.results87, go_sem]) rfl ⟨rfl, (Below.refl _ _).alloc (Nat.le_refl _) _⟩

def gain_Cost.f (a0 : Int) : Option (Int) := if a0 < 0 then (some 0) else (if a0 > 4 then (some 0) else (if a0 = 0 then (some 0) else (if a0 = 4 then (some 3) else (some 1))))
set_option maxHeartbeats 1000000 in
set_option maxRecDepth 100000 in
theorem gain_Cost.calls (a0 : Int) (r : Int) (w : World) (h : gain_Cost.f a0 = some r) :
    Calls Try.prog 19 #[.int .i8 a0] w fun e w' => e = .returned (.int .i64 r) ∧ Below w.heap.size w w' := by
  unfold gain_Cost.f at h
  by_cases c1 : a0 < 0
  · rw [if_pos c1] at h
    obtain rfl := Option.some.inj h
    go_enter Try.func19, Try.ntmps19
    go_wp2
    go_ret
    exact ⟨rfl, Below.refl _ _⟩
  rw [if_neg c1] at h
  by_cases c2 : a0 > 4
  · rw [if_pos c2] at h
    obtain rfl := Option.some.inj h
    go_enter Try.func19, Try.ntmps19
    go_wp2
    go_ret
    exact ⟨rfl, Below.refl _ _⟩
  rw [if_neg c2] at h
  have hall : (a0 = 0 ∧ r = 0) ∨ (a0 = 1 ∧ r = 1) ∨ (a0 = 2 ∧ r = 1) ∨ (a0 = 3 ∧ r = 1) ∨ (a0 = 4 ∧ r = 3) := by
    by_cases c3 : a0 = 0
    · rw [if_pos c3] at h; cases h; omega
    · rw [if_neg c3] at h
      by_cases c4 : a0 = 4
      · rw [if_pos c4] at h; cases h; omega
      · rw [if_neg c4] at h; cases h; omega
  clear h c1 c2
  have i0 : ∀ W, (Instr.index 99 (.agg #[.int .i64 0, .int .i64 1, .int .i64 1, .int .i64 1, .int .i64 3]) (.int .i8 0)).run Try.prog W = .ok (.int .i64 0) W := fun _ => by kernel_rfl
  have i1 : ∀ W, (Instr.index 99 (.agg #[.int .i64 0, .int .i64 1, .int .i64 1, .int .i64 1, .int .i64 3]) (.int .i8 1)).run Try.prog W = .ok (.int .i64 1) W := fun _ => by kernel_rfl
  have i2 : ∀ W, (Instr.index 99 (.agg #[.int .i64 0, .int .i64 1, .int .i64 1, .int .i64 1, .int .i64 3]) (.int .i8 2)).run Try.prog W = .ok (.int .i64 1) W := fun _ => by kernel_rfl
  have i3 : ∀ W, (Instr.index 99 (.agg #[.int .i64 0, .int .i64 1, .int .i64 1, .int .i64 1, .int .i64 3]) (.int .i8 3)).run Try.prog W = .ok (.int .i64 1) W := fun _ => by kernel_rfl
  have i4 : ∀ W, (Instr.index 99 (.agg #[.int .i64 0, .int .i64 1, .int .i64 1, .int .i64 1, .int .i64 3]) (.int .i8 4)).run Try.prog W = .ok (.int .i64 3) W := fun _ => by kernel_rfl
  rcases hall with ⟨rfl, rfl⟩ | ⟨rfl, rfl⟩ | ⟨rfl, rfl⟩ | ⟨rfl, rfl⟩ | ⟨rfl, rfl⟩
  all_goals
    go_enter Try.func19, Try.ntmps19
    go_wp2_with (go_at_call 87; refine (gain_costs.calls _).mono ?_; rintro e w1 ⟨rfl, hb⟩)
    go_ret
    exact ⟨rfl, hb⟩

end Go.Proofs.Ytiaohbbafaaibaa.P
