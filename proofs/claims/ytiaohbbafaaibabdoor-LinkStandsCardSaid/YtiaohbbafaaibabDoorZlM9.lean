/- OWN TEXT and printed parts of this claim, laid together: P1, P2, P6, HTwo, HRd, HRe. -/
import Derived.Test.YtiaohbbafaaibabDoorZlM0
import Derived.Test.YtiaohbbafaaibabDoorZlM1
import Derived.Test.YtiaohbbafaaibabDoorZlM8
import Derived.Test.YtiaohbbafaaibabDoorZlM6
import Derived.WalkMore
import Derived.Great.Walk
import Derived.WalkKit
import Derived.Laws.BytesArg
/- What the Go functions named below come to, as plain functions, each with its proof; written by this session's prt.py over the kit's print. -/
namespace Go.Proofs.YtiaohbbafaaibabDoor.P
open Go.RowKit Go.Proofs.YtiaohbbafaaibabDoorW.PrintWords Go.Proofs.YtiaohbbafaaibabDoorW.PrintLast Go.Proofs.YtiaohbbafaaibabDoorW.PrintMore
attribute [local go_sem] max2_int min2_int max_two min_two max_three min_three max_four min_four   -- for this text's walks alone
set_option linter.unusedVariables false
set_option linter.unusedSimpArgs false

theorem eqA68 (d : Nat) (w : World) (x0 y0 : Int) (x1 y1 : Int) :
    (Op.equalIn (d + 2) 68 (.agg #[.int .i64 x0, .int .i64 x1]) (.agg #[.int .i64 y0, .int .i64 y1])).run Tryd.prog w = .ok (x0 == y0 && (x1 == y1)) w := by
  refine eqA_of Tryd.underlying68 (by kernel_rfl) ?_
  refine eqf_cons (by rfl) (by go_simp; rfl) (by go_simp; rfl) (by go_simp) ?_
  exact eqf_last (by rfl) (by go_simp; rfl) (by go_simp; rfl) (by go_simp)
end Go.Proofs.YtiaohbbafaaibabDoor.P

/- What the Go functions named below come to, as plain functions, each with its proof; written by this session's prt.py over the kit's print. -/
namespace Go.Proofs.YtiaohbbafaaibabDoor.P
open Go.RowKit Go.Proofs.YtiaohbbafaaibabDoorW.PrintWords Go.Proofs.YtiaohbbafaaibabDoorW.PrintLast Go.Proofs.YtiaohbbafaaibabDoorW.PrintMore
attribute [local go_sem] max2_int min2_int max_two min_two max_three min_three max_four min_four   -- for this text's walks alone
set_option linter.unusedVariables false
set_option linter.unusedSimpArgs false

theorem eqA75 (d : Nat) (w : World) (x0 y0 : ByteArray) (x1 y1 : Int) (x2 y2 : Int) :
    (Op.equalIn (d + 2) 75 (.agg #[.string x0, .int .i8 x1, .int .i64 x2]) (.agg #[.string y0, .int .i8 y1, .int .i64 y2])).run Tryd.prog w = .ok (x0.toList == y0.toList && (x1 == y1 && (x2 == y2))) w := by
  refine eqA_of Tryd.underlying75 (by kernel_rfl) ?_
  refine eqf_cons (by rfl) (by go_simp; rfl) (by go_simp; rfl) (by go_simp) ?_
  refine eqf_cons (by rfl) (by go_simp; rfl) (by go_simp; rfl) (by go_simp) ?_
  exact eqf_last (by rfl) (by go_simp; rfl) (by go_simp; rfl) (by go_simp)
end Go.Proofs.YtiaohbbafaaibabDoor.P

/- What the Go functions named below come to, as plain functions, each with its proof; written by this session's prt.py over the kit's print. -/
namespace Go.Proofs.YtiaohbbafaaibabDoor.P
open Go.RowKit Go.Proofs.YtiaohbbafaaibabDoorW.PrintWords Go.Proofs.YtiaohbbafaaibabDoorW.PrintLast Go.Proofs.YtiaohbbafaaibabDoorW.PrintMore
attribute [local go_sem] max2_int min2_int max_two min_two max_three min_three max_four min_four   -- for this text's walks alone
set_option linter.unusedVariables false
set_option linter.unusedSimpArgs false

attribute [local go_sem high] eqA68 eqA75
def pleatref00_EqWords.l0 : Nat → List Int → List Int → Int → Option (Bool)
 | 0, _, _, _ => none
 | k + 1, x0, x1, x5 => if x5 < (x0.length : Int) then (if 0 ≤ x5 then (if x5 < (x1.length : Int) then (if (rd x0 x5) = (rd x1 x5) then (pleatref00_EqWords.l0 k x0 x1 (wrap64 (x5 + 1))) else (some false)) else (none)) else (none)) else (some true)
def pleatref00_EqWords.f (k : Nat) (l0 : List Int) (l1 : List Int) : Option (Bool) := if (l0.length : Int) = (l1.length : Int) then (pleatref00_EqWords.l0 k l0 l1 0) else (some false)
theorem pleatref00_EqWords.mono_l : ∀ k, (∀ y0 y1 y2, LeO (pleatref00_EqWords.l0 k y0 y1 y2) (pleatref00_EqWords.l0 (k + 1) y0 y1 y2))
 | 0 => fun _ _ _ r h => by simp [pleatref00_EqWords.l0] at h
 | k + 1 => by
  have ih0 := pleatref00_EqWords.mono_l k
  ·
   intro y0 y1 y2
   unfold pleatref00_EqWords.l0
   repeat' first
   | (with_reducible first | exact ih0 _ _ _ | exact LeO.refl _ | exact LeO.none _ | refine LeO.ite ?_ ?_ | refine LeO.bind ?_ (fun _ => ?_))
theorem pleatref00_EqWords.mono : ∀ a0 a1 k, LeO (pleatref00_EqWords.f k a0 a1) (pleatref00_EqWords.f (k + 1) a0 a1) := by
 intro a0 a1 k
 have ih0 := pleatref00_EqWords.mono_l k
 unfold pleatref00_EqWords.f
 repeat' first
   | (with_reducible first | exact ih0 _ _ _ | exact LeO.refl _ | exact LeO.none _ | refine LeO.ite ?_ ?_ | refine LeO.bind ?_ (fun _ => ?_))
set_option maxHeartbeats 8000000 in
set_option maxRecDepth 100000 in
theorem pleatref00_EqWords.calls (k : Nat) (A0 : Option Addr) (c0 : Nat) (l0 : List Int) (A1 : Option Addr) (c1 : Nat) (l1 : List Int) (r : Bool) (w : World) (hr0 : Kd.C (Kd.int .u32) w A0 l0.length l0) (hc0 : l0.length ≤ c0) (hr1 : Kd.C (Kd.int .u32) w A1 l1.length l1) (hc1 : l1.length ≤ c1) (h : pleatref00_EqWords.f k l0 l1 = some r) :
  Calls Tryd.prog 53 #[.slice A0 l0.length c0, .slice A1 l1.length c1] w fun e w' => e = .returned (.bool r) ∧ Drawn0 w w' := by
 have HR0 := Aside0.mk hr0
 have HC0 := Aside0.mk hc0
 clear hr0 hc0
 have HR1 := Aside0.mk hr1
 have HC1 := Aside0.mk hc1
 clear hr1 hc1
 have H : (if (l0.length : Int) = (l1.length : Int) then (pleatref00_EqWords.l0 k l0 l1 0) else (some false)) = some r := h
 clear h
 by_cases c3 : (l0.length : Int) = (l1.length : Int)
 ·
  rw [if_pos c3] at H
  have c3b0 : ((l0.length : Int) == (l1.length : Int)) = true := beq_iff_eq.mpr c3
  have c3b1 : ((l0.length : Int) != (l1.length : Int)) = false := bne_eq_false_iff_eq.mpr c3
  have c3b2 : (l0.length == l1.length) = true := by first | simpa using c3 | (simp at c3 ⊢; omega)
  clear c3
  have H' := Aside0.mk H
  clear H
  go_enter Tryd.func53, Tryd.ntmps53
  go_wp2
  repeat (go_quiet (fail); try go_wp2)
  go_loopg [5] k (fun kq v5 w' => ∃ (x5_1 : Int), v5 = .int .i64 x5_1 ∧ Aside0 (pleatref00_EqWords.l0 kq l0 l1 x5_1 = some r) ∧ Aside0 (kq ≤ k) ∧ Drawn0 w w')
  case atStart => exact ⟨(0), (by first | rfl | (simp; done) | (simp [*]; done)), H', ⟨Nat.le_refl _⟩, by repeat (first | exact Drawn0.refl _ | apply Drawn0.step)⟩
  case round =>
   clear H'
   try clear c1
   try clear p2
   try clear c3
   try clear c3b0
   try clear c3b1
   try clear c3b2
   obtain ⟨x5_1, rfl, HA, HK1, ⟨m1, rfl⟩⟩ := hrel
   cases gk with
   | zero => exact absurd HA.out (by simp [pleatref00_EqWords.l0])
   | succ k1 =>
    have H := HA.out
    clear HA
    simp only [pleatref00_EqWords.l0] at H
    by_cases c4 : x5_1 < (l0.length : Int)
    ·
     rw [if_pos c4] at H
     have c4b0 : decide (x5_1 < (l0.length : Int)) = true := decide_eq_true c4
     clear c4
     by_cases c5 : 0 ≤ x5_1
     ·
      rw [if_pos c5] at H
      have c5b0 : decide (0 ≤ x5_1) = true := decide_eq_true c5
      clear c5
      by_cases c6 : x5_1 < (l1.length : Int)
      ·
       rw [if_pos c6] at H
       have c6b0 : decide (x5_1 < (l1.length : Int)) = true := decide_eq_true c6
       clear c6
       by_cases c7 : (rd l0 x5_1) = (rd l1 x5_1)
       ·
        rw [if_pos c7] at H
        have c7b0 : ((rd l0 x5_1) == (rd l1 x5_1)) = true := beq_iff_eq.mpr c7
        have c7b1 : ((rd l0 x5_1) != (rd l1 x5_1)) = false := bne_eq_false_iff_eq.mpr c7
        clear c7
        have H' := Aside0.mk H
        clear H
        have p120 : 0 ≤ (x5_1 : Int) := of_decide_eq_true ‹_›
        have q120 : x5_1 < (l0.length : Int) := of_decide_eq_true ‹_›
        obtain ⟨ad120, e120, hx120_0⟩ := Kd.at_int HR0.out x5_1 p120 q120
        cases e120
        replace p120 := eq_true p120
        replace q120 := eq_true q120
        have p121 : 0 ≤ (x5_1 : Int) := of_decide_eq_true ‹_›
        have q121 : x5_1 < (l1.length : Int) := of_decide_eq_true ‹_›
        obtain ⟨ad121, e121, hx121_0⟩ := Kd.at_int HR1.out x5_1 p121 q121
        cases e121
        replace p121 := eq_true p121
        replace q121 := eq_true q121
        go_wp2
        repeat (go_quiet (fail); try go_wp2)
        go_roundg k1
        case measure => have := HK1.out; omega
        case rel => exact ⟨(wrap64 (x5_1 + 1)), (by first | rfl | (simp; done) | (simp [*]; done)), H', ⟨by have := HK1.out; omega⟩, by repeat (first | exact Drawn0.refl _ | apply Drawn0.step)⟩
       ·
        rw [if_neg c7] at H
        have c7b0 : ((rd l0 x5_1) == (rd l1 x5_1)) = false := beq_eq_false_iff_ne.mpr c7
        have c7b1 : ((rd l0 x5_1) != (rd l1 x5_1)) = true := bne_iff_ne.mpr c7
        obtain rfl := Option.some.inj H
        have p120 : 0 ≤ (x5_1 : Int) := of_decide_eq_true ‹_›
        have q120 : x5_1 < (l0.length : Int) := of_decide_eq_true ‹_›
        obtain ⟨ad120, e120, hx120_0⟩ := Kd.at_int HR0.out x5_1 p120 q120
        cases e120
        replace p120 := eq_true p120
        replace q120 := eq_true q120
        have p121 : 0 ≤ (x5_1 : Int) := of_decide_eq_true ‹_›
        have q121 : x5_1 < (l1.length : Int) := of_decide_eq_true ‹_›
        obtain ⟨ad121, e121, hx121_0⟩ := Kd.at_int HR1.out x5_1 p121 q121
        cases e121
        replace p121 := eq_true p121
        replace q121 := eq_true q121
        go_wp2
        repeat (go_quiet (fail); try go_wp2)
        go_ret
        exact ⟨by first | rfl | (simp; done) | (simp [*]; done), by repeat (first | exact Drawn0.refl _ | apply Drawn0.step)⟩
      ·
       rw [if_neg c6] at H
       exact absurd H (by simp)
     ·
      rw [if_neg c5] at H
      exact absurd H (by simp)
    ·
     rw [if_neg c4] at H
     have c4b0 : decide (x5_1 < (l0.length : Int)) = false := decide_eq_false c4
     clear c4
     obtain rfl := Option.some.inj H
     go_wp2
     repeat (go_quiet (fail); try go_wp2)
     go_ret
     exact ⟨by first | rfl | (simp; done) | (simp [*]; done), by repeat (first | exact Drawn0.refl _ | apply Drawn0.step)⟩
 ·
  rw [if_neg c3] at H
  have c3b0 : ((l0.length : Int) == (l1.length : Int)) = false := beq_eq_false_iff_ne.mpr c3
  have c3b1 : ((l0.length : Int) != (l1.length : Int)) = true := bne_iff_ne.mpr c3
  have c3b2 : (l0.length == l1.length) = false := by first | simpa using c3 | (simp at c3 ⊢; omega)
  obtain rfl := Option.some.inj H
  go_enter Tryd.func53, Tryd.ntmps53
  go_wp2
  repeat (go_quiet (fail); try go_wp2)
  go_ret
  exact ⟨by first | rfl | (simp; done) | (simp [*]; done), by repeat (first | exact Drawn0.refl _ | apply Drawn0.step)⟩


def pleatref00_EqLongs.l0 : Nat → List Int → List Int → Int → Option (Bool)
 | 0, _, _, _ => none
 | k + 1, x0, x1, x5 => if x5 < (x0.length : Int) then (if 0 ≤ x5 then (if x5 < (x1.length : Int) then (if (rd x0 x5) = (rd x1 x5) then (pleatref00_EqLongs.l0 k x0 x1 (wrap64 (x5 + 1))) else (some false)) else (none)) else (none)) else (some true)
def pleatref00_EqLongs.f (k : Nat) (l0 : List Int) (l1 : List Int) : Option (Bool) := if (l0.length : Int) = (l1.length : Int) then (pleatref00_EqLongs.l0 k l0 l1 0) else (some false)
theorem pleatref00_EqLongs.mono_l : ∀ k, (∀ y0 y1 y2, LeO (pleatref00_EqLongs.l0 k y0 y1 y2) (pleatref00_EqLongs.l0 (k + 1) y0 y1 y2))
 | 0 => fun _ _ _ r h => by simp [pleatref00_EqLongs.l0] at h
 | k + 1 => by
  have ih0 := pleatref00_EqLongs.mono_l k
  ·
   intro y0 y1 y2
   unfold pleatref00_EqLongs.l0
   repeat' first
   | (with_reducible first | exact ih0 _ _ _ | exact LeO.refl _ | exact LeO.none _ | refine LeO.ite ?_ ?_ | refine LeO.bind ?_ (fun _ => ?_))
theorem pleatref00_EqLongs.mono : ∀ a0 a1 k, LeO (pleatref00_EqLongs.f k a0 a1) (pleatref00_EqLongs.f (k + 1) a0 a1) := by
 intro a0 a1 k
 have ih0 := pleatref00_EqLongs.mono_l k
 unfold pleatref00_EqLongs.f
 repeat' first
   | (with_reducible first | exact ih0 _ _ _ | exact LeO.refl _ | exact LeO.none _ | refine LeO.ite ?_ ?_ | refine LeO.bind ?_ (fun _ => ?_))
set_option maxHeartbeats 8000000 in
set_option maxRecDepth 100000 in
theorem pleatref00_EqLongs.calls (k : Nat) (A0 : Option Addr) (c0 : Nat) (l0 : List Int) (A1 : Option Addr) (c1 : Nat) (l1 : List Int) (r : Bool) (w : World) (hr0 : Kd.C (Kd.int .i64) w A0 l0.length l0) (hc0 : l0.length ≤ c0) (hr1 : Kd.C (Kd.int .i64) w A1 l1.length l1) (hc1 : l1.length ≤ c1) (h : pleatref00_EqLongs.f k l0 l1 = some r) :
  Calls Tryd.prog 54 #[.slice A0 l0.length c0, .slice A1 l1.length c1] w fun e w' => e = .returned (.bool r) ∧ Drawn0 w w' := by
 have HR0 := Aside0.mk hr0
 have HC0 := Aside0.mk hc0
 clear hr0 hc0
 have HR1 := Aside0.mk hr1
 have HC1 := Aside0.mk hc1
 clear hr1 hc1
 have H : (if (l0.length : Int) = (l1.length : Int) then (pleatref00_EqLongs.l0 k l0 l1 0) else (some false)) = some r := h
 clear h
 by_cases c3 : (l0.length : Int) = (l1.length : Int)
 ·
  rw [if_pos c3] at H
  have c3b0 : ((l0.length : Int) == (l1.length : Int)) = true := beq_iff_eq.mpr c3
  have c3b1 : ((l0.length : Int) != (l1.length : Int)) = false := bne_eq_false_iff_eq.mpr c3
  have c3b2 : (l0.length == l1.length) = true := by first | simpa using c3 | (simp at c3 ⊢; omega)
  clear c3
  have H' := Aside0.mk H
  clear H
  go_enter Tryd.func54, Tryd.ntmps54
  go_wp2
  repeat (go_quiet (fail); try go_wp2)
  go_loopg [5] k (fun kq v5 w' => ∃ (x5_1 : Int), v5 = .int .i64 x5_1 ∧ Aside0 (pleatref00_EqLongs.l0 kq l0 l1 x5_1 = some r) ∧ Aside0 (kq ≤ k) ∧ Drawn0 w w')
  case atStart => exact ⟨(0), (by first | rfl | (simp; done) | (simp [*]; done)), H', ⟨Nat.le_refl _⟩, by repeat (first | exact Drawn0.refl _ | apply Drawn0.step)⟩
  case round =>
   clear H'
   try clear c1
   try clear p2
   try clear c3
   try clear c3b0
   try clear c3b1
   try clear c3b2
   obtain ⟨x5_1, rfl, HA, HK1, ⟨m1, rfl⟩⟩ := hrel
   cases gk with
   | zero => exact absurd HA.out (by simp [pleatref00_EqLongs.l0])
   | succ k1 =>
    have H := HA.out
    clear HA
    simp only [pleatref00_EqLongs.l0] at H
    by_cases c4 : x5_1 < (l0.length : Int)
    ·
     rw [if_pos c4] at H
     have c4b0 : decide (x5_1 < (l0.length : Int)) = true := decide_eq_true c4
     clear c4
     by_cases c5 : 0 ≤ x5_1
     ·
      rw [if_pos c5] at H
      have c5b0 : decide (0 ≤ x5_1) = true := decide_eq_true c5
      clear c5
      by_cases c6 : x5_1 < (l1.length : Int)
      ·
       rw [if_pos c6] at H
       have c6b0 : decide (x5_1 < (l1.length : Int)) = true := decide_eq_true c6
       clear c6
       by_cases c7 : (rd l0 x5_1) = (rd l1 x5_1)
       ·
        rw [if_pos c7] at H
        have c7b0 : ((rd l0 x5_1) == (rd l1 x5_1)) = true := beq_iff_eq.mpr c7
        have c7b1 : ((rd l0 x5_1) != (rd l1 x5_1)) = false := bne_eq_false_iff_eq.mpr c7
        clear c7
        have H' := Aside0.mk H
        clear H
        have p122 : 0 ≤ (x5_1 : Int) := of_decide_eq_true ‹_›
        have q122 : x5_1 < (l0.length : Int) := of_decide_eq_true ‹_›
        obtain ⟨ad122, e122, hx122_0⟩ := Kd.at_int HR0.out x5_1 p122 q122
        cases e122
        replace p122 := eq_true p122
        replace q122 := eq_true q122
        have p123 : 0 ≤ (x5_1 : Int) := of_decide_eq_true ‹_›
        have q123 : x5_1 < (l1.length : Int) := of_decide_eq_true ‹_›
        obtain ⟨ad123, e123, hx123_0⟩ := Kd.at_int HR1.out x5_1 p123 q123
        cases e123
        replace p123 := eq_true p123
        replace q123 := eq_true q123
        go_wp2
        repeat (go_quiet (fail); try go_wp2)
        go_roundg k1
        case measure => have := HK1.out; omega
        case rel => exact ⟨(wrap64 (x5_1 + 1)), (by first | rfl | (simp; done) | (simp [*]; done)), H', ⟨by have := HK1.out; omega⟩, by repeat (first | exact Drawn0.refl _ | apply Drawn0.step)⟩
       ·
        rw [if_neg c7] at H
        have c7b0 : ((rd l0 x5_1) == (rd l1 x5_1)) = false := beq_eq_false_iff_ne.mpr c7
        have c7b1 : ((rd l0 x5_1) != (rd l1 x5_1)) = true := bne_iff_ne.mpr c7
        obtain rfl := Option.some.inj H
        have p122 : 0 ≤ (x5_1 : Int) := of_decide_eq_true ‹_›
        have q122 : x5_1 < (l0.length : Int) := of_decide_eq_true ‹_›
        obtain ⟨ad122, e122, hx122_0⟩ := Kd.at_int HR0.out x5_1 p122 q122
        cases e122
        replace p122 := eq_true p122
        replace q122 := eq_true q122
        have p123 : 0 ≤ (x5_1 : Int) := of_decide_eq_true ‹_›
        have q123 : x5_1 < (l1.length : Int) := of_decide_eq_true ‹_›
        obtain ⟨ad123, e123, hx123_0⟩ := Kd.at_int HR1.out x5_1 p123 q123
        cases e123
        replace p123 := eq_true p123
        replace q123 := eq_true q123
        go_wp2
        repeat (go_quiet (fail); try go_wp2)
        go_ret
        exact ⟨by first | rfl | (simp; done) | (simp [*]; done), by repeat (first | exact Drawn0.refl _ | apply Drawn0.step)⟩
      ·
       rw [if_neg c6] at H
       exact absurd H (by simp)
     ·
      rw [if_neg c5] at H
      exact absurd H (by simp)
    ·
     rw [if_neg c4] at H
     have c4b0 : decide (x5_1 < (l0.length : Int)) = false := decide_eq_false c4
     clear c4
     obtain rfl := Option.some.inj H
     go_wp2
     repeat (go_quiet (fail); try go_wp2)
     go_ret
     exact ⟨by first | rfl | (simp; done) | (simp [*]; done), by repeat (first | exact Drawn0.refl _ | apply Drawn0.step)⟩
 ·
  rw [if_neg c3] at H
  have c3b0 : ((l0.length : Int) == (l1.length : Int)) = false := beq_eq_false_iff_ne.mpr c3
  have c3b1 : ((l0.length : Int) != (l1.length : Int)) = true := bne_iff_ne.mpr c3
  have c3b2 : (l0.length == l1.length) = false := by first | simpa using c3 | (simp at c3 ⊢; omega)
  obtain rfl := Option.some.inj H
  go_enter Tryd.func54, Tryd.ntmps54
  go_wp2
  repeat (go_quiet (fail); try go_wp2)
  go_ret
  exact ⟨by first | rfl | (simp; done) | (simp [*]; done), by repeat (first | exact Drawn0.refl _ | apply Drawn0.step)⟩
end Go.Proofs.YtiaohbbafaaibabDoor.P

/- OWN TEXT: the small known run that the law of link asks of the program, walked: it answers true. -/
namespace Go.Proofs.YtiaohbbafaaibabDoor.P
open Go.RowKit Go.Maps Go.Proofs.YtiaohbbafaaibabDoorW.PrintWords Go.Proofs.YtiaohbbafaaibabDoorW.PrintLast Go.Proofs.YtiaohbbafaaibabDoorW.PrintMore Go.Proofs.YtiaohbbafaaibabDoor.Arr Go.Proofs.YtiaohbbafaaibabDoor.MapB Go.Proofs.YtiaohbbafaaibabDoor.SymM
set_option linter.unusedVariables false
set_option linter.unusedSimpArgs false
def tCa : List Int := [2281701376, 2818572288]
def tDa : List Int := [7, 8]
def tSa : List Sym := [⟨⟨#[102]⟩, 3, 0⟩, ⟨⟨#[109, 97, 105, 110]⟩, 1, 0⟩]
def tRa : List Rel := [⟨0, 0⟩]
def tCb : List Int := [142606341, 2558001152]
def tSb : List Sym := [⟨⟨#[102]⟩, 1, 0⟩]
def tA : ObjT := ⟨⟨#[97]⟩, tCa, 1, tDa, tSa, tRa⟩
def tB : ObjT := ⟨⟨#[98]⟩, tCb, 0, [], tSb, []⟩
def tL : List ObjT := [tA, tB]
set_option maxHeartbeats 8000000 in
set_option maxRecDepth 100000 in
theorem two.calls (w : World) : Calls Tryd.prog 59 #[] w fun e w' => ∃ v, e = .returned v ∧ Kd.R k27 27 w' w.heap.size (fun _ => True) v tL ∧ Below w.heap.size w w' := by
 have hu1 := Tryd.underlying27
 have HB := Aside0.mk (Below.refl w.heap.size w)
 go_enter Tryd.func59, Tryd.ntmps59
 go_wp2_with (first | ((with_reducible refine gate_dst (N := 3) rfl ?_); refine Kd.R_lit (Kd.int .u32) w.heap.size 63 ?hg (N := 3) ?hd (xs := tCa) (inner := [.int .u32 2281701376, .int .u32 2818572288]) (ok := fun _ => True) (okp := fun _ => True) ?hr ?hp (fun _ hk => hk) trivial HB.out HB.out.size (by decide) ?_; (case hd => rfl); (case hg => rfl); (case hr => first | (go_simp; done) | (go_simp; rfl)); (case hp => exact (Reps.one (show Kd.M (Kd.int .u32) _ _ _ 2281701376 [.int .u32 2281701376] from rfl) (Reps.one (show Kd.M (Kd.int .u32) _ _ _ 2818572288 [.int .u32 2818572288] from rfl) (Reps.none _ _)))); intro v3 w3 ho_ hb_ hg_ hnew_; clear hnew_; replace HB := Aside0.mk (hb_); obtain ⟨A3, c3, e_⟩ := Kd.R_slice ho_; subst e_; have H3 := Aside0.mk ho_; clear ho_ hb_ hg_) | ((with_reducible refine gate_dst (N := 4) rfl ?_); refine Kd.R_lit (Kd.int .i64) w.heap.size 2 ?hg (N := 4) ?hd (xs := tDa) (inner := [.int .i64 7, .int .i64 8]) (ok := fun _ => True) (okp := fun _ => True) ?hr ?hp (fun _ hk => hk) trivial HB.out HB.out.size (by decide) ?_; (case hd => rfl); (case hg => rfl); (case hr => first | (go_simp; done) | (go_simp; rfl)); (case hp => exact (Reps.one (show Kd.M (Kd.int .i64) _ _ _ 7 [.int .i64 7] from rfl) (Reps.one (show Kd.M (Kd.int .i64) _ _ _ 8 [.int .i64 8] from rfl) (Reps.none _ _)))); intro v4 w4 ho_ hb_ hg_ hnew_; clear hnew_; have H3n := Aside0.mk (Kd.R_grown H3.out hg_ (fun k _ z => by cases z)); replace HB := Aside0.mk (hb_); clear H3; have H3 := H3n; clear H3n; obtain ⟨A4, c4, e_⟩ := Kd.R_slice ho_; subst e_; have H4 := Aside0.mk ho_; clear ho_ hb_ hg_) | ((with_reducible refine gate_dst (N := 7) rfl ?_); refine Kd.R_lit k75 w.heap.size 75 ?hg (N := 7) ?hd (xs := tSa) (inner := [.string (⟨#[102]⟩ : ByteArray), .int .i8 3, .int .i64 0, .string (⟨#[109, 97, 105, 110]⟩ : ByteArray), .int .i8 1, .int .i64 0]) (ok := fun _ => True) (okp := fun _ => True) ?hr ?hp (fun _ hk => hk) trivial HB.out HB.out.size (by decide) ?_; (case hd => rfl); (case hg => rfl); (case hr => first | (go_simp; done) | (go_simp; rfl)); (case hp => exact (Reps.c3 (k75_mkM _ _ _ (⟨(⟨#[102]⟩ : ByteArray), 3, 0⟩ : Sym)) (Reps.c3 (k75_mkM _ _ _ (⟨(⟨#[109, 97, 105, 110]⟩ : ByteArray), 1, 0⟩ : Sym)) (Reps.none _ _)))); intro v7 w7 ho_ hb_ hg_ hnew_; clear hnew_; have H3n := Aside0.mk (Kd.R_grown H3.out hg_ (fun k _ z => by cases z)); have H4n := Aside0.mk (Kd.R_grown H4.out hg_ (fun k _ z => by cases z)); replace HB := Aside0.mk (hb_); clear H3 H4; have H3 := H3n; clear H3n; have H4 := H4n; clear H4n; obtain ⟨A7, c7, e_⟩ := Kd.R_slice ho_; subst e_; have H7 := Aside0.mk ho_; clear ho_ hb_ hg_) | ((with_reducible refine gate_dst (N := 9) rfl ?_); refine Kd.R_lit k68 w.heap.size 68 ?hg (N := 9) ?hd (xs := tRa) (inner := [.int .i64 0, .int .i64 0]) (ok := fun _ => True) (okp := fun _ => True) ?hr ?hp (fun _ hk => hk) trivial HB.out HB.out.size (by decide) ?_; (case hd => rfl); (case hg => rfl); (case hr => first | (go_simp; done) | (go_simp; rfl)); (case hp => exact (Reps.c2 (k68_mkM _ _ _ (⟨0, 0⟩ : Rel)) (Reps.none _ _))); intro v9 w9 ho_ hb_ hg_ hnew_; clear hnew_; have H3n := Aside0.mk (Kd.R_grown H3.out hg_ (fun k _ z => by cases z)); have H4n := Aside0.mk (Kd.R_grown H4.out hg_ (fun k _ z => by cases z)); have H7n := Aside0.mk (Kd.R_grown H7.out hg_ (fun k _ z => by cases z)); replace HB := Aside0.mk (hb_); clear H3 H4 H7; have H3 := H3n; clear H3n; have H4 := H4n; clear H4n; have H7 := H7n; clear H7n; obtain ⟨A9, c9, e_⟩ := Kd.R_slice ho_; subst e_; have H9 := Aside0.mk ho_; clear ho_ hb_ hg_) | ((with_reducible refine gate_dst (N := 1) rfl ?_); refine box_event ?hg (N := 1) ?hd (cs := #[.string (⟨#[]⟩ : ByteArray), .slice none 0 0, .int .i64 0, .slice none 0 0, .slice none 0 0, .slice none 0 0]) (t := 27) ?hr ?_; (case hd => rfl); (case hg => rfl); (case hr => first | (go_simp; done) | (go_simp; rfl)); intro ga hg_ w1 BK_ hb_; have Ga := Aside0.mk (show w.heap.size ≤ ga by rw [hg_]; exact HB.out.size); have H3n := Aside0.mk (Kd.R_below H3.out hb_); have H4n := Aside0.mk (Kd.R_below H4.out hb_); have H7n := Aside0.mk (Kd.R_below H7.out hb_); have H9n := Aside0.mk (Kd.R_below H9.out hb_); replace HB := Aside0.mk (below_then HB.out HB.out.size hb_); clear H3 H4 H7 H9; have H3 := H3n; clear H3n; have H4 := H4n; clear H4n; have H7 := H7n; clear H7n; have H9 := H9n; clear H9n; have BXa := Aside0.mk BK_; clear BK_ hb_ hg_) | ((with_reducible refine gate_store (t := 27) rfl ?_); refine wpList_store_whole rfl rfl rfl ga _ #[.string (⟨#[97]⟩ : ByteArray), .slice A3 tCa.length c3, .int .i64 1, .slice A4 tDa.length c4, .slice A7 tSa.length c7, .slice A9 tRa.length c9] _ rfl rfl BXa.out (by kernel_rfl) rfl (obj_oneS _ _ _ _ _ _ _ _ _ _ _ _ _ _) ?_; intro wa_ hp_; have k_ := put_grownN hp_; have H3n := Aside0.mk (Kd.R_grown1 H3.out rfl k_ (Kd.R_ne H3.out BXa.out (by decide))); have H4n := Aside0.mk (Kd.R_grown1 H4.out rfl k_ (Kd.R_ne H4.out BXa.out (by decide))); have H7n := Aside0.mk (Kd.R_grown1 H7.out rfl k_ (Kd.R_ne H7.out BXa.out (by decide))); have H9n := Aside0.mk (Kd.R_grown1 H9.out rfl k_ (Kd.R_ne H9.out BXa.out (by decide))); replace HB := Aside0.mk (hp_.below HB.out Ga.out); replace BXa := Aside0.mk hp_.blk; clear hp_ k_ H3 H4 H7 H9; have H3 := H3n; clear H3n; have H4 := H4n; clear H4n; have H7 := H7n; clear H7n; have H9 := H9n; clear H9n; have ha0 := blk_cell BXa.out 0; have ha1 := blk_cell BXa.out 1; have ha2 := blk_cell BXa.out 2; have ha3 := blk_cell BXa.out 3; have ha4 := blk_cell BXa.out 4; have ha5 := blk_cell BXa.out 5) | ((with_reducible refine gate_dst (N := 11) rfl ?_); refine Kd.R_lit (Kd.int .u32) w.heap.size 63 ?hg (N := 11) ?hd (xs := tCb) (inner := [.int .u32 142606341, .int .u32 2558001152]) (ok := fun _ => True) (okp := fun _ => True) ?hr ?hp (fun _ hk => hk) trivial HB.out HB.out.size (by decide) ?_; (case hd => rfl); (case hg => rfl); (case hr => first | (go_simp; done) | (go_simp; rfl)); (case hp => exact (Reps.one (show Kd.M (Kd.int .u32) _ _ _ 142606341 [.int .u32 142606341] from rfl) (Reps.one (show Kd.M (Kd.int .u32) _ _ _ 2558001152 [.int .u32 2558001152] from rfl) (Reps.none _ _)))); intro v11 w11 ho_ hb_ hg_ hnew_; clear hnew_; have H3n := Aside0.mk (Kd.R_grown H3.out hg_ (fun k _ z => by cases z)); have H4n := Aside0.mk (Kd.R_grown H4.out hg_ (fun k _ z => by cases z)); have H7n := Aside0.mk (Kd.R_grown H7.out hg_ (fun k _ z => by cases z)); have H9n := Aside0.mk (Kd.R_grown H9.out hg_ (fun k _ z => by cases z)); have BXan := Aside0.mk (blk_grown BXa.out hg_ (by simp)); replace HB := Aside0.mk (hb_); clear H3 H4 H7 H9 BXa; have H3 := H3n; clear H3n; have H4 := H4n; clear H4n; have H7 := H7n; clear H7n; have H9 := H9n; clear H9n; have BXa := BXan; clear BXan; obtain ⟨A11, c11, e_⟩ := Kd.R_slice ho_; subst e_; have H11 := Aside0.mk ho_; clear ho_ hb_ hg_) | ((with_reducible refine gate_dst (N := 13) rfl ?_); refine Kd.R_lit k75 w.heap.size 75 ?hg (N := 13) ?hd (xs := tSb) (inner := [.string (⟨#[102]⟩ : ByteArray), .int .i8 1, .int .i64 0]) (ok := fun _ => True) (okp := fun _ => True) ?hr ?hp (fun _ hk => hk) trivial HB.out HB.out.size (by decide) ?_; (case hd => rfl); (case hg => rfl); (case hr => first | (go_simp; done) | (go_simp; rfl)); (case hp => exact (Reps.c3 (k75_mkM _ _ _ (⟨(⟨#[102]⟩ : ByteArray), 1, 0⟩ : Sym)) (Reps.none _ _))); intro v13 w13 ho_ hb_ hg_ hnew_; clear hnew_; have H3n := Aside0.mk (Kd.R_grown H3.out hg_ (fun k _ z => by cases z)); have H4n := Aside0.mk (Kd.R_grown H4.out hg_ (fun k _ z => by cases z)); have H7n := Aside0.mk (Kd.R_grown H7.out hg_ (fun k _ z => by cases z)); have H9n := Aside0.mk (Kd.R_grown H9.out hg_ (fun k _ z => by cases z)); have BXan := Aside0.mk (blk_grown BXa.out hg_ (by simp)); have H11n := Aside0.mk (Kd.R_grown H11.out hg_ (fun k _ z => by cases z)); replace HB := Aside0.mk (hb_); clear H3 H4 H7 H9 BXa H11; have H3 := H3n; clear H3n; have H4 := H4n; clear H4n; have H7 := H7n; clear H7n; have H9 := H9n; clear H9n; have BXa := BXan; clear BXan; have H11 := H11n; clear H11n; obtain ⟨A13, c13, e_⟩ := Kd.R_slice ho_; subst e_; have H13 := Aside0.mk ho_; clear ho_ hb_ hg_) | ((with_reducible refine gate_dst (N := 2) rfl ?_); refine box_event ?hg (N := 2) ?hd (cs := #[.string (⟨#[]⟩ : ByteArray), .slice none 0 0, .int .i64 0, .slice none 0 0, .slice none 0 0, .slice none 0 0]) (t := 27) ?hr ?_; (case hd => rfl); (case hg => rfl); (case hr => first | (go_simp; done) | (go_simp; rfl)); intro gb hg_ w2 BK_ hb_; have Gb := Aside0.mk (show w.heap.size ≤ gb by rw [hg_]; exact HB.out.size); have NEb := Aside0.mk (show ga ≠ gb by rw [hg_]; exact Nat.ne_of_lt (blk_lt BXa.out)); clear ha0 ha1 ha2 ha3 ha4 ha5; have H3n := Aside0.mk (Kd.R_below H3.out hb_); have H4n := Aside0.mk (Kd.R_below H4.out hb_); have H7n := Aside0.mk (Kd.R_below H7.out hb_); have H9n := Aside0.mk (Kd.R_below H9.out hb_); have BXan := Aside0.mk (blk_below BXa.out hb_); have H11n := Aside0.mk (Kd.R_below H11.out hb_); have H13n := Aside0.mk (Kd.R_below H13.out hb_); replace HB := Aside0.mk (below_then HB.out HB.out.size hb_); clear H3 H4 H7 H9 BXa H11 H13; have H3 := H3n; clear H3n; have H4 := H4n; clear H4n; have H7 := H7n; clear H7n; have H9 := H9n; clear H9n; have BXa := BXan; clear BXan; have H11 := H11n; clear H11n; have H13 := H13n; clear H13n; have BXb := Aside0.mk BK_; clear BK_ hb_ hg_) | ((with_reducible refine gate_store (t := 27) rfl ?_); refine wpList_store_whole rfl rfl rfl gb _ #[.string (⟨#[98]⟩ : ByteArray), .slice A11 tCb.length c11, .int .i64 0, .slice none 0 0, .slice A13 tSb.length c13, .slice none 0 0] _ rfl rfl BXb.out (by kernel_rfl) rfl (obj_oneS _ _ _ _ _ _ _ _ _ _ _ _ _ _) ?_; intro wb_ hp_; have k_ := put_grownN hp_; have H3n := Aside0.mk (Kd.R_grown1 H3.out rfl k_ (Kd.R_ne H3.out BXb.out (by decide))); have H4n := Aside0.mk (Kd.R_grown1 H4.out rfl k_ (Kd.R_ne H4.out BXb.out (by decide))); have H7n := Aside0.mk (Kd.R_grown1 H7.out rfl k_ (Kd.R_ne H7.out BXb.out (by decide))); have H9n := Aside0.mk (Kd.R_grown1 H9.out rfl k_ (Kd.R_ne H9.out BXb.out (by decide))); have BXan := Aside0.mk (blk_grown BXa.out k_ (fun z => NEb.out (Option.some.inj z))); have H11n := Aside0.mk (Kd.R_grown1 H11.out rfl k_ (Kd.R_ne H11.out BXb.out (by decide))); have H13n := Aside0.mk (Kd.R_grown1 H13.out rfl k_ (Kd.R_ne H13.out BXb.out (by decide))); replace HB := Aside0.mk (hp_.below HB.out Gb.out); replace BXb := Aside0.mk hp_.blk; clear hp_ k_ H3 H4 H7 H9 BXa H11 H13; have H3 := H3n; clear H3n; have H4 := H4n; clear H4n; have H7 := H7n; clear H7n; have H9 := H9n; clear H9n; have BXa := BXan; clear BXan; have H11 := H11n; clear H11n; have H13 := H13n; clear H13n; have ha0 := blk_cell BXa.out 0; have ha1 := blk_cell BXa.out 1; have ha2 := blk_cell BXa.out 2; have ha3 := blk_cell BXa.out 3; have ha4 := blk_cell BXa.out 4; have ha5 := blk_cell BXa.out 5; have hb0 := blk_cell BXb.out 0; have hb1 := blk_cell BXb.out 1; have hb2 := blk_cell BXb.out 2; have hb3 := blk_cell BXb.out 3; have hb4 := blk_cell BXb.out 4; have hb5 := blk_cell BXb.out 5) | ((with_reducible refine gate_dst (N := 17) rfl ?_); refine Kd.R_lit k27 w.heap.size 27 ?hg (N := 17) ?hd (xs := tL) (inner := [.string (⟨#[97]⟩ : ByteArray), .slice A3 tCa.length c3, .int .i64 1, .slice A4 tDa.length c4, .slice A7 tSa.length c7, .slice A9 tRa.length c9, .string (⟨#[98]⟩ : ByteArray), .slice A11 tCb.length c11, .int .i64 0, .slice none 0 0, .slice A13 tSb.length c13, .slice none 0 0]) (ok := fun _ => True) (okp := fun _ => True) ?hr ?hp (fun _ hk => hk) trivial HB.out HB.out.size (by decide) ?_; (case hd => rfl); (case hg => rfl); (case hr => first | (go_simp; done) | (go_simp; rfl)); (case hp => exact (Reps.c6 (k27_mkM _ _ _ tA H3.out H4.out H7.out H9.out) (Reps.c6 (k27_mkM _ _ _ tB H11.out (Kd.R_nil _ _ _ _ _) H13.out (Kd.R_nil _ _ _ _ _)) (Reps.none _ _)))); intro v17 w17 ho_ hb_ hg_ hnew_; clear hnew_; have H3n := Aside0.mk (Kd.R_grown H3.out hg_ (fun k _ z => by cases z)); have H4n := Aside0.mk (Kd.R_grown H4.out hg_ (fun k _ z => by cases z)); have H7n := Aside0.mk (Kd.R_grown H7.out hg_ (fun k _ z => by cases z)); have H9n := Aside0.mk (Kd.R_grown H9.out hg_ (fun k _ z => by cases z)); have BXan := Aside0.mk (blk_grown BXa.out hg_ (by simp)); have H11n := Aside0.mk (Kd.R_grown H11.out hg_ (fun k _ z => by cases z)); have H13n := Aside0.mk (Kd.R_grown H13.out hg_ (fun k _ z => by cases z)); have BXbn := Aside0.mk (blk_grown BXb.out hg_ (by simp)); replace HB := Aside0.mk (hb_); clear H3 H4 H7 H9 BXa H11 H13 BXb; have H3 := H3n; clear H3n; have H4 := H4n; clear H4n; have H7 := H7n; clear H7n; have H9 := H9n; clear H9n; have BXa := BXan; clear BXan; have H11 := H11n; clear H11n; have H13 := H13n; clear H13n; have BXb := BXbn; clear BXbn; obtain ⟨A17, c17, e_⟩ := Kd.R_slice ho_; subst e_; have H17 := Aside0.mk ho_; clear ho_ hb_ hg_))
 go_ret
 exact ⟨_, rfl, H17.out, HB.out⟩
def tD : List (List DefT) := [[⟨1, 0⟩, ⟨0, 0⟩], [⟨1, 0⟩]]
def tN : ByteArray := ⟨#[109, 97, 105, 110]⟩
def tT : List Int := [2281701379, 2818572288, 0, 142606341, 2558001152, 0]
def tM : List Int := [0, 7, 8, 0]
def tB2 : List Int := [0, 3]
def tL1 : List ObjT := [tA]
theorem tRes : resolveR tL = some (tD, 0, 0, 0) := by kernel_rfl
theorem tRes1 : resolveR tL1 = some ([], 40, 0, 0) := by kernel_rfl
theorem small2 {l : List ObjT} (hn : l.length ≤ 2) (h : (List.range l.length).all (fun p => decide ((ob l p).f1.length ≤ 2) && (decide ((ob l p).f4.length ≤ 2) && (decide ((ob l p).f5.length ≤ 2) && wordsO (ob l p).f1))) = true) : Small l := by
 have k : ∀ p, p < l.length → (ob l p).f1.length ≤ 2 ∧ (ob l p).f4.length ≤ 2 ∧ (ob l p).f5.length ≤ 2 ∧ wordsO (ob l p).f1 = true := fun p hp => by
  have := List.all_eq_true.1 h p (List.mem_range.2 hp)
  simpa only [Bool.and_eq_true, decide_eq_true_eq] using this
 exact ⟨by omega, fun p hp => by have := (k p hp).1; omega, fun p hp => by have := (k p hp).2.1; omega, fun p hp => by have := (k p hp).2.2.1; omega, fun p hp => (k p hp).2.2.2⟩
theorem tSmall : Small tL := small2 (by decide) (by kernel_rfl)
theorem tSmall1 : Small tL1 := small2 (by decide) (by kernel_rfl)
theorem tErr : errL tL tN 4 0 = 0 := by kernel_rfl
theorem tErr1 : errL tL1 tN 4 40 = 40 := by kernel_rfl
theorem tEnt : entL tL tN 4 0 = 0 := by kernel_rfl
theorem tTxt : txtL tL tD tN 4 0 = tT := by kernel_rfl
theorem tMem : memL tL tN 4 0 = tM := by kernel_rfl
theorem tBas : basesR tL = (tB2, 0) := by kernel_rfl
theorem tEqI : pleatref00_EqInts.f 9 tB2 tB2 = some true := by kernel_rfl
theorem tEqW : pleatref00_EqWords.f 9 tT tT = some true := by kernel_rfl
theorem tEqL : pleatref00_EqLongs.f 9 tM tM = some true := by kernel_rfl
theorem C_front {α : Type} {d : Kd α} {w : World} {A : Option Addr} {a b : α} (h : Kd.C d w A 2 [a, b]) : Kd.C d w A 1 [a] :=
 ⟨rfl, by decide, fun _ => by
  obtain ⟨ad, e, hc⟩ := h.2.2 (by decide)
  exact ⟨ad, e, fun j p hj => by
   cases j with
   | zero => exact hc 0 p hj
   | succ j => cases hj⟩⟩
theorem img_oneR (A : Option Addr) (n c : Nat) (en : Int) (A2 : Option Addr) (n2 c2 : Nat) : ((#[.slice A n c, .int .i64 en, .slice A2 n2 c2] : Array Value).all fun v => v.oneCell') = true := by kernel_rfl
set_option maxHeartbeats 8000000 in
set_option maxRecDepth 100000 in
theorem lives9.calls (w : World) : Calls Tryd.prog 15 #[] w fun e w' => e = .returned (.bool true) ∧ Below w.heap.size w w' := by
 have hu1 := Tryd.underlying46
 have HB := Aside0.mk (Below.refl w.heap.size w)
 go_enter Tryd.func15, Tryd.ntmps15
 go_upto_region 2 with (first | (go_at_call 59; refine (two.calls _).mono ?_; rintro e_ w1 ⟨v, rfl, hr_, hb_⟩; obtain ⟨A0, c0, e_⟩ := Kd.R_slice hr_; subst e_; have HR := Aside0.mk (Kd.R_reads' hr_); replace HB := Aside0.mk (below_then HB.out HB.out.size hb_); clear hb_ hr_) | (go_at_call 16; refine (linkS.calls A0 c0 tL tN 4 tD 0 0 0 _ HR.out.2.2 HR.out.2.1 tSmall tRes).mono ?_; rintro e_ w2 ⟨vT, vM, i_, n_, rfl, ht_, hm_, hb_, hin_⟩; rw [tErr, tEnt]; rw [tTxt] at ht_; rw [tMem] at hm_; obtain ⟨AT, cT, e1_⟩ := Kd.R_slice ht_; obtain ⟨AM, cM, e2_⟩ := Kd.R_slice hm_; subst e1_ e2_; have HT := Aside0.mk ht_; have HM := Aside0.mk hm_; replace HB := Aside0.mk (below_then HB.out HB.out.size hb_); clear HR ht_ hm_ hin_ hb_) | ((with_reducible refine gate_dst (N := 1) rfl ?_); refine box_event ?hg (N := 1) ?hd (cs := #[.slice none 0 0, .int .i64 0, .slice none 0 0]) (t := 46) ?hr ?_; (case hd => rfl); (case hg => rfl); (case hr => first | (go_simp; done) | (go_simp; rfl)); intro g1 hg_ w3 BK_ hb_; have BX := Aside0.mk BK_; have G1 := Aside0.mk (show w.heap.size ≤ g1 by rw [hg_]; exact HB.out.size); have HTn := Aside0.mk (Kd.R_below HT.out hb_); have HMn := Aside0.mk (Kd.R_below HM.out hb_); replace HB := Aside0.mk (below_then HB.out HB.out.size hb_); clear HT HM BK_ hg_ hb_; have HT := HTn; have HM := HMn; clear HTn HMn) | ((with_reducible refine gate_store (t := 46) rfl ?_); refine wpList_store_whole rfl rfl rfl g1 _ #[.slice AT tT.length cT, .int .i64 0, .slice AM tM.length cM] _ rfl rfl BX.out (by kernel_rfl) rfl (img_oneR _ _ _ _ _ _ _) ?_; intro w4 hp_; have k_ := put_grownN hp_; replace HT := Aside0.mk (Kd.R_grown1 HT.out rfl k_ (Kd.R_ne HT.out BX.out (by decide))); replace HM := Aside0.mk (Kd.R_grown1 HM.out rfl k_ (Kd.R_ne HM.out BX.out (by decide))); replace HB := Aside0.mk (hp_.below HB.out G1.out); replace BX := Aside0.mk hp_.blk; clear k_ hp_))
 go_upto_region 3 with (first | (go_at_call 59; refine (two.calls _).mono ?_; rintro e_ w1 ⟨v, rfl, hr_, hb_⟩; obtain ⟨A0, c0, e_⟩ := Kd.R_slice hr_; subst e_; have HR := Aside0.mk (Kd.R_reads' hr_); replace HB := Aside0.mk (below_then HB.out HB.out.size hb_); replace HT := Aside0.mk (Kd.R_below HT.out hb_); replace HM := Aside0.mk (Kd.R_below HM.out hb_); replace BX := Aside0.mk (blk_below BX.out hb_); have hcap : ((1 : Int) ≤ (c0 : Int)) = True := eq_true (by have h_ := HR.out.2.1; have : tL.length = 2 := rfl; omega); clear hb_ hr_) | (go_at_call 16; refine (linkS.calls A0 c0 tL1 tN 4 [] 40 0 0 _ (C_front HR.out.2.2) (Nat.le_trans (by decide) HR.out.2.1) tSmall1 tRes1).mono ?_; rintro e_ w2 ⟨vT, vM, i_, n_, rfl, ht_, hm_, hb_, hin_⟩; rw [tErr1]; obtain ⟨rfl, rfl⟩ := hin_ (by decide) (by decide) (by decide); obtain ⟨AT2, cT2, e1_⟩ := Kd.R_slice ht_; obtain ⟨AM2, cM2, e2_⟩ := Kd.R_slice hm_; subst e1_ e2_; replace HB := Aside0.mk (below_then HB.out HB.out.size hb_); replace HT := Aside0.mk (Kd.R_below HT.out hb_); replace HM := Aside0.mk (Kd.R_below HM.out hb_); replace BX := Aside0.mk (blk_below BX.out hb_); clear HR ht_ hm_ hin_ hb_ hcap) | ((with_reducible refine gate_dst (N := 5) rfl ?_); refine box_event ?hg (N := 5) ?hd (cs := #[.slice none 0 0, .int .i64 0, .slice none 0 0]) (t := 46) ?hr ?_; (case hd => rfl); (case hg => rfl); (case hr => first | (go_simp; done) | (go_simp; rfl)); intro g5 hg_ w5 BK_ hb_; have BY := Aside0.mk BK_; have NE := Aside0.mk (show g1 ≠ g5 by rw [hg_]; exact Nat.ne_of_lt (blk_lt BX.out)); have G5 := Aside0.mk (show w.heap.size ≤ g5 by rw [hg_]; exact HB.out.size); replace HB := Aside0.mk (below_then HB.out HB.out.size hb_); replace HT := Aside0.mk (Kd.R_below HT.out hb_); replace HM := Aside0.mk (Kd.R_below HM.out hb_); replace BX := Aside0.mk (blk_below BX.out hb_); clear BK_ hg_ hb_) | ((with_reducible refine gate_store (t := 46) rfl ?_); refine wpList_store_whole rfl rfl rfl g5 _ #[.slice AT2 (txtL tL1 [] tN 4 40).length cT2, .int .i64 (entL tL1 tN 4 40), .slice AM2 (memL tL1 tN 4 40).length cM2] _ rfl rfl BY.out (by kernel_rfl) rfl (img_oneR _ _ _ _ _ _ _) ?_; intro w6 hp_; have k_ := put_grownN hp_; replace HT := Aside0.mk (Kd.R_grown1 HT.out rfl k_ (Kd.R_ne HT.out BY.out (by decide))); replace HM := Aside0.mk (Kd.R_grown1 HM.out rfl k_ (Kd.R_ne HM.out BY.out (by decide))); replace HB := Aside0.mk (hp_.below HB.out G5.out); replace BX := Aside0.mk (blk_grown BX.out k_ (fun z => NE.out (Option.some.inj z))); clear BY k_ hp_))
 go_upto_region 4 with (first | (go_at_call 59; refine (two.calls _).mono ?_; rintro e_ w1 ⟨v, rfl, hr_, hb_⟩; obtain ⟨A0, c0, e_⟩ := Kd.R_slice hr_; subst e_; have HR := Aside0.mk (Kd.R_reads' hr_); replace HB := Aside0.mk (below_then HB.out HB.out.size hb_); replace HT := Aside0.mk (Kd.R_below HT.out hb_); replace HM := Aside0.mk (Kd.R_below HM.out hb_); replace BX := Aside0.mk (blk_below BX.out hb_); clear hb_ hr_) | (go_at_call 20; refine (callsIn_wide.1 (bases_in Fence.wide 3 trivial trivial trivial rfl (by decide) A0 c0 tL _ HR.out.2.2 (fun i h => by have := tSmall.code i h; omega) (by decide))).mono ?_; rintro e_ w7 ⟨v, rfl, hr_, hb_⟩; rw [tBas] at hr_ ⊢; obtain ⟨AB, cB, e_⟩ := Kd.R_slice hr_; subst e_; have HBA := Aside0.mk hr_; replace HB := Aside0.mk (below_then HB.out HB.out.size hb_); replace HT := Aside0.mk (Kd.R_below HT.out hb_); replace HM := Aside0.mk (Kd.R_below HM.out hb_); replace BX := Aside0.mk (blk_below BX.out hb_); clear HR hr_ hb_; have hx0 := blk_cell BX.out 0; have hx1 := blk_cell BX.out 1; have hx2 := blk_cell BX.out 2))
 go_wp2_with (first | ((with_reducible refine gate_dst (N := 51) rfl ?_); (try (refine gate_guard (by rfl) ?_; dsimp only)); refine Kd.R_lit (Kd.int .i64) w.heap.size 3 ?hg (N := 51) ?hd (xs := tB2) (inner := [.int .i64 0, .int .i64 3]) (ok := fun _ => True) (okp := fun _ => True) ?hr ?hp (fun _ hk => hk) trivial HB.out HB.out.size (by decide) ?_; (case hd => rfl); (case hg => rfl); (case hr => first | (go_simp; done) | (go_simp; rfl)); (case hp => exact (Reps.one (show Kd.M (Kd.int .i64) _ _ _ 0 [.int .i64 0] from rfl) (Reps.one (show Kd.M (Kd.int .i64) _ _ _ 3 [.int .i64 3] from rfl) (Reps.none _ _)))); intro v51 w51 ho_ hb0_ hg_ hnew_; replace HT := Aside0.mk (Kd.R_grown HT.out hg_ (fun k _ z => by cases z)); replace HM := Aside0.mk (Kd.R_grown HM.out hg_ (fun k _ z => by cases z)); replace HBA := Aside0.mk (Kd.R_grown HBA.out hg_ (fun k _ z => by cases z)); replace BX := Aside0.mk (blk_grown BX.out hg_ (by simp)); replace HB := Aside0.mk hb0_; clear hnew_ hx0 hx1 hx2 hb0_ hg_; have hx0 := blk_cell BX.out 0; have hx1 := blk_cell BX.out 1; have hx2 := blk_cell BX.out 2; obtain ⟨A51, c51, e_⟩ := Kd.R_slice ho_; subst e_; have H51 := Aside0.mk ho_; clear ho_) | (go_at_call 60; refine (pleatref00_EqInts.calls 9 _ _ tB2 _ _ tB2 true _ (Kd.R_reads' HBA.out).2.2 (Kd.R_reads' HBA.out).2.1 (Kd.R_reads' H51.out).2.2 (Kd.R_reads' H51.out).2.1 tEqI).mono ?_; rintro e_ w8 ⟨rfl, hd_⟩; have hb_ := hd_.below; clear hd_; replace HB := Aside0.mk (below_then HB.out HB.out.size hb_); replace HT := Aside0.mk (Kd.R_below HT.out hb_); replace HM := Aside0.mk (Kd.R_below HM.out hb_); replace HBA := Aside0.mk (Kd.R_below HBA.out hb_); replace BX := Aside0.mk (blk_below BX.out hb_); clear hx0 hx1 hx2; have hx0 := blk_cell BX.out 0; have hx1 := blk_cell BX.out 1; have hx2 := blk_cell BX.out 2; clear hb_ H51) | ((with_reducible refine gate_dst (N := 57) rfl ?_); (try (refine gate_guard (by rfl) ?_; dsimp only)); refine Kd.R_lit (Kd.int .u32) w.heap.size 63 ?hg (N := 57) ?hd (xs := tT) (inner := [.int .u32 2281701379, .int .u32 2818572288, .int .u32 0, .int .u32 142606341, .int .u32 2558001152, .int .u32 0]) (ok := fun _ => True) (okp := fun _ => True) ?hr ?hp (fun _ hk => hk) trivial HB.out HB.out.size (by decide) ?_; (case hd => rfl); (case hg => rfl); (case hr => first | (go_simp; done) | (go_simp; rfl)); (case hp => exact (Reps.one (show Kd.M (Kd.int .u32) _ _ _ 2281701379 [.int .u32 2281701379] from rfl) (Reps.one (show Kd.M (Kd.int .u32) _ _ _ 2818572288 [.int .u32 2818572288] from rfl) (Reps.one (show Kd.M (Kd.int .u32) _ _ _ 0 [.int .u32 0] from rfl) (Reps.one (show Kd.M (Kd.int .u32) _ _ _ 142606341 [.int .u32 142606341] from rfl) (Reps.one (show Kd.M (Kd.int .u32) _ _ _ 2558001152 [.int .u32 2558001152] from rfl) (Reps.one (show Kd.M (Kd.int .u32) _ _ _ 0 [.int .u32 0] from rfl) (Reps.none _ _)))))))); intro v57 w57 ho_ hb0_ hg_ hnew_; replace HT := Aside0.mk (Kd.R_grown HT.out hg_ (fun k _ z => by cases z)); replace HM := Aside0.mk (Kd.R_grown HM.out hg_ (fun k _ z => by cases z)); replace HBA := Aside0.mk (Kd.R_grown HBA.out hg_ (fun k _ z => by cases z)); replace BX := Aside0.mk (blk_grown BX.out hg_ (by simp)); replace HB := Aside0.mk hb0_; clear hnew_ hx0 hx1 hx2 hb0_ hg_; have hx0 := blk_cell BX.out 0; have hx1 := blk_cell BX.out 1; have hx2 := blk_cell BX.out 2; obtain ⟨A57, c57, e_⟩ := Kd.R_slice ho_; subst e_; have H57 := Aside0.mk ho_; clear ho_) | (go_at_call 53; refine (pleatref00_EqWords.calls 9 _ _ tT _ _ tT true _ (Kd.R_reads' HT.out).2.2 (Kd.R_reads' HT.out).2.1 (Kd.R_reads' H57.out).2.2 (Kd.R_reads' H57.out).2.1 tEqW).mono ?_; rintro e_ w8 ⟨rfl, hd_⟩; have hb_ := hd_.below; clear hd_; replace HB := Aside0.mk (below_then HB.out HB.out.size hb_); replace HT := Aside0.mk (Kd.R_below HT.out hb_); replace HM := Aside0.mk (Kd.R_below HM.out hb_); replace HBA := Aside0.mk (Kd.R_below HBA.out hb_); replace BX := Aside0.mk (blk_below BX.out hb_); clear hx0 hx1 hx2; have hx0 := blk_cell BX.out 0; have hx1 := blk_cell BX.out 1; have hx2 := blk_cell BX.out 2; clear hb_ H57) | ((with_reducible refine gate_dst (N := 68) rfl ?_); (try (refine gate_guard (by rfl) ?_; dsimp only)); refine Kd.R_lit (Kd.int .i64) w.heap.size 2 ?hg (N := 68) ?hd (xs := tM) (inner := [.int .i64 0, .int .i64 7, .int .i64 8, .int .i64 0]) (ok := fun _ => True) (okp := fun _ => True) ?hr ?hp (fun _ hk => hk) trivial HB.out HB.out.size (by decide) ?_; (case hd => rfl); (case hg => rfl); (case hr => first | (go_simp; done) | (go_simp; rfl)); (case hp => exact (Reps.one (show Kd.M (Kd.int .i64) _ _ _ 0 [.int .i64 0] from rfl) (Reps.one (show Kd.M (Kd.int .i64) _ _ _ 7 [.int .i64 7] from rfl) (Reps.one (show Kd.M (Kd.int .i64) _ _ _ 8 [.int .i64 8] from rfl) (Reps.one (show Kd.M (Kd.int .i64) _ _ _ 0 [.int .i64 0] from rfl) (Reps.none _ _)))))); intro v68 w68 ho_ hb0_ hg_ hnew_; replace HT := Aside0.mk (Kd.R_grown HT.out hg_ (fun k _ z => by cases z)); replace HM := Aside0.mk (Kd.R_grown HM.out hg_ (fun k _ z => by cases z)); replace HBA := Aside0.mk (Kd.R_grown HBA.out hg_ (fun k _ z => by cases z)); replace BX := Aside0.mk (blk_grown BX.out hg_ (by simp)); replace HB := Aside0.mk hb0_; clear hnew_ hx0 hx1 hx2 hb0_ hg_; have hx0 := blk_cell BX.out 0; have hx1 := blk_cell BX.out 1; have hx2 := blk_cell BX.out 2; obtain ⟨A68, c68, e_⟩ := Kd.R_slice ho_; subst e_; have H68 := Aside0.mk ho_; clear ho_) | (go_at_call 54; refine (pleatref00_EqLongs.calls 9 _ _ tM _ _ tM true _ (Kd.R_reads' HM.out).2.2 (Kd.R_reads' HM.out).2.1 (Kd.R_reads' H68.out).2.2 (Kd.R_reads' H68.out).2.1 tEqL).mono ?_; rintro e_ w8 ⟨rfl, hd_⟩; have hb_ := hd_.below; clear hd_; replace HB := Aside0.mk (below_then HB.out HB.out.size hb_); replace HT := Aside0.mk (Kd.R_below HT.out hb_); replace HM := Aside0.mk (Kd.R_below HM.out hb_); replace HBA := Aside0.mk (Kd.R_below HBA.out hb_); replace BX := Aside0.mk (blk_below BX.out hb_); clear hx0 hx1 hx2; have hx0 := blk_cell BX.out 0; have hx1 := blk_cell BX.out 1; have hx2 := blk_cell BX.out 2; clear hb_ H68))
 go_ret
 exact ⟨rfl, HB.out⟩
end Go.Proofs.YtiaohbbafaaibabDoor.P

/- OWN TEXT: wire's reader, walked: fails, has, number, count, text, each. -/
namespace Go.Proofs.YtiaohbbafaaibabDoor.P
open Go.RowKit Go.Proofs.YtiaohbbafaaibabDoorW.PrintWords Go.Proofs.YtiaohbbafaaibabDoorW.PrintLast Go.Proofs.YtiaohbbafaaibabDoorW.PrintMore Go.Proofs.YtiaohbbafaaibabDoor.Arr
set_option linter.unusedVariables false
set_option linter.unusedSimpArgs false
structure RS where
  at_ : Int
  er : Option Int
def ErV (W : World) (base : Nat) : Option Int → Value → Prop
 | none, v => v = .nilIface
 | some p, v => ∃ e, v = .iface 88 (.pointer (some ⟨e, 0, none⟩)) ∧ base ≤ e ∧ W.heap[e]? = some (.cells #[.int .i64 p] 92 (0, 0))
structure Rd (w0 W : World) (r : Nat) (A : Option Addr) (c : Nat) (l : List Int) (s : RS) : Prop where
  low : Below w0.heap.size w0 W
  blk : ∃ v, W.heap[r]? = some (.cells #[.slice A l.length c, .int .i64 s.at_, v] 81 (0, 0)) ∧ ErV W w0.heap.size s.er v
  base : w0.heap.size ≤ r
  at0 : 0 ≤ s.at_
  at1 : s.at_ ≤ (l.length : Int) + 4
  at2 : s.er = none → s.at_ ≤ (l.length : Int)
theorem grown_refl (W : World) (k : Option Nat) : W.grownBy W k := ⟨rfl, rfl, rfl, Nat.le_refl _, fun _ _ _ => rfl⟩
theorem grown_trans {W W1 W2 : World} {k : Option Nat} (h : W.grownBy W1 k) (g : W1.grownBy W2 k) : W.grownBy W2 k :=
 ⟨g.os.trans h.os, g.tape.trans h.tape, g.output.trans h.output, Nat.le_trans h.size g.size, fun q hq hn => (g.block q (Nat.lt_of_lt_of_le hq h.size) hn).trans (h.block q hq hn)⟩
theorem grown_below {W W1 : World} {k : Option Nat} (h : Below W.heap.size W W1) : W.grownBy W1 k := ⟨h.os, h.tape, h.output, h.size, fun q hq _ => h.block q hq⟩
theorem below_grown {w0 W W1 : World} {g : Nat} (h : Below w0.heap.size w0 W) (hg : w0.heap.size ≤ g) (k : W.grownBy W1 (some g)) : Below w0.heap.size w0 W1 :=
 ⟨k.os.trans h.os, k.tape.trans h.tape, k.output.trans h.output, Nat.le_trans h.size k.size, fun q hq => (k.block q (Nat.lt_of_lt_of_le hq h.size) (fun e => by have := Option.some.inj e; omega)).trans (h.block q hq)⟩
theorem ErV.grown {W W1 : World} {g base : Nat} {cs : Array Value} {x : Option Int} {v : Value} (h : ErV W base x v) (hb : W.heap[g]? = some (.cells cs 81 (0, 0))) (k : W.grownBy W1 (some g)) : ErV W1 base x v := by
 cases x with
 | none => exact h
 | some p =>
  obtain ⟨e, h1, h2, h3⟩ := h
  refine ⟨e, h1, h2, (k.block e (blk_lt h3) (fun q => ?_)).trans h3⟩
  obtain rfl := Option.some.inj q
  rw [h3] at hb
  injection hb with hb
  injection hb with _ hb _
  exact absurd hb (by decide)
theorem ErV.below {W W1 : World} {base : Nat} {x : Option Int} {v : Value} (h : ErV W base x v) (k : Below W.heap.size W W1) : ErV W1 base x v := by
 cases x with
 | none => exact h
 | some p =>
  obtain ⟨e, h1, h2, h3⟩ := h
  exact ⟨e, h1, h2, blk_below h3 k⟩
theorem Rd.below {w0 W W1 : World} {r : Nat} {A : Option Addr} {c : Nat} {l : List Int} {s : RS} (h : Rd w0 W r A c l s) (k : Below W.heap.size W W1) : Rd w0 W1 r A c l s := by
 obtain ⟨v, hb, he⟩ := h.blk
 exact ⟨below_then h.low h.low.size k, ⟨v, blk_below hb k, he.below k⟩, h.base, h.at0, h.at1, h.at2⟩
theorem Rd.other {w0 W W1 : World} {r g : Nat} {A : Option Addr} {c : Nat} {l : List Int} {s : RS} {cs : Array Value} {e : TypeId} {fz : Nat × Nat} (h : Rd w0 W r A c l s) (hb : W.heap[g]? = some (.cells cs e fz)) (h1 : e ≠ 81) (h2 : e ≠ 92) (hw : w0.heap.size ≤ g) (k : W.grownBy W1 (some g)) : Rd w0 W1 r A c l s := by
 obtain ⟨v, hr, he⟩ := h.blk
 have ne : ∀ (q : Nat) (cs' : Array Value) (e' : TypeId), W.heap[q]? = some (Obj.cells cs' e' (0, 0)) → e ≠ e' → W1.heap[q]? = W.heap[q]? := fun q cs' e' hq hn => k.block q (blk_lt hq) (fun z => by
  obtain rfl := Option.some.inj z
  rw [hq] at hb
  injection hb with hb
  injection hb with _ hb _
  exact hn hb.symm)
 refine ⟨below_grown h.low hw k, ⟨v, (ne r _ _ hr h1).trans hr, ?_⟩, h.base, h.at0, h.at1, h.at2⟩
 cases hs : s.er with
 | none => rw [hs] at he; exact he
 | some p =>
  rw [hs] at he
  obtain ⟨q, e1, e2, e3⟩ := he
  exact ⟨q, e1, e2, (ne q _ _ e3 h2).trans e3⟩
def failsR (p : Int) (s : RS) : RS := ⟨s.at_, match s.er with | none => some p | some q => some q⟩
def hasR (len n : Int) (s : RS) : RS := if len - s.at_ < n then failsR len s else s
theorem Rd.put {w0 W : World} {r : Nat} {A : Option Addr} {c : Nat} {l : List Int} {s : RS} {v x : Value} {y : Int} {cs : Array Value} (h : Rd w0 W r A c l s) (W1 : World) (hp : Put W W1 r cs 81) (s1 : RS) (hcs : cs = #[.slice A l.length c, .int .i64 s1.at_, x]) (he : ErV W w0.heap.size s1.er x) (h0 : 0 ≤ s1.at_) (h1 : s1.at_ ≤ (l.length : Int) + 4) (h2 : s1.er = none → s1.at_ ≤ (l.length : Int)) : Rd w0 W1 r A c l s1 ∧ W.grownBy W1 (some r) := by
 obtain ⟨v0, hb, _⟩ := h.blk
 subst hcs
 exact ⟨⟨hp.below h.low h.base, ⟨x, hp.blk, he.grown hb (put_grownN hp)⟩, h.base, h0, h1, h2⟩, put_grownN hp⟩
set_option maxHeartbeats 4000000 in
set_option maxRecDepth 100000 in
theorem fails.calls (w0 W : World) (r : Nat) (A : Option Addr) (c : Nat) (l : List Int) (s : RS) (h : Rd w0 W r A c l s) (p : Int) :
  Calls Tryd.prog 28 #[.pointer (some ⟨r, 0, none⟩), .int .i64 p] W fun e w' => e = .returned (.tuple #[]) ∧ Rd w0 w' r A c l (failsR p s) ∧ W.grownBy w' (some r) := by
 have hu1 := Tryd.underlying81
 have hu2 := Tryd.underlying92
 have H := Aside0.mk h
 obtain ⟨v, hb, he⟩ := h.blk
 have hc0 := (blk_cell hb 0).trans rfl
 have hc1 := (blk_cell hb 1).trans rfl
 have hc2 := (blk_cell hb 2).trans rfl
 have hf2 := blk_frozen hb 2
 have HB := Aside0.mk hb
 obtain ⟨at_, er⟩ := s
 cases er with
 | none =>
  obtain rfl : v = .nilIface := he
  clear h hb
  go_enter Tryd.func28, Tryd.ntmps28

  go_wp2_with (first | ((with_reducible refine gate_dst (N := 12) rfl ?_); refine box_event ?hg (N := 12) ?hd (cs := #[.int .i64 p]) (t := 92) ?hr ?_; (case hd => rfl); (case hg => rfl); (case hr => first | (go_simp; done) | (go_simp; rfl)); intro e_ he_ w1 BK_ hb_; have hR := H.out.below hb_; have HR := Aside0.mk hR; have HBK := Aside0.mk BK_; have HGW := Aside0.mk (And.intro (grown_below (k := some r) hb_) (show w0.heap.size ≤ e_ by rw [he_]; exact H.out.low.size)); have HB1 := Aside0.mk (blk_below HB.out hb_); have hd0 := (blk_cell HB1.out 0).trans rfl; have hd1 := (blk_cell HB1.out 1).trans rfl; have hd2 := (blk_cell HB1.out 2).trans rfl; have hg2 := blk_frozen HB1.out 2; clear hR BK_ hb_ hc0 hc1 hc2 hf2 he_))
  refine Go.Great.bodyPost_end0 rfl rfl ?_
  have hx := HR.out.put (v := .nilIface) (y := 0) (x := .iface 88 (.pointer (some ⟨e_, 0, none⟩))) _ (put_set (j := 2) (x := .iface 88 (.pointer (some ⟨e_, 0, none⟩))) HB1.out) ⟨at_, some p⟩ rfl ⟨e_, rfl, HGW.out.2, HBK.out⟩ H.out.at0 H.out.at1 (fun e => by cases e)
  exact ⟨rfl, hx.1, grown_trans HGW.out.1 hx.2⟩
 | some q =>
  obtain ⟨e, rfl, he1, he2⟩ := he
  clear h hb
  go_enter Tryd.func28, Tryd.ntmps28
  go_wp2
  refine Go.Great.bodyPost_end0 rfl rfl ?_
  exact ⟨rfl, H.out, grown_refl W _⟩
theorem failsR_er (p : Int) (s : RS) : ∃ q, (failsR p s).er = some q := by
 unfold failsR
 cases s.er with
 | none => exact ⟨_, rfl⟩
 | some q => exact ⟨q, rfl⟩
set_option maxHeartbeats 4000000 in
set_option maxRecDepth 100000 in
theorem has.calls (w0 W : World) (r : Nat) (A : Option Addr) (c : Nat) (l : List Int) (s : RS) (h : Rd w0 W r A c l s) (n : Int) (hl : l.length ≤ 1099511627776) :
  Calls Tryd.prog 71 #[.pointer (some ⟨r, 0, none⟩), .int .i64 n] W fun e w' => e = .returned (.bool (hasR l.length n s).er.isNone) ∧ Rd w0 w' r A c l (hasR l.length n s) ∧ W.grownBy w' (some r) := by
 have hu1 := Tryd.underlying81
 have H := Aside0.mk h
 obtain ⟨v, hb, he⟩ := h.blk
 have hc0 := (blk_cell hb 0).trans rfl
 have hc1 := (blk_cell hb 1).trans rfl
 have hc2 := (blk_cell hb 2).trans rfl
 have hwr : wrap64 ((l.length : Int) - s.at_) = (l.length : Int) - s.at_ := by have := h.at0; have := h.at1; rw [wrap64_id (by omega) (by omega)]
 by_cases hlt : (l.length : Int) - s.at_ < n
 ·
  have hd : decide (wrap64 ((l.length : Int) - s.at_) < n) = true := by rw [hwr]; exact decide_eq_true hlt
  have HF := Aside0.mk (show hasR l.length n s = failsR l.length s from if_pos hlt)
  clear hlt hwr h hb he hl
  go_enter Tryd.func71, Tryd.ntmps71
  go_wp2
  go_quiet (fail)
  go_wp2_with (go_at_call 28; refine (fails.calls w0 _ r A c l s (H.out.below (pw_below_drewN (Below.refl _ _) _)) l.length).mono ?_; rintro e_ w1 ⟨rfl, hr_, hg_⟩; have HR := Aside0.mk hr_; have HG := Aside0.mk hg_; obtain ⟨v1, hb1, he1⟩ := hr_.blk; obtain ⟨q, hq⟩ := failsR_er (l.length : Int) s; rw [hq] at he1; obtain ⟨ee, rfl, _, _⟩ := he1; have HQ := Aside0.mk hq; have hd2 := (blk_cell hb1 2).trans rfl; clear hr_ hg_ hb1 hq hc0 hc1 hc2)
  go_ret
  rw [HF.out, HQ.out]
  exact ⟨rfl, HR.out, grown_trans (grown_below (pw_below_drewN (Below.refl _ _) _)) HG.out⟩
 ·
  have hd : decide (wrap64 ((l.length : Int) - s.at_) < n) = false := by rw [hwr]; exact decide_eq_false hlt
  have HF := Aside0.mk (show hasR l.length n s = s from if_neg hlt)
  clear hlt hwr h hb hl
  cases hs : s.er with
  | none =>
   rw [hs] at he
   obtain rfl : v = .nilIface := he
   have HS := Aside0.mk hs
   clear hs
   go_enter Tryd.func71, Tryd.ntmps71
   go_wp2
   go_quiet (fail)
   go_wp2
   go_ret
   rw [HF.out, HS.out]
   exact ⟨rfl, H.out.below (pw_below_drewN (Below.refl _ _) _), grown_below (pw_below_drewN (Below.refl _ _) _)⟩
  | some q =>
   rw [hs] at he
   obtain ⟨ee, rfl, _, _⟩ := he
   have HS := Aside0.mk hs
   clear hs
   go_enter Tryd.func71, Tryd.ntmps71
   go_wp2
   go_quiet (fail)
   go_wp2
   go_ret
   rw [HF.out, HS.out]
   exact ⟨rfl, H.out.below (pw_below_drewN (Below.refl _ _) _), grown_below (pw_below_drewN (Below.refl _ _) _)⟩
def beV (l : List Int) : Int := l.foldl (fun a c => a * 256 + c) 0
theorem w64_zero : wrap64 0 = 0 := by rw [wrap64_id (by omega) (by omega)]
theorem rd_getR {l : List Int} {i : Nat} (h : i < l.length) : rd l (i : Int) = l[i] := by
 unfold rd
 rw [Int.toNat_natCast, List.getD_eq_getElem?_getD, List.getElem?_eq_getElem h]
 rfl
theorem beV_snoc (l : List Int) (c : Int) : beV (l ++ [c]) = beV l * 256 + c := by
 unfold beV
 rw [List.foldl_append]
 rfl
theorem beV_take (l : List Int) (i : Nat) (h : i < l.length) : beV (l.take (i + 1)) = beV (l.take i) * 256 + rd l (i : Int) := by
 rw [List.take_succ_eq_append_getElem h, beV_snoc, rd_getR h]
theorem beV_acc (l : List Int) (h : ∀ x ∈ l, 0 ≤ x ∧ x < 256) : ∀ a k : Int, 0 ≤ a → a < k → 0 ≤ l.foldl (fun a c => a * 256 + c) a ∧ l.foldl (fun a c => a * 256 + c) a < k * 256 ^ l.length := by
 induction l with
 | nil => intro a k h0 h1; exact ⟨h0, by simpa using h1⟩
 | cons c l ih =>
  intro a k h0 h1
  have hc := h c (List.mem_cons_self ..)
  have := ih (fun x hx => h x (List.mem_cons_of_mem _ hx)) (a * 256 + c) (k * 256) (by omega) (by omega)
  refine ⟨this.1, ?_⟩
  rw [List.length_cons, Int.pow_succ, Int.mul_comm (256 ^ l.length) 256, ← Int.mul_assoc]
  exact this.2
theorem beV_range (l : List Int) (h : ∀ x ∈ l, 0 ≤ x ∧ x < 256) : 0 ≤ beV l ∧ beV l < 256 ^ l.length := by
 have := beV_acc l h 0 1 (by decide) (by decide)
 rw [Int.one_mul] at this
 exact this
theorem u64_or {s c : Int} (h0 : 0 ≤ s) (h1 : s < 256 ^ 7) (c0 : 0 ≤ c) (c1 : c < 256) : Go.bits .or .u64 (IntKind.u64.wrap (s * 256)) (IntKind.u64.wrap c) = s * 256 + c := by
 have h1' : s < 72057594037927936 := h1
 rw [show IntKind.u64.wrap (s * 256) = s * 256 by rw [IntKind.wrap_u64]; omega, show IntKind.u64.wrap c = c by rw [IntKind.wrap_u64]; omega]
 exact Go.bits_join .u64 64 (by decide) (fun n a b => by rw [IntKind.wrap_u64]; omega) 8 (s * 256) c (by omega) (by omega) (by omega) c0 (by omega) (by omega)
def numR (l : List Int) (n : Nat) (s : RS) : Int × RS :=
 match s.er with
 | some _ => (0, s)
 | none => if (l.length : Int) - s.at_ < n then (0, ⟨s.at_, some (l.length : Int)⟩) else (beV ((l.take (s.at_.toNat + n)).drop s.at_.toNat), ⟨s.at_ + n, none⟩)
set_option maxHeartbeats 8000000 in
set_option maxRecDepth 100000 in
theorem num32.calls (w0 W : World) (r : Nat) (A : Option Addr) (c : Nat) (l : List Int) (s : RS) (h : Rd w0 W r A c l s) (hC : Kd.C (Kd.int .u8) w0 A l.length l) (hcc : l.length ≤ c) (hl : l.length ≤ 1099511627776) (hby : ∀ x ∈ l, 0 ≤ x ∧ x < 256) :
  Calls Tryd.prog 33 #[.pointer (some ⟨r, 0, none⟩), .int .i64 4] W fun e w' => e = .returned (.int .u32 ((numR l 4 s).1)) ∧ Rd w0 w' r A c l (numR l 4 s).2 ∧ W.grownBy w' (some r) := by
 have hu1 := Tryd.underlying81
 have hu2 := Tryd.underlying28
 have hu3 := Tryd.underlying5
 have H := Aside0.mk h
 have HL := Aside0.mk hl
 obtain ⟨v, hb, he⟩ := h.blk
 have hc0 := (blk_cell hb 0).trans rfl
 have hc1 := (blk_cell hb 1).trans rfl
 have hc2 := (blk_cell hb 2).trans rfl
 cases hs : s.er with
 | some q =>
  rw [hs] at he
  obtain ⟨ee, rfl, _, _⟩ := he
  have HS := Aside0.mk (show numR l 4 s = (0, s) by unfold numR; rw [hs])
  clear hs h hb hC hcc hby hl
  go_enter Tryd.func33, Tryd.ntmps33
  go_wp2
  go_ret
  rw [HS.out]
  exact ⟨(by first | rfl | (show Ending.returned (Value.int .i64 0) = Ending.returned (Value.int .i64 (wrap64 0)); rw [w64_zero])), H.out, grown_refl W _⟩
 | none =>
  rw [hs] at he
  obtain rfl : v = .nilIface := he
  by_cases hlt : (l.length : Int) - s.at_ < 4
  ·
   have HF := Aside0.mk (show hasR l.length 4 s = ⟨s.at_, some (l.length : Int)⟩ by unfold hasR failsR; rw [if_pos hlt, hs])
   have HFE := Aside0.mk (show (hasR l.length 4 s).er.isNone = false by rw [HF.out]; rfl)
   have HS := Aside0.mk (show numR l 4 s = (0, ⟨s.at_, some (l.length : Int)⟩) by unfold numR; rw [hs]; exact if_pos hlt)
   clear hs h hb hC hcc hby hl hlt
   go_enter Tryd.func33, Tryd.ntmps33
   go_wp2_with (first | (go_at_call 71; refine (has.calls w0 _ r A c l s H.out 4 HL.out).mono ?_; rintro e_ w1 ⟨rfl, hr_, hg_⟩; (try rw [HF.out] at hr_); (try rw [HFE.out]); have HR := Aside0.mk hr_; have HG := Aside0.mk hg_; obtain ⟨v1, hb1, he1⟩ := hr_.blk; skip; have HB1 := Aside0.mk hb1; have hd0 := (blk_cell hb1 0).trans rfl; have hd1 := (blk_cell hb1 1).trans rfl; have hd2 := (blk_cell hb1 2).trans rfl; have hg1 := blk_frozen hb1 1; clear hr_ hg_ hb1 hc0 hc1 hc2))
   go_ret
   rw [HS.out]
   exact ⟨(by first | rfl | (show Ending.returned (Value.int .i64 0) = Ending.returned (Value.int .i64 (wrap64 0)); rw [w64_zero])), HR.out, HG.out⟩
  ·
   have hle : s.at_ + 4 ≤ (l.length : Int) := by omega
   have HF := Aside0.mk (show hasR l.length 4 s = s by unfold hasR; rw [if_neg hlt])
   have HFE := Aside0.mk (show (hasR l.length 4 s).er.isNone = true by rw [HF.out, hs]; rfl)
   have HS := Aside0.mk (show numR l 4 s = (beV ((l.take (s.at_.toNat + 4)).drop s.at_.toNat), ⟨s.at_ + 4, none⟩) by unfold numR; rw [hs]; exact if_neg hlt)
   obtain ⟨m, hm⟩ : ∃ m : Nat, s.at_ = (m : Int) := ⟨s.at_.toNat, by have := h.at0; omega⟩
   have HM := Aside0.mk hm
   have HLE := Aside0.mk (show m + 4 ≤ l.length by omega)
   have hwv : wrap64 ((m : Int) + 4) = (m : Int) + 4 := by rw [wrap64_id (by omega) (by omega)]
   have HWV := Aside0.mk hwv
   have p1 : (m : Int) ≤ wrap64 ((m : Int) + 4) := by omega
   have p2 : wrap64 ((m : Int) + 4) ≤ (c : Int) := by omega
   have p3 : 0 ≤ wrap64 ((m : Int) + 4) := by omega
   have p0 : (0 : Int) ≤ (m : Int) := by omega
   have HC := Aside0.mk hC
   have HCC := Aside0.mk hcc
   have HBY := Aside0.mk hby
   have HSN := Aside0.mk hs
   rw [hm] at hc1
   clear hs h hb hC hcc hby hl hlt hle hwv
   go_enter Tryd.func33, Tryd.ntmps33
   go_upto_region 4 with ((go_at_call 71; refine (has.calls w0 _ r A c l s H.out 4 HL.out).mono ?_; rintro e_ w1 ⟨rfl, hr_, hg_⟩; (try rw [HF.out] at hr_); (try rw [HFE.out]); have HR := Aside0.mk hr_; have HG := Aside0.mk hg_; obtain ⟨v1, hb1, he1⟩ := hr_.blk; rw [HSN.out] at he1; obtain rfl : v1 = .nilIface := he1; rw [HM.out] at hb1; have HB1 := Aside0.mk hb1; have hd0 := (blk_cell hb1 0).trans rfl; have hd1 := (blk_cell hb1 1).trans rfl; have hd2 := (blk_cell hb1 2).trans rfl; have hg1 := blk_frozen hb1 1; clear hr_ hg_ hb1 hc0 hc1 hc2))
   go_quiet (fail)
   have HRQ := Aside0.mk (HR.out.below (pw_below_drewN (Below.refl _ _) nq))
   have HGQ := Aside0.mk (grown_trans HG.out (grown_below (k := some r) (pw_below_drewN (Below.refl _ _) nq)))
   generalize hwq : w1.drewN nq = wq at HRQ HGQ ⊢
   rw [show (wrap64 ((m : Int) + 4)).toNat - m = 4 by rw [HWV.out]; omega]
   obtain ⟨Az, hAz⟩ : ∃ Az, Az = (if c = m then A else Option.map (fun x : Addr => x.add m) A) := ⟨_, rfl⟩
   rw [← hAz]
   obtain ⟨xs, hxs⟩ : ∃ xs, xs = (l.take (m + 4)).drop m := ⟨_, rfl⟩
   have hxl : xs.length = 4 := by have := HLE.out; rw [hxs, List.length_drop, List.length_take]; omega
   have HCZ := Aside0.mk (show Kd.C (Kd.int .u8) w0 Az 4 xs by
    have hz := Kd.C_mid HC.out (show m ≤ m + 4 by omega) HLE.out HCC.out
    rw [← hxs, hxl, show m * (Kd.int IntKind.u8).sz = m from Nat.mul_one m, ← hAz] at hz
    exact hz)
   have HXB := Aside0.mk (show ∀ x ∈ xs, 0 ≤ x ∧ x < 256 by intro x hx; rw [hxs] at hx; exact HBY.out x (List.mem_of_mem_take (List.mem_of_mem_drop hx)))
   have HXL := Aside0.mk hxl
   have HXS := Aside0.mk hxs
   have HBQ := Aside0.mk (show Below w1.heap.size w1 wq by rw [← hwq]; exact pw_below_drewN (Below.refl _ _) nq)
   clear hAz hxs hxl hwq HC HBY HCC
   go_wp2
   go_loopw [5, 35] (fun u5 u35 wr => ∃ i : Nat, u35 = .int .i64 (i : Int) ∧ i ≤ 4 ∧ u5 = .int .u64 (beV (xs.take i)) ∧ wr = wq) (fun _ u35 _ => 4 - (intOf u35).toNat)
   case atStart => exact ⟨0, rfl, by omega, rfl, rfl⟩
   case round =>
    obtain ⟨i, rfl, hile, rfl, rfl⟩ := hrel
    by_cases hlt : i < 4
    ·
     have p0 : (0 : Int) ≤ (i : Int) := by omega
     have q0 : (i : Int) < (4 : Int) := by omega
     obtain ⟨ad, e0, h0⟩ := Kd.at_int HCZ.out (i : Int) p0 (by omega)
     subst e0
     rw [show ((i : Int)).toNat = i by omega] at h0
     replace h0 := pw_cell_below HRQ.out.low h0
     obtain ⟨cb, hcb⟩ : ∃ cb, cb = rd xs (i : Int) := ⟨_, rfl⟩
     obtain ⟨sb, hsb⟩ : ∃ sb, sb = beV (xs.take i) := ⟨_, rfl⟩
     rw [← hcb] at h0
     rw [← hsb]
     have HSB := Aside0.mk (And.intro hcb hsb)
     have hltb : decide ((i : Int) < (4 : Int)) = true := decide_eq_true q0
     have HLT := Aside0.mk hlt
     have HST := Aside0.mk (beV_take xs i (by have := HXL.out; omega))
     have HRG := Aside0.mk (beV_range (xs.take i) (fun x hx => HXB.out x (List.mem_of_mem_take hx)))
     have HTL := Aside0.mk (show (xs.take i).length ≤ 3 by rw [List.length_take]; omega)
     have HCB := Aside0.mk (show 0 ≤ cb ∧ cb < 256 by rw [hcb, rd_getR (by have := HXL.out; omega)]; exact HXB.out _ (List.getElem_mem _))
     clear hcb hsb
     clear hlt hile
     go_wp2
     go_roundw
     case measure => have hq := HLT.out; simp only [intOf]; omega
     case rel =>
      refine ⟨i + 1, rfl, by have := HLT.out; omega, ?_, by first | trivial | rfl⟩
      rw [HST.out, ← HSB.out.1, ← HSB.out.2]
      have h1 := HRG.out; rw [← HSB.out.2] at h1
      have h2 : sb < 256 ^ 7 := Int.lt_of_lt_of_le h1.2 (by have h3 := Nat.pow_le_pow_right (n := 256) (by decide) (show (xs.take i).length ≤ 7 from Nat.le_trans HTL.out (by decide)); exact_mod_cast h3)
      have h3 := HCB.out
      rw [u64_or h1.1 (by omega) h3.1 h3.2]
    ·
     have hi0 : i = 4 := by omega
     subst hi0
     have hltb : decide (((4 : Nat) : Int) < (4 : Int)) = false := by simp
     clear hlt hile
     rw [show xs.take 4 = xs from by rw [← HXL.out]; exact List.take_length]
     have HRG := Aside0.mk (beV_range xs HXB.out)
     obtain ⟨sb, hsb⟩ : ∃ sb, sb = beV xs := ⟨_, rfl⟩
     rw [← hsb]
     have HSB := Aside0.mk hsb
     clear hsb
     have HB2 := Aside0.mk (show _ = some _ from blk_below HB1.out (show Below w1.heap.size w1 wr from HBQ.out))
     have hd0 := (blk_cell HB2.out 0).trans rfl
     have hd1 := (blk_cell HB2.out 1).trans rfl
     have hd2 := (blk_cell HB2.out 2).trans rfl
     have hg1 := blk_frozen HB2.out 1
     go_wp2
     go_ret
     have hx := HRQ.out.put (v := .nilIface) (y := 0) (x := .nilIface) _ (put_set (j := 1) (x := .int .i64 (wrap64 ((m : Int) + 4))) HB2.out) ⟨s.at_ + 4, none⟩ (by rw [HWV.out, HM.out]; rfl) rfl (by have := HRQ.out.at0; show 0 ≤ s.at_ + 4; omega) (by have := HLE.out; have := HM.out; show s.at_ + 4 ≤ _; omega) (fun _ => by have := HLE.out; have := HM.out; show s.at_ + 4 ≤ _; omega)
     rw [HS.out]
     refine ⟨?_, hx.1, grown_trans HGQ.out hx.2⟩
     rw [HM.out, Int.toNat_natCast, ← HXS.out, ← HSB.out]
     show Ending.returned (Value.int .u32 (sb % 4294967296)) = Ending.returned (Value.int .u32 sb)
     have h1 := HRG.out
     rw [HXL.out, ← HSB.out] at h1
     rw [show sb % 4294967296 = sb by omega]
set_option maxHeartbeats 8000000 in
set_option maxRecDepth 100000 in
theorem num64.calls (w0 W : World) (r : Nat) (A : Option Addr) (c : Nat) (l : List Int) (s : RS) (h : Rd w0 W r A c l s) (hC : Kd.C (Kd.int .u8) w0 A l.length l) (hcc : l.length ≤ c) (hl : l.length ≤ 1099511627776) (hby : ∀ x ∈ l, 0 ≤ x ∧ x < 256) :
  Calls Tryd.prog 35 #[.pointer (some ⟨r, 0, none⟩), .int .i64 8] W fun e w' => e = .returned (.int .i64 (wrap64 (numR l 8 s).1)) ∧ Rd w0 w' r A c l (numR l 8 s).2 ∧ W.grownBy w' (some r) := by
 have hu1 := Tryd.underlying81
 have hu2 := Tryd.underlying28
 have hu3 := Tryd.underlying5
 have H := Aside0.mk h
 have HL := Aside0.mk hl
 obtain ⟨v, hb, he⟩ := h.blk
 have hc0 := (blk_cell hb 0).trans rfl
 have hc1 := (blk_cell hb 1).trans rfl
 have hc2 := (blk_cell hb 2).trans rfl
 cases hs : s.er with
 | some q =>
  rw [hs] at he
  obtain ⟨ee, rfl, _, _⟩ := he
  have HS := Aside0.mk (show numR l 8 s = (0, s) by unfold numR; rw [hs])
  clear hs h hb hC hcc hby hl
  go_enter Tryd.func35, Tryd.ntmps35
  go_wp2
  go_ret
  rw [HS.out]
  exact ⟨(by first | rfl | (show Ending.returned (Value.int .i64 0) = Ending.returned (Value.int .i64 (wrap64 0)); rw [w64_zero])), H.out, grown_refl W _⟩
 | none =>
  rw [hs] at he
  obtain rfl : v = .nilIface := he
  by_cases hlt : (l.length : Int) - s.at_ < 8
  ·
   have HF := Aside0.mk (show hasR l.length 8 s = ⟨s.at_, some (l.length : Int)⟩ by unfold hasR failsR; rw [if_pos hlt, hs])
   have HFE := Aside0.mk (show (hasR l.length 8 s).er.isNone = false by rw [HF.out]; rfl)
   have HS := Aside0.mk (show numR l 8 s = (0, ⟨s.at_, some (l.length : Int)⟩) by unfold numR; rw [hs]; exact if_pos hlt)
   clear hs h hb hC hcc hby hl hlt
   go_enter Tryd.func35, Tryd.ntmps35
   go_wp2_with (first | (go_at_call 71; refine (has.calls w0 _ r A c l s H.out 8 HL.out).mono ?_; rintro e_ w1 ⟨rfl, hr_, hg_⟩; (try rw [HF.out] at hr_); (try rw [HFE.out]); have HR := Aside0.mk hr_; have HG := Aside0.mk hg_; obtain ⟨v1, hb1, he1⟩ := hr_.blk; skip; have HB1 := Aside0.mk hb1; have hd0 := (blk_cell hb1 0).trans rfl; have hd1 := (blk_cell hb1 1).trans rfl; have hd2 := (blk_cell hb1 2).trans rfl; have hg1 := blk_frozen hb1 1; clear hr_ hg_ hb1 hc0 hc1 hc2))
   go_ret
   rw [HS.out]
   exact ⟨(by first | rfl | (show Ending.returned (Value.int .i64 0) = Ending.returned (Value.int .i64 (wrap64 0)); rw [w64_zero])), HR.out, HG.out⟩
  ·
   have hle : s.at_ + 8 ≤ (l.length : Int) := by omega
   have HF := Aside0.mk (show hasR l.length 8 s = s by unfold hasR; rw [if_neg hlt])
   have HFE := Aside0.mk (show (hasR l.length 8 s).er.isNone = true by rw [HF.out, hs]; rfl)
   have HS := Aside0.mk (show numR l 8 s = (beV ((l.take (s.at_.toNat + 8)).drop s.at_.toNat), ⟨s.at_ + 8, none⟩) by unfold numR; rw [hs]; exact if_neg hlt)
   obtain ⟨m, hm⟩ : ∃ m : Nat, s.at_ = (m : Int) := ⟨s.at_.toNat, by have := h.at0; omega⟩
   have HM := Aside0.mk hm
   have HLE := Aside0.mk (show m + 8 ≤ l.length by omega)
   have hwv : wrap64 ((m : Int) + 8) = (m : Int) + 8 := by rw [wrap64_id (by omega) (by omega)]
   have HWV := Aside0.mk hwv
   have p1 : (m : Int) ≤ wrap64 ((m : Int) + 8) := by omega
   have p2 : wrap64 ((m : Int) + 8) ≤ (c : Int) := by omega
   have p3 : 0 ≤ wrap64 ((m : Int) + 8) := by omega
   have p0 : (0 : Int) ≤ (m : Int) := by omega
   have HC := Aside0.mk hC
   have HCC := Aside0.mk hcc
   have HBY := Aside0.mk hby
   have HSN := Aside0.mk hs
   rw [hm] at hc1
   clear hs h hb hC hcc hby hl hlt hle hwv
   go_enter Tryd.func35, Tryd.ntmps35
   go_upto_region 4 with ((go_at_call 71; refine (has.calls w0 _ r A c l s H.out 8 HL.out).mono ?_; rintro e_ w1 ⟨rfl, hr_, hg_⟩; (try rw [HF.out] at hr_); (try rw [HFE.out]); have HR := Aside0.mk hr_; have HG := Aside0.mk hg_; obtain ⟨v1, hb1, he1⟩ := hr_.blk; rw [HSN.out] at he1; obtain rfl : v1 = .nilIface := he1; rw [HM.out] at hb1; have HB1 := Aside0.mk hb1; have hd0 := (blk_cell hb1 0).trans rfl; have hd1 := (blk_cell hb1 1).trans rfl; have hd2 := (blk_cell hb1 2).trans rfl; have hg1 := blk_frozen hb1 1; clear hr_ hg_ hb1 hc0 hc1 hc2))
   go_quiet (fail)
   have HRQ := Aside0.mk (HR.out.below (pw_below_drewN (Below.refl _ _) nq))
   have HGQ := Aside0.mk (grown_trans HG.out (grown_below (k := some r) (pw_below_drewN (Below.refl _ _) nq)))
   generalize hwq : w1.drewN nq = wq at HRQ HGQ ⊢
   rw [show (wrap64 ((m : Int) + 8)).toNat - m = 8 by rw [HWV.out]; omega]
   obtain ⟨Az, hAz⟩ : ∃ Az, Az = (if c = m then A else Option.map (fun x : Addr => x.add m) A) := ⟨_, rfl⟩
   rw [← hAz]
   obtain ⟨xs, hxs⟩ : ∃ xs, xs = (l.take (m + 8)).drop m := ⟨_, rfl⟩
   have hxl : xs.length = 8 := by have := HLE.out; rw [hxs, List.length_drop, List.length_take]; omega
   have HCZ := Aside0.mk (show Kd.C (Kd.int .u8) w0 Az 8 xs by
    have hz := Kd.C_mid HC.out (show m ≤ m + 8 by omega) HLE.out HCC.out
    rw [← hxs, hxl, show m * (Kd.int IntKind.u8).sz = m from Nat.mul_one m, ← hAz] at hz
    exact hz)
   have HXB := Aside0.mk (show ∀ x ∈ xs, 0 ≤ x ∧ x < 256 by intro x hx; rw [hxs] at hx; exact HBY.out x (List.mem_of_mem_take (List.mem_of_mem_drop hx)))
   have HXL := Aside0.mk hxl
   have HXS := Aside0.mk hxs
   have HBQ := Aside0.mk (show Below w1.heap.size w1 wq by rw [← hwq]; exact pw_below_drewN (Below.refl _ _) nq)
   clear hAz hxs hxl hwq HC HBY HCC
   go_wp2
   go_loopw [5, 35] (fun u5 u35 wr => ∃ i : Nat, u35 = .int .i64 (i : Int) ∧ i ≤ 8 ∧ u5 = .int .u64 (beV (xs.take i)) ∧ wr = wq) (fun _ u35 _ => 8 - (intOf u35).toNat)
   case atStart => exact ⟨0, rfl, by omega, rfl, rfl⟩
   case round =>
    obtain ⟨i, rfl, hile, rfl, rfl⟩ := hrel
    by_cases hlt : i < 8
    ·
     have p0 : (0 : Int) ≤ (i : Int) := by omega
     have q0 : (i : Int) < (8 : Int) := by omega
     obtain ⟨ad, e0, h0⟩ := Kd.at_int HCZ.out (i : Int) p0 (by omega)
     subst e0
     rw [show ((i : Int)).toNat = i by omega] at h0
     replace h0 := pw_cell_below HRQ.out.low h0
     obtain ⟨cb, hcb⟩ : ∃ cb, cb = rd xs (i : Int) := ⟨_, rfl⟩
     obtain ⟨sb, hsb⟩ : ∃ sb, sb = beV (xs.take i) := ⟨_, rfl⟩
     rw [← hcb] at h0
     rw [← hsb]
     have HSB := Aside0.mk (And.intro hcb hsb)
     have hltb : decide ((i : Int) < (8 : Int)) = true := decide_eq_true q0
     have HLT := Aside0.mk hlt
     have HST := Aside0.mk (beV_take xs i (by have := HXL.out; omega))
     have HRG := Aside0.mk (beV_range (xs.take i) (fun x hx => HXB.out x (List.mem_of_mem_take hx)))
     have HTL := Aside0.mk (show (xs.take i).length ≤ 7 by rw [List.length_take]; omega)
     have HCB := Aside0.mk (show 0 ≤ cb ∧ cb < 256 by rw [hcb, rd_getR (by have := HXL.out; omega)]; exact HXB.out _ (List.getElem_mem _))
     clear hcb hsb
     clear hlt hile
     go_wp2
     go_roundw
     case measure => have hq := HLT.out; simp only [intOf]; omega
     case rel =>
      refine ⟨i + 1, rfl, by have := HLT.out; omega, ?_, by first | trivial | rfl⟩
      rw [HST.out, ← HSB.out.1, ← HSB.out.2]
      have h1 := HRG.out; rw [← HSB.out.2] at h1
      have h2 : sb < 256 ^ 7 := Int.lt_of_lt_of_le h1.2 (by have h3 := Nat.pow_le_pow_right (n := 256) (by decide) (show (xs.take i).length ≤ 7 from Nat.le_trans HTL.out (by decide)); exact_mod_cast h3)
      have h3 := HCB.out
      rw [u64_or h1.1 (by omega) h3.1 h3.2]
    ·
     have hi0 : i = 8 := by omega
     subst hi0
     have hltb : decide (((8 : Nat) : Int) < (8 : Int)) = false := by simp
     clear hlt hile
     rw [show xs.take 8 = xs from by rw [← HXL.out]; exact List.take_length]
     have HRG := Aside0.mk (beV_range xs HXB.out)
     obtain ⟨sb, hsb⟩ : ∃ sb, sb = beV xs := ⟨_, rfl⟩
     rw [← hsb]
     have HSB := Aside0.mk hsb
     clear hsb
     have HB2 := Aside0.mk (show _ = some _ from blk_below HB1.out (show Below w1.heap.size w1 wr from HBQ.out))
     have hd0 := (blk_cell HB2.out 0).trans rfl
     have hd1 := (blk_cell HB2.out 1).trans rfl
     have hd2 := (blk_cell HB2.out 2).trans rfl
     have hg1 := blk_frozen HB2.out 1
     go_wp2
     go_ret
     have hx := HRQ.out.put (v := .nilIface) (y := 0) (x := .nilIface) _ (put_set (j := 1) (x := .int .i64 (wrap64 ((m : Int) + 8))) HB2.out) ⟨s.at_ + 8, none⟩ (by rw [HWV.out, HM.out]; rfl) rfl (by have := HRQ.out.at0; show 0 ≤ s.at_ + 8; omega) (by have := HLE.out; have := HM.out; show s.at_ + 8 ≤ _; omega) (fun _ => by have := HLE.out; have := HM.out; show s.at_ + 8 ≤ _; omega)
     rw [HS.out]
     refine ⟨?_, hx.1, grown_trans HGQ.out hx.2⟩
     rw [HM.out, Int.toNat_natCast, ← HXS.out, ← HSB.out]
     first | rfl | (rw [← i64_w]; rfl)
theorem numR_range (l : List Int) (n : Nat) (s : RS) (hby : ∀ x ∈ l, 0 ≤ x ∧ x < 256) : 0 ≤ (numR l n s).1 ∧ (numR l n s).1 < 256 ^ n := by
 have hp : (0 : Int) < 256 ^ n := Int.pow_pos (by decide)
 unfold numR
 cases s.er with
 | some q => exact ⟨Int.le_refl _, hp⟩
 | none =>
  by_cases hlt : (l.length : Int) - s.at_ < n
  ·
   show 0 ≤ (if (l.length : Int) - s.at_ < n then ((0 : Int), _) else _ : Int × RS).1 ∧ (if (l.length : Int) - s.at_ < n then ((0 : Int), _) else _ : Int × RS).1 < _
   rw [if_pos hlt]
   exact ⟨Int.le_refl _, hp⟩
  ·
   show 0 ≤ (if (l.length : Int) - s.at_ < n then ((0 : Int), _) else _ : Int × RS).1 ∧ (if (l.length : Int) - s.at_ < n then ((0 : Int), _) else _ : Int × RS).1 < _
   rw [if_neg hlt]
   have h1 := beV_range ((l.take (s.at_.toNat + n)).drop s.at_.toNat) (fun x hx => hby x (List.mem_of_mem_take (List.mem_of_mem_drop hx)))
   refine ⟨h1.1, Int.lt_of_lt_of_le h1.2 ?_⟩
   have h3 := Nat.pow_le_pow_right (n := 256) (by decide) (show ((l.take (s.at_.toNat + n)).drop s.at_.toNat).length ≤ n by rw [List.length_drop, List.length_take]; omega)
   rw [show (256 : Int) = ((256 : Nat) : Int) from rfl, ← Int.natCast_pow, ← Int.natCast_pow]
   exact Int.ofNat_le.2 h3
def countR (l : List Int) (lim : Int) (s : RS) : Int × RS :=
 if (numR l 4 s).1 > lim then (0, failsR s.at_ (numR l 4 s).2) else match (numR l 4 s).2.er with | none => ((numR l 4 s).1, (numR l 4 s).2) | some _ => (0, (numR l 4 s).2)
set_option maxHeartbeats 8000000 in
set_option maxRecDepth 100000 in
theorem count.calls (w0 W : World) (r : Nat) (A : Option Addr) (c : Nat) (l : List Int) (s : RS) (h : Rd w0 W r A c l s) (hC : Kd.C (Kd.int .u8) w0 A l.length l) (hcc : l.length ≤ c) (hl : l.length ≤ 1099511627776) (hby : ∀ x ∈ l, 0 ≤ x ∧ x < 256) (lim : Int) :
  Calls Tryd.prog 31 #[.pointer (some ⟨r, 0, none⟩), .int .i64 lim] W fun e w' => e = .returned (.int .i64 (countR l lim s).1) ∧ Rd w0 w' r A c l (countR l lim s).2 ∧ W.grownBy w' (some r) := by
 have hu1 := Tryd.underlying81
 have H := Aside0.mk h
 have HH := Aside0.mk (And.intro hC (And.intro hcc (And.intro hl hby)))
 obtain ⟨v, hb, he⟩ := h.blk
 have hc0 := (blk_cell hb 0).trans rfl
 have hc1 := (blk_cell hb 1).trans rfl
 have hc2 := (blk_cell hb 2).trans rfl
 have hrg := numR_range l 4 s hby
 clear h hb he hC hcc hl hby
 obtain ⟨nv, hnv⟩ : ∃ nv, nv = (numR l 4 s).1 := ⟨_, rfl⟩
 obtain ⟨s1, hs1⟩ : ∃ s1, s1 = (numR l 4 s).2 := ⟨_, rfl⟩
 have HN := Aside0.mk hnv
 have HS := Aside0.mk hs1
 rw [← hnv] at hrg
 have h256 : (256 : Int) ^ 4 = 4294967296 := by decide
 rw [h256] at hrg
 have hwr : wrap64 nv = nv := by rw [wrap64_id (by omega) (by omega)]
 have HWR := Aside0.mk hwr
 by_cases hgt : nv > lim
 ·
  have hd : decide (wrap64 nv > lim) = true := by rw [hwr]; exact decide_eq_true hgt
  have HF := Aside0.mk (show countR l lim s = (0, failsR s.at_ s1) by unfold countR; rw [← hnv, ← hs1, if_pos hgt])
  clear hgt hwr hrg hnv hs1 h256
  go_enter Tryd.func31, Tryd.ntmps31
  go_wp2_with (first | (go_at_call 33; refine (num32.calls w0 _ r A c l s H.out HH.out.1 HH.out.2.1 HH.out.2.2.1 HH.out.2.2.2).mono ?_; rw [← HN.out, ← HS.out]; rintro e_ w1 ⟨rfl, hr_, hg_⟩; have HR := Aside0.mk hr_; have HG := Aside0.mk hg_; obtain ⟨v1, hb1, he1⟩ := hr_.blk; skip; have hd0 := (blk_cell hb1 0).trans rfl; have hd1 := (blk_cell hb1 1).trans rfl; have hd2 := (blk_cell hb1 2).trans rfl; have hg1 := blk_frozen hb1 1; have HB1 := Aside0.mk hb1; clear hr_ hg_ hb1 hc0 hc1 hc2) | (go_at_call 28; refine (fails.calls w0 _ r A c l s1 HR.out s.at_).mono ?_; rintro e_ w2 ⟨rfl, hr_, hg_⟩; have HR2 := Aside0.mk hr_; have HG2 := Aside0.mk hg_; obtain ⟨v2, hb2, he2⟩ := hr_.blk; obtain ⟨q, hq⟩ := failsR_er s.at_ s1; rw [hq] at he2; obtain ⟨ee, rfl, _, _⟩ := he2; have hz2 := (blk_cell hb2 2).trans rfl; clear hr_ hg_ hb2 hq hd0 hd1 hd2))
  go_ret
  rw [HF.out]
  exact ⟨rfl, HR2.out, grown_trans HG.out HG2.out⟩
 ·
  have hd : decide (wrap64 nv > lim) = false := by rw [hwr]; exact decide_eq_false hgt
  cases he1s : s1.er with
  | none =>
   have HE1 := Aside0.mk he1s
   have HF := Aside0.mk (show countR l lim s = (nv, s1) by unfold countR; rw [← hnv, ← hs1, if_neg hgt, he1s])
   clear hgt hwr hrg hnv hs1 h256 he1s
   go_enter Tryd.func31, Tryd.ntmps31
   go_wp2_with (first | (go_at_call 33; refine (num32.calls w0 _ r A c l s H.out HH.out.1 HH.out.2.1 HH.out.2.2.1 HH.out.2.2.2).mono ?_; rw [← HN.out, ← HS.out]; rintro e_ w1 ⟨rfl, hr_, hg_⟩; have HR := Aside0.mk hr_; have HG := Aside0.mk hg_; obtain ⟨v1, hb1, he1⟩ := hr_.blk; rw [HE1.out] at he1; obtain rfl : v1 = .nilIface := he1; have hd0 := (blk_cell hb1 0).trans rfl; have hd1 := (blk_cell hb1 1).trans rfl; have hd2 := (blk_cell hb1 2).trans rfl; have hg1 := blk_frozen hb1 1; have HB1 := Aside0.mk hb1; clear hr_ hg_ hb1 hc0 hc1 hc2))
   go_ret
   rw [HF.out]
   refine ⟨?_, HR.out, HG.out⟩
   show Ending.returned (Value.int .i64 (wrap64 nv)) = Ending.returned (Value.int .i64 nv)
   rw [HWR.out]
  | some q =>
   have HE1 := Aside0.mk he1s
   have HF := Aside0.mk (show countR l lim s = (0, s1) by unfold countR; rw [← hnv, ← hs1, if_neg hgt, he1s])
   clear hgt hwr hrg hnv hs1 h256 he1s
   go_enter Tryd.func31, Tryd.ntmps31
   go_wp2_with (first | (go_at_call 33; refine (num32.calls w0 _ r A c l s H.out HH.out.1 HH.out.2.1 HH.out.2.2.1 HH.out.2.2.2).mono ?_; rw [← HN.out, ← HS.out]; rintro e_ w1 ⟨rfl, hr_, hg_⟩; have HR := Aside0.mk hr_; have HG := Aside0.mk hg_; obtain ⟨v1, hb1, he1⟩ := hr_.blk; rw [HE1.out] at he1; obtain ⟨ee, rfl, _, _⟩ := he1; have hd0 := (blk_cell hb1 0).trans rfl; have hd1 := (blk_cell hb1 1).trans rfl; have hd2 := (blk_cell hb1 2).trans rfl; have hg1 := blk_frozen hb1 1; have HB1 := Aside0.mk hb1; clear hr_ hg_ hb1 hc0 hc1 hc2))
   go_ret
   rw [HF.out]
   exact ⟨rfl, HR.out, HG.out⟩
end Go.Proofs.YtiaohbbafaaibabDoor.P

/- OWN TEXT: wire's reader, walked: text, each. -/
namespace Go.Proofs.YtiaohbbafaaibabDoor.P
open Go.RowKit Go.Proofs.YtiaohbbafaaibabDoorW.PrintWords Go.Proofs.YtiaohbbafaaibabDoorW.PrintLast Go.Proofs.YtiaohbbafaaibabDoorW.PrintMore Go.Proofs.YtiaohbbafaaibabDoor.Arr
set_option linter.unusedVariables false
set_option linter.unusedSimpArgs false
theorem conv_str {w : World} {A : Option Addr} {xs : List Int} {n c : Nat} (hC : Kd.C (Kd.int .u8) w A n xs) (hn : xs.length = n) : (convert 28 9 (.slice A n c)).run Tryd.prog w = .ok (.string (strOfNums xs)) w := by
 subst hn
 cases A with
 | none =>
  have h0 : xs = [] := by
   cases xs with
   | nil => rfl
   | cons x xs =>
    obtain ⟨ad, e, _⟩ := Kd.at_int hC 0 (by omega) (show (0 : Int) < ((x :: xs).length : Int) by simp only [List.length_cons]; omega)
    cases e
  subst h0
  exact run_convert_bytes_nil w 28 5 Tryd.underlying28 Tryd.underlying5 _ c 9 Tryd.underlying9
 | some ad =>
  rw [run_convert_bytes_string w 28 9 5 (some ad) xs.length c Tryd.underlying28 Tryd.underlying5 Tryd.underlying9]
  have hl : (loadCells ad xs.length).run Tryd.prog w = .ok (xs.map (Value.int .u8)).toArray w := by
   have := run_loadCells_list (P := Tryd.prog) w ad (xs.map (Value.int .u8)) (fun j v hj => by
    have hjl : j < xs.length := by
     have := (List.getElem?_eq_some_iff.1 hj).1
     simpa using this
    obtain ⟨ad', e, hx⟩ := Kd.at_int hC (j : Int) (by omega) (by omega)
    obtain rfl := Option.some.inj e
    rw [Int.toNat_natCast, rd_getR hjl] at hx
    rw [hx]
    simp [List.getElem?_eq_getElem hjl] at hj
    rw [hj])
   simpa using this
  rw [run_bytesToString w ad xs.length c xs hl, foldl_push_bytes]
  simp [strOfNums, ByteArray.empty, ByteArray.emptyWithCapacity]
  rfl
theorem countR_range (l : List Int) (lim : Int) (s : RS) (hby : ∀ x ∈ l, 0 ≤ x ∧ x < 256) (h0 : 0 ≤ lim) : 0 ≤ (countR l lim s).1 ∧ (countR l lim s).1 ≤ lim := by
 unfold countR
 by_cases hgt : (numR l 4 s).1 > lim
 ·
  rw [if_pos hgt]
  exact ⟨Int.le_refl _, h0⟩
 ·
  rw [if_neg hgt]
  cases (numR l 4 s).2.er with
  | none => exact ⟨(numR_range l 4 s hby).1, by show (numR l 4 s).1 ≤ lim; omega⟩
  | some q => exact ⟨Int.le_refl _, h0⟩
def textR (l : List Int) (s : RS) : ByteArray × RS :=
 match (hasR l.length (countR l 24 s).1 (countR l 24 s).2).er with
 | some _ => (⟨#[]⟩, hasR l.length (countR l 24 s).1 (countR l 24 s).2)
 | none => (strOfNums ((l.take ((countR l 24 s).2.at_.toNat + (countR l 24 s).1.toNat)).drop (countR l 24 s).2.at_.toNat), ⟨(countR l 24 s).2.at_ + (countR l 24 s).1, none⟩)
set_option maxHeartbeats 8000000 in
set_option maxRecDepth 100000 in
theorem rtext.calls (w0 W : World) (r : Nat) (A : Option Addr) (c : Nat) (l : List Int) (s : RS) (h : Rd w0 W r A c l s) (hC : Kd.C (Kd.int .u8) w0 A l.length l) (hcc : l.length ≤ c) (hl : l.length ≤ 1099511627776) (hby : ∀ x ∈ l, 0 ≤ x ∧ x < 256) :
  Calls Tryd.prog 29 #[.pointer (some ⟨r, 0, none⟩)] W fun e w' => e = .returned (.string (textR l s).1) ∧ Rd w0 w' r A c l (textR l s).2 ∧ W.grownBy w' (some r) := by
 have hu1 := Tryd.underlying81
 have hu2 := Tryd.underlying28
 have hu3 := Tryd.underlying5
 have hu4 := Tryd.underlying9
 have H := Aside0.mk h
 have HH := Aside0.mk (And.intro hC (And.intro hcc (And.intro hl hby)))
 obtain ⟨v, hb, he⟩ := h.blk
 have hrg := countR_range l 24 s hby (by decide)
 clear h hb he hC hcc hl hby
 obtain ⟨nv, hnv⟩ : ∃ nv, nv = (countR l 24 s).1 := ⟨_, rfl⟩
 obtain ⟨s1, hs1⟩ : ∃ s1, s1 = (countR l 24 s).2 := ⟨_, rfl⟩
 have HN := Aside0.mk hnv
 have HS := Aside0.mk hs1
 rw [← hnv] at hrg
 have HRG := Aside0.mk hrg
 clear hrg
 cases hh : (hasR l.length nv s1).er with
 | some q =>
  have HF := Aside0.mk (show textR l s = (⟨#[]⟩, hasR l.length nv s1) by unfold textR; rw [← hnv, ← hs1, hh])
  have HB := Aside0.mk (show (hasR l.length nv s1).er.isNone = false by rw [hh]; rfl)
  clear hnv hs1 hh
  go_enter Tryd.func29, Tryd.ntmps29
  go_wp2_with (first | (go_at_call 31; refine (count.calls w0 _ r A c l s H.out HH.out.1 HH.out.2.1 HH.out.2.2.1 HH.out.2.2.2 24).mono ?_; rw [← HN.out, ← HS.out]; rintro e_ w1 ⟨rfl, hr_, hg_⟩; have HR := Aside0.mk hr_; have HG := Aside0.mk hg_; clear hr_ hg_) | (go_at_call 71; refine (has.calls w0 _ r A c l s1 HR.out nv HH.out.2.2.1).mono ?_; rw [HB.out]; rintro e_ w2 ⟨rfl, hr_, hg_⟩; have HR2 := Aside0.mk hr_; have HG2 := Aside0.mk (grown_trans HG.out hg_); clear hr_ hg_))
  go_ret
  rw [HF.out]
  exact ⟨rfl, HR2.out, HG2.out⟩
 | none =>
  have hge : ¬ ((l.length : Int) - s1.at_ < nv) := fun h => by
   unfold hasR at hh
   rw [if_pos h] at hh
   obtain ⟨q, hq⟩ := failsR_er (l.length : Int) s1
   rw [hq] at hh
   cases hh
  have hhs : hasR l.length nv s1 = s1 := if_neg hge
  have HF := Aside0.mk (show textR l s = (strOfNums ((l.take (s1.at_.toNat + nv.toNat)).drop s1.at_.toNat), ⟨s1.at_ + nv, none⟩) by unfold textR; rw [← hnv, ← hs1, hh])
  have HB := Aside0.mk (show (hasR l.length nv s1).er.isNone = true by rw [hh]; rfl)
  rw [hhs] at hh
  have HE := Aside0.mk hh
  have HHS := Aside0.mk hhs
  have HGE := Aside0.mk hge
  clear hnv hs1 hh hge hhs
  obtain ⟨kn, rfl⟩ : ∃ kn : Nat, nv = (kn : Int) := ⟨nv.toNat, by have := HRG.out; omega⟩
  go_enter Tryd.func29, Tryd.ntmps29
  go_upto_region 5 with (first | (go_at_call 31; refine (count.calls w0 _ r A c l s H.out HH.out.1 HH.out.2.1 HH.out.2.2.1 HH.out.2.2.2 24).mono ?_; rw [← HN.out, ← HS.out]; rintro e_ w1 ⟨rfl, hr_, hg_⟩; have HR := Aside0.mk hr_; have HG := Aside0.mk hg_; clear hr_ hg_) | (go_at_call 71; refine (has.calls w0 _ r A c l s1 HR.out (kn : Int) HH.out.2.2.1).mono ?_; rw [HB.out]; rintro e_ w2 ⟨rfl, hr_, hg_⟩; have HR2 := Aside0.mk hr_; have HG2 := Aside0.mk (grown_trans HG.out hg_); rw [HHS.out] at hr_; clear HR2; have HR2 := Aside0.mk hr_; obtain ⟨v1, hb1, he1⟩ := hr_.blk; rw [HE.out] at he1; obtain rfl : v1 = .nilIface := he1; obtain ⟨m, hm⟩ : ∃ m : Nat, s1.at_ = (m : Int) := ⟨s1.at_.toNat, by have := hr_.at0; omega⟩; rw [hm] at hb1; have HM := Aside0.mk hm; have HB1 := Aside0.mk hb1; have hd0 := (blk_cell hb1 0).trans rfl; have hd1 := (blk_cell hb1 1).trans rfl; have hg1 := blk_frozen hb1 1; clear hb1 hm; clear hr_ hg_))
  have HMX := Aside0.mk (show m + kn ≤ l.length by have := HGE.out; have := HM.out; omega)
  have HWV := Aside0.mk (show wrap64 ((m : Int) + (kn : Int)) = ((m + kn : Nat) : Int) by rw [wrap64_id (by have := HMX.out; have := HH.out.2.2.1; omega) (by have := HMX.out; have := HH.out.2.2.1; omega)]; omega)
  have HWL := Aside0.mk (show wrap64 (((m + kn : Nat) : Int) - (kn : Int)) = (m : Int) by rw [wrap64_id (by omega) (by have := HMX.out; have := HH.out.2.2.1; omega)]; omega)
  have hx := HR2.out.put (v := .nilIface) (y := 0) (x := .nilIface) _ (put_set (j := 1) (x := .int .i64 (wrap64 ((m : Int) + (kn : Int)))) HB1.out) ⟨s1.at_ + kn, none⟩ (by rw [HWV.out, HM.out]; rfl) rfl (by have := HR2.out.at0; show 0 ≤ s1.at_ + kn; omega) (by have := HMX.out; have := HM.out; show s1.at_ + kn ≤ _; omega) (fun _ => by have := HMX.out; have := HM.out; show s1.at_ + kn ≤ _; omega)
  generalize hws : w2.setCell ⟨r, 1, none⟩ (.int .i64 (wrap64 ((m : Int) + (kn : Int)))) = ws at hx ⊢
  clear hd0 hd1 hg1 hws
  have HX := Aside0.mk hx
  obtain ⟨v2, hb2, _⟩ := hx.1.blk
  have hz0 := (blk_cell hb2 0).trans rfl
  have hz1 : _ = some (Value.int .i64 ((m + kn : Nat) : Int)) := (blk_cell hb2 1).trans (by show some (Value.int .i64 (s1.at_ + kn)) = _; rw [HM.out]; rfl)
  clear hb2 hx
  obtain ⟨xs, hxs⟩ : ∃ xs, xs = (l.take (m + kn)).drop m := ⟨_, rfl⟩
  have hxl : xs.length = kn := by have := HMX.out; rw [hxs, List.length_drop, List.length_take]; omega
  have hcz : Kd.C (Kd.int .u8) w0 (if c = m then A else Option.map (fun x : Addr => x.add m) A) kn xs := by
   have hz := Kd.C_mid HH.out.1 (show m ≤ m + kn by omega) HMX.out HH.out.2.1
   rw [← hxs, hxl, show m * (Kd.int IntKind.u8).sz = m from Nat.mul_one m] at hz
   exact hz
  have hcv : ∀ q, (convert 28 9 (.slice (if c = m then A else Option.map (fun x : Addr => x.add m) A) kn (c - m))).run Tryd.prog (ws.drewN q) = .ok (.string (strOfNums xs)) (ws.drewN q) := fun q => conv_str (Kd.C_below hcz (pw_below_drewN HX.out.1.low q)) hxl
  have HXS := Aside0.mk hxs
  have hwm : IntKind.i64.wrap (m : Int) = (m : Int) := by have := HMX.out; have := HH.out.2.2.1; rw [i64_w, wrap64_id (by omega) (by omega)]
  have p1 : (m : Int) ≤ (m : Int) + (kn : Int) := by omega
  have p2 : (m : Int) + (kn : Int) ≤ (c : Int) := by have := HMX.out; have := HH.out.2.1; omega
  have p3 : (0 : Int) ≤ (m : Int) + (kn : Int) := by omega
  have p4 : ((m : Int) + (kn : Int)).toNat - m = kn := by omega
  clear hcz hxs hxl
  go_quiet (fail)
  clear hcv hwm p1 p2 p3 p4
  generalize (if c = m then A else Option.map (fun x : Addr => x.add m) A) = Az
  go_wp2
  go_ret
  rw [HF.out]
  refine ⟨?_, HX.out.1.below (pw_below_drewN (Below.refl _ _) _), grown_trans HG2.out (grown_trans HX.out.2 (grown_below (pw_below_drewN (Below.refl _ _) _)))⟩
  show Ending.returned (Value.string (strOfNums xs)) = _
  rw [HXS.out, HM.out, Int.toNat_natCast, Int.toNat_natCast]
def eachR {α : Type} (f : α → α) (rs : α → RS) : Nat → α → α
 | 0, a => a
 | n + 1, a => if (rs a).er.isNone = true then eachR f rs n (f a) else a
theorem eachR_go {α : Type} (f : α → α) (rs : α → RS) (n : Nat) {a : α} (h : (rs a).er = none) : eachR f rs (n + 1) a = eachR f rs n (f a) := by
 show (if (rs a).er.isNone = true then eachR f rs n (f a) else a) = _
 rw [h]
 rfl
theorem eachR_stop {α : Type} (f : α → α) (rs : α → RS) (n : Nat) {a : α} {q : Int} (h : (rs a).er = some q) : eachR f rs n a = a := by
 cases n with
 | zero => rfl
 | succ n =>
  show (if (rs a).er.isNone = true then eachR f rs n (f a) else a) = _
  rw [h]
  rfl
set_option maxHeartbeats 8000000 in
set_option maxRecDepth 100000 in
theorem each1.calls {α : Type} (I : Nat → α → World → Prop) (rs : α → RS) (f : α → α) (w0 : World) (r : Nat) (A : Option Addr) (c : Nat) (l : List Int) (hI : ∀ j a W, I j a W → Rd w0 W r A c l (rs a)) (caps : Array Value)
  (hf : ∀ j a W, I (j + 1) a W → (rs a).er = none → Calls Tryd.prog 32 caps W fun e w' => e = .returned (.tuple #[]) ∧ I j (f a) w') (a : α) (W : World) (n : Nat) (hW : I n a W) (hn : n ≤ 9223372036854775806) :
  Calls Tryd.prog 30 #[.pointer (some ⟨r, 0, none⟩), .int .i64 (n : Int), .func (.func 32) #[] caps] W fun e w' => e = .returned (.tuple #[]) ∧ ∃ j, I j (eachR f rs n a) w' := by
 have hu1 := Tryd.underlying81
 have HW := Aside0.mk hW
 have HI := Aside0.mk hI
 have HF := Aside0.mk hf
 have HN := Aside0.mk hn
 clear hW hI hf hn
 go_enter Tryd.func30, Tryd.ntmps30
 go_wp2
 go_loopw [1] (fun u1 wr => ∃ (m : Nat) (b : α), u1 = .int .i64 (m : Int) ∧ m ≤ n ∧ Aside0 (I m b wr) ∧ Aside0 (eachR f rs m b = eachR f rs n a)) (fun u1 _ => (intOf u1).toNat)
 case atStart => exact ⟨n, a, rfl, Nat.le_refl _, HW, ⟨rfl⟩⟩
 case round =>
  clear HW
  obtain ⟨m, b, rfl, hmn, HB, HE⟩ := hrel
  have HR := Aside0.mk (HI.out m b wr HB.out)
  obtain ⟨v, hb, he⟩ := HR.out.blk
  have hc2 := (blk_cell hb 2).trans rfl
  clear hb
  cases m with
  | zero =>
   have hm0 : decide (((0 : Nat) : Int) > 0) = false := by simp
   clear he hmn
   go_wp2
   refine Go.Great.bodyPost_end0 rfl rfl ?_
   have hE := HE.out
   exact ⟨rfl, 0, by rw [← hE]; exact HB.out⟩
  | succ m =>
   have hm0 : decide (((m + 1 : Nat) : Int) > 0) = true := decide_eq_true (by omega)
   have HMN := Aside0.mk hmn
   clear hmn
   cases hs : (rs b).er with
   | some q =>
    rw [hs] at he
    obtain ⟨ee, rfl, _, _⟩ := he
    have HEE := Aside0.mk (show eachR f rs n a = b by rw [← HE.out]; exact eachR_stop f rs _ hs)
    clear hs
    go_wp2
    refine Go.Great.bodyPost_end0 rfl rfl ?_
    exact ⟨rfl, m + 1, by rw [HEE.out]; exact HB.out⟩
   | none =>
    rw [hs] at he
    obtain rfl : v = .nilIface := he
    have HEE := Aside0.mk (show eachR f rs m (f b) = eachR f rs n a by rw [← HE.out]; exact (eachR_go f rs m hs).symm)
    have HS := Aside0.mk hs
    have HWR := Aside0.mk (show wrap64 (m : Int) = (m : Int) by rw [wrap64_id (by omega) (by have := HMN.out; have := HN.out; omega)])
    clear hs
    go_wp2_with (go_at_call 32; refine (HF.out m b _ HB.out HS.out).mono ?_; rintro e_ w1 ⟨rfl, hi_⟩; have HB1 := Aside0.mk hi_; clear hi_ hc2)
    go_roundw
    case measure => (try rw [HWR.out]); simp only [intOf]; omega
    case rel => exact ⟨m, f b, by first | rfl | (rw [HWR.out]; done), by have := HMN.out; omega, HB1, HEE⟩
set_option maxHeartbeats 8000000 in
set_option maxRecDepth 100000 in
theorem each2.calls {α : Type} (I : Nat → α → World → Prop) (rs : α → RS) (f : α → α) (w0 : World) (r : Nat) (A : Option Addr) (c : Nat) (l : List Int) (hI : ∀ j a W, I j a W → Rd w0 W r A c l (rs a)) (caps : Array Value)
  (hf : ∀ j a W, I (j + 1) a W → (rs a).er = none → Calls Tryd.prog 34 caps W fun e w' => e = .returned (.tuple #[]) ∧ I j (f a) w') (a : α) (W : World) (n : Nat) (hW : I n a W) (hn : n ≤ 9223372036854775806) :
  Calls Tryd.prog 30 #[.pointer (some ⟨r, 0, none⟩), .int .i64 (n : Int), .func (.func 34) #[] caps] W fun e w' => e = .returned (.tuple #[]) ∧ ∃ j, I j (eachR f rs n a) w' := by
 have hu1 := Tryd.underlying81
 have HW := Aside0.mk hW
 have HI := Aside0.mk hI
 have HF := Aside0.mk hf
 have HN := Aside0.mk hn
 clear hW hI hf hn
 go_enter Tryd.func30, Tryd.ntmps30
 go_wp2
 go_loopw [1] (fun u1 wr => ∃ (m : Nat) (b : α), u1 = .int .i64 (m : Int) ∧ m ≤ n ∧ Aside0 (I m b wr) ∧ Aside0 (eachR f rs m b = eachR f rs n a)) (fun u1 _ => (intOf u1).toNat)
 case atStart => exact ⟨n, a, rfl, Nat.le_refl _, HW, ⟨rfl⟩⟩
 case round =>
  clear HW
  obtain ⟨m, b, rfl, hmn, HB, HE⟩ := hrel
  have HR := Aside0.mk (HI.out m b wr HB.out)
  obtain ⟨v, hb, he⟩ := HR.out.blk
  have hc2 := (blk_cell hb 2).trans rfl
  clear hb
  cases m with
  | zero =>
   have hm0 : decide (((0 : Nat) : Int) > 0) = false := by simp
   clear he hmn
   go_wp2
   refine Go.Great.bodyPost_end0 rfl rfl ?_
   have hE := HE.out
   exact ⟨rfl, 0, by rw [← hE]; exact HB.out⟩
  | succ m =>
   have hm0 : decide (((m + 1 : Nat) : Int) > 0) = true := decide_eq_true (by omega)
   have HMN := Aside0.mk hmn
   clear hmn
   cases hs : (rs b).er with
   | some q =>
    rw [hs] at he
    obtain ⟨ee, rfl, _, _⟩ := he
    have HEE := Aside0.mk (show eachR f rs n a = b by rw [← HE.out]; exact eachR_stop f rs _ hs)
    clear hs
    go_wp2
    refine Go.Great.bodyPost_end0 rfl rfl ?_
    exact ⟨rfl, m + 1, by rw [HEE.out]; exact HB.out⟩
   | none =>
    rw [hs] at he
    obtain rfl : v = .nilIface := he
    have HEE := Aside0.mk (show eachR f rs m (f b) = eachR f rs n a by rw [← HE.out]; exact (eachR_go f rs m hs).symm)
    have HS := Aside0.mk hs
    have HWR := Aside0.mk (show wrap64 (m : Int) = (m : Int) by rw [wrap64_id (by omega) (by have := HMN.out; have := HN.out; omega)])
    clear hs
    go_wp2_with (go_at_call 34; refine (HF.out m b _ HB.out HS.out).mono ?_; rintro e_ w1 ⟨rfl, hi_⟩; have HB1 := Aside0.mk hi_; clear hi_ hc2)
    go_roundw
    case measure => (try rw [HWR.out]); simp only [intOf]; omega
    case rel => exact ⟨m, f b, by first | rfl | (rw [HWR.out]; done), by have := HMN.out; omega, HB1, HEE⟩
set_option maxHeartbeats 8000000 in
set_option maxRecDepth 100000 in
theorem each3.calls {α : Type} (I : Nat → α → World → Prop) (rs : α → RS) (f : α → α) (w0 : World) (r : Nat) (A : Option Addr) (c : Nat) (l : List Int) (hI : ∀ j a W, I j a W → Rd w0 W r A c l (rs a)) (caps : Array Value)
  (hf : ∀ j a W, I (j + 1) a W → (rs a).er = none → Calls Tryd.prog 36 caps W fun e w' => e = .returned (.tuple #[]) ∧ I j (f a) w') (a : α) (W : World) (n : Nat) (hW : I n a W) (hn : n ≤ 9223372036854775806) :
  Calls Tryd.prog 30 #[.pointer (some ⟨r, 0, none⟩), .int .i64 (n : Int), .func (.func 36) #[] caps] W fun e w' => e = .returned (.tuple #[]) ∧ ∃ j, I j (eachR f rs n a) w' := by
 have hu1 := Tryd.underlying81
 have HW := Aside0.mk hW
 have HI := Aside0.mk hI
 have HF := Aside0.mk hf
 have HN := Aside0.mk hn
 clear hW hI hf hn
 go_enter Tryd.func30, Tryd.ntmps30
 go_wp2
 go_loopw [1] (fun u1 wr => ∃ (m : Nat) (b : α), u1 = .int .i64 (m : Int) ∧ m ≤ n ∧ Aside0 (I m b wr) ∧ Aside0 (eachR f rs m b = eachR f rs n a)) (fun u1 _ => (intOf u1).toNat)
 case atStart => exact ⟨n, a, rfl, Nat.le_refl _, HW, ⟨rfl⟩⟩
 case round =>
  clear HW
  obtain ⟨m, b, rfl, hmn, HB, HE⟩ := hrel
  have HR := Aside0.mk (HI.out m b wr HB.out)
  obtain ⟨v, hb, he⟩ := HR.out.blk
  have hc2 := (blk_cell hb 2).trans rfl
  clear hb
  cases m with
  | zero =>
   have hm0 : decide (((0 : Nat) : Int) > 0) = false := by simp
   clear he hmn
   go_wp2
   refine Go.Great.bodyPost_end0 rfl rfl ?_
   have hE := HE.out
   exact ⟨rfl, 0, by rw [← hE]; exact HB.out⟩
  | succ m =>
   have hm0 : decide (((m + 1 : Nat) : Int) > 0) = true := decide_eq_true (by omega)
   have HMN := Aside0.mk hmn
   clear hmn
   cases hs : (rs b).er with
   | some q =>
    rw [hs] at he
    obtain ⟨ee, rfl, _, _⟩ := he
    have HEE := Aside0.mk (show eachR f rs n a = b by rw [← HE.out]; exact eachR_stop f rs _ hs)
    clear hs
    go_wp2
    refine Go.Great.bodyPost_end0 rfl rfl ?_
    exact ⟨rfl, m + 1, by rw [HEE.out]; exact HB.out⟩
   | none =>
    rw [hs] at he
    obtain rfl : v = .nilIface := he
    have HEE := Aside0.mk (show eachR f rs m (f b) = eachR f rs n a by rw [← HE.out]; exact (eachR_go f rs m hs).symm)
    have HS := Aside0.mk hs
    have HWR := Aside0.mk (show wrap64 (m : Int) = (m : Int) by rw [wrap64_id (by omega) (by have := HMN.out; have := HN.out; omega)])
    clear hs
    go_wp2_with (go_at_call 36; refine (HF.out m b _ HB.out HS.out).mono ?_; rintro e_ w1 ⟨rfl, hi_⟩; have HB1 := Aside0.mk hi_; clear hi_ hc2)
    go_roundw
    case measure => (try rw [HWR.out]); simp only [intOf]; omega
    case rel => exact ⟨m, f b, by first | rfl | (rw [HWR.out]; done), by have := HMN.out; omega, HB1, HEE⟩
set_option maxHeartbeats 8000000 in
set_option maxRecDepth 100000 in
theorem each4.calls {α : Type} (I : Nat → α → World → Prop) (rs : α → RS) (f : α → α) (w0 : World) (r : Nat) (A : Option Addr) (c : Nat) (l : List Int) (hI : ∀ j a W, I j a W → Rd w0 W r A c l (rs a)) (caps : Array Value)
  (hf : ∀ j a W, I (j + 1) a W → (rs a).er = none → Calls Tryd.prog 37 caps W fun e w' => e = .returned (.tuple #[]) ∧ I j (f a) w') (a : α) (W : World) (n : Nat) (hW : I n a W) (hn : n ≤ 9223372036854775806) :
  Calls Tryd.prog 30 #[.pointer (some ⟨r, 0, none⟩), .int .i64 (n : Int), .func (.func 37) #[] caps] W fun e w' => e = .returned (.tuple #[]) ∧ ∃ j, I j (eachR f rs n a) w' := by
 have hu1 := Tryd.underlying81
 have HW := Aside0.mk hW
 have HI := Aside0.mk hI
 have HF := Aside0.mk hf
 have HN := Aside0.mk hn
 clear hW hI hf hn
 go_enter Tryd.func30, Tryd.ntmps30
 go_wp2
 go_loopw [1] (fun u1 wr => ∃ (m : Nat) (b : α), u1 = .int .i64 (m : Int) ∧ m ≤ n ∧ Aside0 (I m b wr) ∧ Aside0 (eachR f rs m b = eachR f rs n a)) (fun u1 _ => (intOf u1).toNat)
 case atStart => exact ⟨n, a, rfl, Nat.le_refl _, HW, ⟨rfl⟩⟩
 case round =>
  clear HW
  obtain ⟨m, b, rfl, hmn, HB, HE⟩ := hrel
  have HR := Aside0.mk (HI.out m b wr HB.out)
  obtain ⟨v, hb, he⟩ := HR.out.blk
  have hc2 := (blk_cell hb 2).trans rfl
  clear hb
  cases m with
  | zero =>
   have hm0 : decide (((0 : Nat) : Int) > 0) = false := by simp
   clear he hmn
   go_wp2
   refine Go.Great.bodyPost_end0 rfl rfl ?_
   have hE := HE.out
   exact ⟨rfl, 0, by rw [← hE]; exact HB.out⟩
  | succ m =>
   have hm0 : decide (((m + 1 : Nat) : Int) > 0) = true := decide_eq_true (by omega)
   have HMN := Aside0.mk hmn
   clear hmn
   cases hs : (rs b).er with
   | some q =>
    rw [hs] at he
    obtain ⟨ee, rfl, _, _⟩ := he
    have HEE := Aside0.mk (show eachR f rs n a = b by rw [← HE.out]; exact eachR_stop f rs _ hs)
    clear hs
    go_wp2
    refine Go.Great.bodyPost_end0 rfl rfl ?_
    exact ⟨rfl, m + 1, by rw [HEE.out]; exact HB.out⟩
   | none =>
    rw [hs] at he
    obtain rfl : v = .nilIface := he
    have HEE := Aside0.mk (show eachR f rs m (f b) = eachR f rs n a by rw [← HE.out]; exact (eachR_go f rs m hs).symm)
    have HS := Aside0.mk hs
    have HWR := Aside0.mk (show wrap64 (m : Int) = (m : Int) by rw [wrap64_id (by omega) (by have := HMN.out; have := HN.out; omega)])
    clear hs
    go_wp2_with (go_at_call 37; refine (HF.out m b _ HB.out HS.out).mono ?_; rintro e_ w1 ⟨rfl, hi_⟩; have HB1 := Aside0.mk hi_; clear hi_ hc2)
    go_roundw
    case measure => (try rw [HWR.out]); simp only [intOf]; omega
    case rel => exact ⟨m, f b, by first | rfl | (rw [HWR.out]; done), by have := HMN.out; omega, HB1, HEE⟩
end Go.Proofs.YtiaohbbafaaibabDoor.P
