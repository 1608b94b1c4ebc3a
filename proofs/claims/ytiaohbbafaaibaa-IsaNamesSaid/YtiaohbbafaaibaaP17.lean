/- What the Go functions named below come to, as plain functions, each with its proof; written by this session's prt.py over the kit's print. -/
import Derived.Test.YtiaohbbafaaibaaP0
import Derived.Test.YtiaohbbafaaibaaP3
import Derived.Test.YtiaohbbafaaibaaP11
import Derived.Test.YtiaohbbafaaibaaP14
import Derived.Test.YtiaohbbafaaibaaP16
import Derived.Test.YtiaohbbafaaibaaHIsaN
namespace Go.Proofs.Ytiaohbbafaaibaa.P
open Go.RowKit Go.Proofs.YtiaohbbafaaibaaW.PrintWords Go.Proofs.YtiaohbbafaaibaaW.PrintLast Go.Proofs.YtiaohbbafaaibaaW.PrintMore
attribute [local go_sem] max2_int min2_int max_two min_two max_three min_three max_four min_four   -- for this text's walks alone
set_option linter.unusedVariables false
set_option linter.unusedSimpArgs false

attribute [local go_sem high] eqA49
/-! ### pleatref02_Name: function 42 -/
mutual
def pleatref02_Name.j0 : Nat → Int → Bool → Option (ByteArray)
  | 0, _, _ => none
  | k + 1, x0, x11 => if x11 = true then (some (⟨#[]⟩ : ByteArray)) else (pleatref02_Name.l0 k x0 0 0 0)
def pleatref02_Name.l0 : Nat → Int → Int → Int → Int → Option (ByteArray)
  | 0, _, _, _, _ => none
  | k + 1, x0, x3, x4, x5 => if x5 < 100 then (if 0 ≤ x5 then (if (bt (⟨#[116, 114, 97, 112, 32, 115, 101, 116, 32, 109, 111, 118, 101, 32, 97, 100, 100, 32, 115, 117, 98, 32, 109, 117, 108, 32, 97, 110, 100, 32, 111, 114, 32, 120, 111, 114, 32, 108, 101, 115, 115, 32, 115, 97, 109, 101, 32, 108, 111, 97, 100, 32, 115, 116, 111, 114, 101, 32, 105, 110, 32, 111, 117, 116, 32, 106, 117, 109, 112, 32, 122, 101, 114, 111, 32, 99, 97, 108, 108, 32, 99, 97, 108, 108, 115, 32, 103, 111, 32, 112, 108, 97, 99, 101, 32, 104, 97, 108, 116, 32]⟩ : ByteArray) x5) = 32 then (if x4 = x0 then (if 0 ≤ x3 then (if x3 ≤ x5 then (if x5 ≤ 100 then (some ((⟨#[116, 114, 97, 112, 32, 115, 101, 116, 32, 109, 111, 118, 101, 32, 97, 100, 100, 32, 115, 117, 98, 32, 109, 117, 108, 32, 97, 110, 100, 32, 111, 114, 32, 120, 111, 114, 32, 108, 101, 115, 115, 32, 115, 97, 109, 101, 32, 108, 111, 97, 100, 32, 115, 116, 111, 114, 101, 32, 105, 110, 32, 111, 117, 116, 32, 106, 117, 109, 112, 32, 122, 101, 114, 111, 32, 99, 97, 108, 108, 32, 99, 97, 108, 108, 115, 32, 103, 111, 32, 112, 108, 97, 99, 101, 32, 104, 97, 108, 116, 32]⟩ : ByteArray).extract (x3 : Int).toNat (x5 : Int).toNat)) else (none)) else (none)) else (none)) else (pleatref02_Name.l0 k x0 (wrap64 (x5 + 1)) (IntKind.i8.wrap (x4 + 1)) (wrap64 (x5 + 1)))) else (pleatref02_Name.l0 k x0 x3 x4 (wrap64 (x5 + 1)))) else (none)) else (some (⟨#[]⟩ : ByteArray))
end
def pleatref02_Name.f (k : Nat) (a0 : Int) : Option (ByteArray) := if a0 < 0 then (pleatref02_Name.j0 k a0 true) else (pleatref02_Name.j0 k a0 (decide (a0 > 21)))
theorem pleatref02_Name.mono_l : ∀ k, (∀ y0 y1, LeO (pleatref02_Name.j0 k y0 y1) (pleatref02_Name.j0 (k + 1) y0 y1)) ∧ (∀ y0 y1 y2 y3, LeO (pleatref02_Name.l0 k y0 y1 y2 y3) (pleatref02_Name.l0 (k + 1) y0 y1 y2 y3))
  | 0 => ⟨fun _ _ r h => by simp [pleatref02_Name.j0] at h, fun _ _ _ _ r h => by simp [pleatref02_Name.l0] at h⟩
  | k + 1 => by
    obtain ⟨ih0, ih1⟩ := pleatref02_Name.mono_l k
    refine ⟨?_, ?_⟩
    · intro y0 y1
      unfold pleatref02_Name.j0
      repeat' first
      | (with_reducible exact ih0 _ _)
      | (with_reducible exact ih1 _ _ _ _)
      | (with_reducible exact LeO.refl _)
      | (with_reducible exact LeO.none _)
      | (with_reducible refine LeO.ite ?_ ?_)
      | (with_reducible refine LeO.bind ?_ (fun _ => ?_))
      | exact ih0 _ _
      | exact ih1 _ _ _ _
      | exact LeO.none _
      | refine LeO.ite ?_ ?_
      | refine LeO.bind ?_ (fun _ => ?_)
    · intro y0 y1 y2 y3
      unfold pleatref02_Name.l0
      repeat' first
      | (with_reducible exact ih0 _ _)
      | (with_reducible exact ih1 _ _ _ _)
      | (with_reducible exact LeO.refl _)
      | (with_reducible exact LeO.none _)
      | (with_reducible refine LeO.ite ?_ ?_)
      | (with_reducible refine LeO.bind ?_ (fun _ => ?_))
      | exact ih0 _ _
      | exact ih1 _ _ _ _
      | exact LeO.none _
      | refine LeO.ite ?_ ?_
      | refine LeO.bind ?_ (fun _ => ?_)
theorem pleatref02_Name.mono : ∀ a0 k, LeO (pleatref02_Name.f k a0) (pleatref02_Name.f (k + 1) a0) := by
  intro a0 k
  obtain ⟨ih0, ih1⟩ := pleatref02_Name.mono_l k
  unfold pleatref02_Name.f
  repeat' first
      | (with_reducible exact ih0 _ _)
      | (with_reducible exact ih1 _ _ _ _)
      | (with_reducible exact LeO.refl _)
      | (with_reducible exact LeO.none _)
      | (with_reducible refine LeO.ite ?_ ?_)
      | (with_reducible refine LeO.bind ?_ (fun _ => ?_))
      | exact ih0 _ _
      | exact ih1 _ _ _ _
      | exact LeO.none _
      | refine LeO.ite ?_ ?_
      | refine LeO.bind ?_ (fun _ => ?_)
set_option maxHeartbeats 8000000 in
set_option maxRecDepth 100000 in
theorem pleatref02_Name.calls (k : Nat) (a0 : Int) (r : ByteArray) (w : World) (h : pleatref02_Name.f k a0 = some r) :
    Calls Try.prog 42 #[.int .i8 a0] w fun e w' => e = .returned (.string r) ∧ Drawn0 w w' := by
  have H : (if a0 < 0 then (pleatref02_Name.j0 k a0 true) else (pleatref02_Name.j0 k a0 (decide (a0 > 21)))) = some r := h
  clear h
  have HC2 := Aside0.mk H
  clear H
  go_enter Try.func42, Try.ntmps42
  go_upto_region 1 with (fail)
  go_cut [11] (fun v11 wc => ∃ (kq : Nat) (x11_1 : Bool), v11 = .bool x11_1 ∧ Aside0 (pleatref02_Name.j0 kq a0 x11_1 = some r) ∧ Aside0 (kq ≤ k) ∧ Drawn0 w wc)
  case first =>
    have H := HC2.out
    clear HC2
    by_cases c3 : a0 < 0
    · rw [if_pos c3] at H
      have c3b0 : decide (a0 < 0) = true := decide_eq_true c3
      clear c3
      (first | rw [c3b0] | (simp only [i64_w, i32_w]; rw [c3b0]) | skip)
      have H' := Aside0.mk H
      clear H
      go_wp2
      go_meet
      case rel => exact ⟨_, (true), (by first | rfl | (simp; done) | (simp [*]; done)), H', ⟨by first | omega | exact Nat.le_refl _⟩, by repeat (first | exact Drawn0.refl _ | apply Drawn0.step)⟩
    · rw [if_neg c3] at H
      have c3b0 : decide (a0 < 0) = false := decide_eq_false c3
      clear c3
      (first | rw [c3b0] | (simp only [i64_w, i32_w]; rw [c3b0]) | skip)
      have H' := Aside0.mk H
      clear H
      go_wp2
      go_meet
      case rel => exact ⟨_, (decide (a0 > 21)), (by first | rfl | (simp; done) | (simp [*]; done)), H', ⟨by first | omega | exact Nat.le_refl _⟩, by repeat (first | exact Drawn0.refl _ | apply Drawn0.step)⟩
  case rest =>
    clear HC2
    try clear p2
    try clear c3
    try clear c3b0
    obtain ⟨kq, x11_1, rfl, HA, HJ1, ⟨mc1, rfl⟩⟩ := hcut
    cases kq with
    | zero => exact absurd HA.out (by simp [pleatref02_Name.j0])
    | succ kj1 =>
      have H := HA.out
      clear HA
      simp only [pleatref02_Name.j0] at H
      by_cases c4 : x11_1 = true
      · subst c4
        have H1 : (some (⟨#[]⟩ : ByteArray)) = some r := by rw [if_pos rfl] at H; exact H
        clear H
        have H := H1
        clear H1
        obtain rfl := Option.some.inj H
        go_wp2
        go_ret
        exact ⟨by first | rfl | (simp; done) | (simp [*]; done), by repeat (first | exact Drawn0.refl _ | apply Drawn0.step)⟩
      · replace c4 := Bool.eq_false_iff.mpr c4
        subst c4
        have H1 : (pleatref02_Name.l0 kj1 a0 0 0 0) = some r := by rw [if_neg (show ¬ (false = true) by decide)] at H; exact H
        clear H
        have H := H1
        clear H1
        have H' := Aside0.mk H
        clear H
        go_wp2
        go_loopg [3, 4, 5] kj1 (fun kq v3 v4 v5 w' => ∃ (x3_2 : Int) (x4_2 : Int) (x5_2 : Int), v3 = .int .i64 x3_2 ∧ v4 = .int .i8 x4_2 ∧ v5 = .int .i64 x5_2 ∧ Aside0 (pleatref02_Name.l0 kq a0 x3_2 x4_2 x5_2 = some r) ∧ Aside0 (kq ≤ kj1) ∧ Drawn0 w w')
        case atStart => exact ⟨(0), (0), (0), (by first | rfl | (simp; done) | (simp [*]; done)), (by first | rfl | (simp; done) | (simp [*]; done)), (by first | rfl | (simp; done) | (simp [*]; done)), H', ⟨Nat.le_refl _⟩, by repeat (first | exact Drawn0.refl _ | apply Drawn0.step)⟩
        case round =>
          clear H'
          try clear c1
          try clear p2
          try clear c3
          try clear c3b0
          try clear c4
          try clear p2
          obtain ⟨x3_2, x4_2, x5_2, rfl, rfl, rfl, HA, HK2, ⟨m2, rfl⟩⟩ := hrel
          cases gk with
          | zero => exact absurd HA.out (by simp [pleatref02_Name.l0])
          | succ k2 =>
            have H := HA.out
            clear HA
            simp only [pleatref02_Name.l0] at H
            by_cases c5 : x5_2 < 100
            · rw [if_pos c5] at H
              have c5b0 : decide (x5_2 < 100) = true := decide_eq_true c5
              clear c5
              by_cases c6 : 0 ≤ x5_2
              · rw [if_pos c6] at H
                have c6b0 : decide (0 ≤ x5_2) = true := decide_eq_true c6
                clear c6
                by_cases c8 : (bt (⟨#[116, 114, 97, 112, 32, 115, 101, 116, 32, 109, 111, 118, 101, 32, 97, 100, 100, 32, 115, 117, 98, 32, 109, 117, 108, 32, 97, 110, 100, 32, 111, 114, 32, 120, 111, 114, 32, 108, 101, 115, 115, 32, 115, 97, 109, 101, 32, 108, 111, 97, 100, 32, 115, 116, 111, 114, 101, 32, 105, 110, 32, 111, 117, 116, 32, 106, 117, 109, 112, 32, 122, 101, 114, 111, 32, 99, 97, 108, 108, 32, 99, 97, 108, 108, 115, 32, 103, 111, 32, 112, 108, 97, 99, 101, 32, 104, 97, 108, 116, 32]⟩ : ByteArray) x5_2) = 32
                · rw [if_pos c8] at H
                  have c8b0 : ((bt (⟨#[116, 114, 97, 112, 32, 115, 101, 116, 32, 109, 111, 118, 101, 32, 97, 100, 100, 32, 115, 117, 98, 32, 109, 117, 108, 32, 97, 110, 100, 32, 111, 114, 32, 120, 111, 114, 32, 108, 101, 115, 115, 32, 115, 97, 109, 101, 32, 108, 111, 97, 100, 32, 115, 116, 111, 114, 101, 32, 105, 110, 32, 111, 117, 116, 32, 106, 117, 109, 112, 32, 122, 101, 114, 111, 32, 99, 97, 108, 108, 32, 99, 97, 108, 108, 115, 32, 103, 111, 32, 112, 108, 97, 99, 101, 32, 104, 97, 108, 116, 32]⟩ : ByteArray) x5_2) == 32) = true := beq_iff_eq.mpr c8
                  have c8b1 : ((bt (⟨#[116, 114, 97, 112, 32, 115, 101, 116, 32, 109, 111, 118, 101, 32, 97, 100, 100, 32, 115, 117, 98, 32, 109, 117, 108, 32, 97, 110, 100, 32, 111, 114, 32, 120, 111, 114, 32, 108, 101, 115, 115, 32, 115, 97, 109, 101, 32, 108, 111, 97, 100, 32, 115, 116, 111, 114, 101, 32, 105, 110, 32, 111, 117, 116, 32, 106, 117, 109, 112, 32, 122, 101, 114, 111, 32, 99, 97, 108, 108, 32, 99, 97, 108, 108, 115, 32, 103, 111, 32, 112, 108, 97, 99, 101, 32, 104, 97, 108, 116, 32]⟩ : ByteArray) x5_2) != 32) = false := bne_eq_false_iff_eq.mpr c8
                  clear c8
                  by_cases c9 : x4_2 = a0
                  · rw [if_pos c9] at H
                    have c9b0 : (x4_2 == a0) = true := beq_iff_eq.mpr c9
                    have c9b1 : (x4_2 != a0) = false := bne_eq_false_iff_eq.mpr c9
                    clear c9
                    by_cases c10 : 0 ≤ x3_2
                    · rw [if_pos c10] at H
                      have c10b0 := eq_true c10
                      have c10b1 : decide (0 ≤ x3_2) = true := decide_eq_true c10
                      clear c10
                      by_cases c11 : x3_2 ≤ x5_2
                      · rw [if_pos c11] at H
                        have c11b0 := eq_true c11
                        have c11b1 : decide (x3_2 ≤ x5_2) = true := decide_eq_true c11
                        clear c11
                        by_cases c12 : x5_2 ≤ 100
                        · rw [if_pos c12] at H
                          have c12b0 := eq_true c12
                          have c12b1 : decide (x5_2 ≤ 100) = true := decide_eq_true c12
                          clear c12
                          obtain rfl := Option.some.inj H
                          have p7 : 0 ≤ (x5_2 : Int) := of_decide_eq_true (by first | (with_reducible assumption) | assumption)
                          have q7 : x5_2 < (100 : Int) := of_decide_eq_true (by first | (with_reducible assumption) | assumption)
                          have hx7 := bt_at (⟨#[116, 114, 97, 112, 32, 115, 101, 116, 32, 109, 111, 118, 101, 32, 97, 100, 100, 32, 115, 117, 98, 32, 109, 117, 108, 32, 97, 110, 100, 32, 111, 114, 32, 120, 111, 114, 32, 108, 101, 115, 115, 32, 115, 97, 109, 101, 32, 108, 111, 97, 100, 32, 115, 116, 111, 114, 101, 32, 105, 110, 32, 111, 117, 116, 32, 106, 117, 109, 112, 32, 122, 101, 114, 111, 32, 99, 97, 108, 108, 32, 99, 97, 108, 108, 115, 32, 103, 111, 32, 112, 108, 97, 99, 101, 32, 104, 97, 108, 116, 32]⟩ : ByteArray) x5_2
                          replace p7 := eq_true p7
                          replace q7 := eq_true q7
                          go_wp2
                          go_ret
                          exact ⟨by first | rfl | (simp; done) | (simp [*]; done), by repeat (first | exact Drawn0.refl _ | apply Drawn0.step)⟩
                        · rw [if_neg c12] at H
                          exact absurd H (by simp)
                      · rw [if_neg c11] at H
                        exact absurd H (by simp)
                    · rw [if_neg c10] at H
                      exact absurd H (by simp)
                  · rw [if_neg c9] at H
                    have c9b0 : (x4_2 == a0) = false := beq_eq_false_iff_ne.mpr c9
                    have c9b1 : (x4_2 != a0) = true := bne_iff_ne.mpr c9
                    have H' := Aside0.mk H
                    clear H
                    have p7 : 0 ≤ (x5_2 : Int) := of_decide_eq_true (by first | (with_reducible assumption) | assumption)
                    have q7 : x5_2 < (100 : Int) := of_decide_eq_true (by first | (with_reducible assumption) | assumption)
                    have hx7 := bt_at (⟨#[116, 114, 97, 112, 32, 115, 101, 116, 32, 109, 111, 118, 101, 32, 97, 100, 100, 32, 115, 117, 98, 32, 109, 117, 108, 32, 97, 110, 100, 32, 111, 114, 32, 120, 111, 114, 32, 108, 101, 115, 115, 32, 115, 97, 109, 101, 32, 108, 111, 97, 100, 32, 115, 116, 111, 114, 101, 32, 105, 110, 32, 111, 117, 116, 32, 106, 117, 109, 112, 32, 122, 101, 114, 111, 32, 99, 97, 108, 108, 32, 99, 97, 108, 108, 115, 32, 103, 111, 32, 112, 108, 97, 99, 101, 32, 104, 97, 108, 116, 32]⟩ : ByteArray) x5_2
                    replace p7 := eq_true p7
                    replace q7 := eq_true q7
                    go_wp2
                    go_roundg k2
                    case measure => have := HJ1.out; have := HK2.out; omega
                    case rel => exact ⟨(wrap64 (x5_2 + 1)), (IntKind.i8.wrap (x4_2 + 1)), (wrap64 (x5_2 + 1)), (by first | rfl | (simp; done) | (simp [*]; done)), (by first | rfl | (simp; done) | (simp [*]; done)), (by first | rfl | (simp; done) | (simp [*]; done)), H', ⟨by have := HJ1.out; have := HK2.out; omega⟩, by repeat (first | exact Drawn0.refl _ | apply Drawn0.step)⟩
                · rw [if_neg c8] at H
                  have c8b0 : ((bt (⟨#[116, 114, 97, 112, 32, 115, 101, 116, 32, 109, 111, 118, 101, 32, 97, 100, 100, 32, 115, 117, 98, 32, 109, 117, 108, 32, 97, 110, 100, 32, 111, 114, 32, 120, 111, 114, 32, 108, 101, 115, 115, 32, 115, 97, 109, 101, 32, 108, 111, 97, 100, 32, 115, 116, 111, 114, 101, 32, 105, 110, 32, 111, 117, 116, 32, 106, 117, 109, 112, 32, 122, 101, 114, 111, 32, 99, 97, 108, 108, 32, 99, 97, 108, 108, 115, 32, 103, 111, 32, 112, 108, 97, 99, 101, 32, 104, 97, 108, 116, 32]⟩ : ByteArray) x5_2) == 32) = false := beq_eq_false_iff_ne.mpr c8
                  have c8b1 : ((bt (⟨#[116, 114, 97, 112, 32, 115, 101, 116, 32, 109, 111, 118, 101, 32, 97, 100, 100, 32, 115, 117, 98, 32, 109, 117, 108, 32, 97, 110, 100, 32, 111, 114, 32, 120, 111, 114, 32, 108, 101, 115, 115, 32, 115, 97, 109, 101, 32, 108, 111, 97, 100, 32, 115, 116, 111, 114, 101, 32, 105, 110, 32, 111, 117, 116, 32, 106, 117, 109, 112, 32, 122, 101, 114, 111, 32, 99, 97, 108, 108, 32, 99, 97, 108, 108, 115, 32, 103, 111, 32, 112, 108, 97, 99, 101, 32, 104, 97, 108, 116, 32]⟩ : ByteArray) x5_2) != 32) = true := bne_iff_ne.mpr c8
                  have H' := Aside0.mk H
                  clear H
                  have p7 : 0 ≤ (x5_2 : Int) := of_decide_eq_true (by first | (with_reducible assumption) | assumption)
                  have q7 : x5_2 < (100 : Int) := of_decide_eq_true (by first | (with_reducible assumption) | assumption)
                  have hx7 := bt_at (⟨#[116, 114, 97, 112, 32, 115, 101, 116, 32, 109, 111, 118, 101, 32, 97, 100, 100, 32, 115, 117, 98, 32, 109, 117, 108, 32, 97, 110, 100, 32, 111, 114, 32, 120, 111, 114, 32, 108, 101, 115, 115, 32, 115, 97, 109, 101, 32, 108, 111, 97, 100, 32, 115, 116, 111, 114, 101, 32, 105, 110, 32, 111, 117, 116, 32, 106, 117, 109, 112, 32, 122, 101, 114, 111, 32, 99, 97, 108, 108, 32, 99, 97, 108, 108, 115, 32, 103, 111, 32, 112, 108, 97, 99, 101, 32, 104, 97, 108, 116, 32]⟩ : ByteArray) x5_2
                  replace p7 := eq_true p7
                  replace q7 := eq_true q7
                  go_wp2
                  go_roundg k2
                  case measure => have := HJ1.out; have := HK2.out; omega
                  case rel => exact ⟨(x3_2), (x4_2), (wrap64 (x5_2 + 1)), (by first | rfl | (simp; done) | (simp [*]; done)), (by first | rfl | (simp; done) | (simp [*]; done)), (by first | rfl | (simp; done) | (simp [*]; done)), H', ⟨by have := HJ1.out; have := HK2.out; omega⟩, by repeat (first | exact Drawn0.refl _ | apply Drawn0.step)⟩
              · rw [if_neg c6] at H
                exact absurd H (by simp)
            · rw [if_neg c5] at H
              have c5b0 : decide (x5_2 < 100) = false := decide_eq_false c5
              clear c5
              obtain rfl := Option.some.inj H
              go_wp2
              go_ret
              exact ⟨by first | rfl | (simp; done) | (simp [*]; done), by repeat (first | exact Drawn0.refl _ | apply Drawn0.step)⟩

/-! ### pleatref02_Of: function 40 -/
def pleatref02_Of.l0 : Nat → ByteArray → Int → Option (Int × Bool)
  | 0, _, _ => none
  | k + 1, x0, x4 => if x4 ≤ 21 then ((pleatref02_Name.f k x4).bind fun t294 => (if t294.toList = x0.toList then (some (x4, true)) else (pleatref02_Of.l0 k x0 (IntKind.i8.wrap (x4 + 1))))) else (some (0, false))
def pleatref02_Of.f (k : Nat) (a0 : ByteArray) : Option (Int × Bool) := pleatref02_Of.l0 k a0 0
theorem pleatref02_Of.mono_l : ∀ k, (∀ y0 y1, LeO (pleatref02_Of.l0 k y0 y1) (pleatref02_Of.l0 (k + 1) y0 y1))
  | 0 => fun _ _ r h => by simp [pleatref02_Of.l0] at h
  | k + 1 => by
    have ih0 := pleatref02_Of.mono_l k
    · intro y0 y1
      unfold pleatref02_Of.l0
      repeat' first
      | (with_reducible exact ih0 _ _)
      | (with_reducible exact pleatref02_Name.mono _ _)
      | (with_reducible exact LeO.refl _)
      | (with_reducible exact LeO.none _)
      | (with_reducible refine LeO.ite ?_ ?_)
      | (with_reducible refine LeO.bind ?_ (fun _ => ?_))
      | exact ih0 _ _
      | exact pleatref02_Name.mono _ _
      | exact LeO.none _
      | refine LeO.ite ?_ ?_
      | refine LeO.bind ?_ (fun _ => ?_)
theorem pleatref02_Of.mono : ∀ a0 k, LeO (pleatref02_Of.f k a0) (pleatref02_Of.f (k + 1) a0) := by
  intro a0 k
  have ih0 := pleatref02_Of.mono_l k
  unfold pleatref02_Of.f
  repeat' first
      | (with_reducible exact ih0 _ _)
      | (with_reducible exact pleatref02_Name.mono _ _)
      | (with_reducible exact LeO.refl _)
      | (with_reducible exact LeO.none _)
      | (with_reducible refine LeO.ite ?_ ?_)
      | (with_reducible refine LeO.bind ?_ (fun _ => ?_))
      | exact ih0 _ _
      | exact pleatref02_Name.mono _ _
      | exact LeO.none _
      | refine LeO.ite ?_ ?_
      | refine LeO.bind ?_ (fun _ => ?_)
set_option maxHeartbeats 8000000 in
set_option maxRecDepth 100000 in
theorem pleatref02_Of.calls (k : Nat) (a0 : ByteArray) (r1 : Int) (r2 : Bool) (w : World) (h : pleatref02_Of.f k a0 = some (r1, r2)) :
    Calls Try.prog 40 #[.string a0] w fun e w' => e = .returned (.tuple #[.int .i8 r1, .bool r2]) ∧ Drawn0 w w' := by
  have H : (pleatref02_Of.l0 k a0 0) = some (r1, r2) := h
  clear h
  have H' := Aside0.mk H
  clear H
  go_enter Try.func40, Try.ntmps40
  go_wp2
  go_loopg [4] k (fun kq v4 w' => ∃ (x4_1 : Int), v4 = .int .i8 x4_1 ∧ Aside0 (pleatref02_Of.l0 kq a0 x4_1 = some (r1, r2)) ∧ Aside0 (kq ≤ k) ∧ Drawn0 w w')
  case atStart => exact ⟨(0), (by first | rfl | (simp; done) | (simp [*]; done)), H', ⟨Nat.le_refl _⟩, by repeat (first | exact Drawn0.refl _ | apply Drawn0.step)⟩
  case round =>
    clear H'
    obtain ⟨x4_1, rfl, HA, HK1, ⟨m1, rfl⟩⟩ := hrel
    cases gk with
    | zero => exact absurd HA.out (by simp [pleatref02_Of.l0])
    | succ k1 =>
      have H := HA.out
      clear HA
      simp only [pleatref02_Of.l0] at H
      by_cases c2 : x4_1 ≤ 21
      · rw [if_pos c2] at H
        have c2b0 : decide (x4_1 ≤ 21) = true := decide_eq_true c2
        clear c2
        replace H := Option.bind_eq_some_iff.mp H
        obtain ⟨t294, A30, H⟩ := H
        replace H : (if t294.toList = a0.toList then (some (x4_1, true)) else (pleatref02_Of.l0 k1 a0 (IntKind.i8.wrap (x4_1 + 1)))) = some (r1, r2) := H
        have A3 := Aside0.mk A30
        clear A30
        by_cases c4 : t294.toList = a0.toList
        · rw [if_pos c4] at H
          have c4b0 : (t294.toList == a0.toList) = true := beq_iff_eq.mpr c4
          have c4b1 : (t294.toList != a0.toList) = false := bne_eq_false_iff_eq.mpr c4
          clear c4
          simp only [Option.some.injEq, Prod.mk.injEq] at H
          obtain ⟨rfl, rfl⟩ := H
          go_wp2_with (first | ((with_reducible refine gate_callee (f := 42) rfl ?_); refine goesL_ (some 10) rfl rfl Try.func42 (by kernel_rfl) rfl #[.int .i8 x4_1] rfl (by (try simp only [List.map_toArray, List.map_cons, List.map_nil]); first | done | rfl | (simp only [List.length_drop, List.length_take]; rfl)) ?_; (with_reducible refine (pleatref02_Name.calls k1 x4_1 t294 _ A3.out).mono ?_); rintro e w' ⟨rfl, ⟨nd, rfl⟩⟩; refine ⟨_, rfl, ?_⟩))
          go_ret2
          exact ⟨by first | rfl | (simp; done) | (simp [*]; done), by repeat (first | exact Drawn0.refl _ | apply Drawn0.step)⟩
        · rw [if_neg c4] at H
          have c4b0 : (t294.toList == a0.toList) = false := beq_eq_false_iff_ne.mpr c4
          have c4b1 : (t294.toList != a0.toList) = true := bne_iff_ne.mpr c4
          have H' := Aside0.mk H
          clear H
          go_wp2_with (first | ((with_reducible refine gate_callee (f := 42) rfl ?_); refine goesL_ (some 10) rfl rfl Try.func42 (by kernel_rfl) rfl #[.int .i8 x4_1] rfl (by (try simp only [List.map_toArray, List.map_cons, List.map_nil]); first | done | rfl | (simp only [List.length_drop, List.length_take]; rfl)) ?_; (with_reducible refine (pleatref02_Name.calls k1 x4_1 t294 _ A3.out).mono ?_); rintro e w' ⟨rfl, ⟨nd, rfl⟩⟩; refine ⟨_, rfl, ?_⟩))
          go_roundg k1
          case measure => have := HK1.out; omega
          case rel => exact ⟨(IntKind.i8.wrap (x4_1 + 1)), (by first | rfl | (simp; done) | (simp [*]; done)), H', ⟨by have := HK1.out; omega⟩, by repeat (first | exact Drawn0.refl _ | apply Drawn0.step)⟩
      · rw [if_neg c2] at H
        have c2b0 : decide (x4_1 ≤ 21) = false := decide_eq_false c2
        clear c2
        simp only [Option.some.injEq, Prod.mk.injEq] at H
        obtain ⟨rfl, rfl⟩ := H
        go_wp2
        go_ret2
        exact ⟨by first | rfl | (simp; done) | (simp [*]; done), by repeat (first | exact Drawn0.refl _ | apply Drawn0.step)⟩

/-! ### pleatlaw02_IsaNames: function 7 -/
def pleatlaw02_IsaNames.j0 : Nat → Int → Bool → Bool → Bool → Bool → Bool → Int → Bool → Int → Bool → Bool → Bool → Bool → Bool → Bool → Bool → Option (Bool)
  | 0, _, _, _, _, _, _, _, _, _, _, _, _, _, _, _, _ => none
  | k + 1, x0, x5, x6, x7, x8, x9, x11, x12, x13, x14, x57, x306000, x306001, x306002, x306003, x306004 => if x57 = true then (some false) else ((isa_Name.f x0).bind fun t313 => ((pleatref02_Name.f k x0).bind fun t314 => (if t313.toList = t314.toList then (if x11 = x13 then (if (x12 == x14) = true then (if (x306000 == x5 && (x306001 == x6 && (x306002 == x7 && (x306003 == x8 && (x306004 == x9))))) = true then ((pleatlaw02_works.f k).bind fun t315 => (some t315)) else (some false)) else (some false)) else (some false)) else (some false))))
def pleatlaw02_IsaNames.f (k : Nat) (a0 : Int) (a1 : ByteArray) : Option (Bool) := (isa_Has.f a0).bind fun bt295 => ((pleatref02_Has.f k a0).bind fun bt300 => ((isa_Of.f a1).bind fun bt306 => ((pleatref02_Of.f k a1).bind fun bt308 => ((isa_Name.f a0).bind fun t310 => ((isa_Of.f t310).bind fun bt311 => (if a0 ≥ 0 then (if a0 ≤ 21 then (if bt311.1 = a0 then (pleatlaw02_IsaNames.j0 k a0 bt295.1 bt295.2.1 bt295.2.2.1 bt295.2.2.2.1 bt295.2.2.2.2 bt306.1 bt306.2 bt308.1 bt308.2 (!bt311.2) bt300.1 bt300.2.1 bt300.2.2.1 bt300.2.2.2.1 bt300.2.2.2.2) else (pleatlaw02_IsaNames.j0 k a0 bt295.1 bt295.2.1 bt295.2.2.1 bt295.2.2.2.1 bt295.2.2.2.2 bt306.1 bt306.2 bt308.1 bt308.2 true bt300.1 bt300.2.1 bt300.2.2.1 bt300.2.2.2.1 bt300.2.2.2.2)) else (pleatlaw02_IsaNames.j0 k a0 bt295.1 bt295.2.1 bt295.2.2.1 bt295.2.2.2.1 bt295.2.2.2.2 bt306.1 bt306.2 bt308.1 bt308.2 false bt300.1 bt300.2.1 bt300.2.2.1 bt300.2.2.2.1 bt300.2.2.2.2)) else (pleatlaw02_IsaNames.j0 k a0 bt295.1 bt295.2.1 bt295.2.2.1 bt295.2.2.2.1 bt295.2.2.2.2 bt306.1 bt306.2 bt308.1 bt308.2 false bt300.1 bt300.2.1 bt300.2.2.1 bt300.2.2.2.1 bt300.2.2.2.2)))))))
theorem pleatlaw02_IsaNames.mono_l : ∀ k, (∀ y0 y1 y2 y3 y4 y5 y6 y7 y8 y9 y10 y11 y12 y13 y14 y15, LeO (pleatlaw02_IsaNames.j0 k y0 y1 y2 y3 y4 y5 y6 y7 y8 y9 y10 y11 y12 y13 y14 y15) (pleatlaw02_IsaNames.j0 (k + 1) y0 y1 y2 y3 y4 y5 y6 y7 y8 y9 y10 y11 y12 y13 y14 y15))
  | 0 => fun _ _ _ _ _ _ _ _ _ _ _ _ _ _ _ _ r h => by simp [pleatlaw02_IsaNames.j0] at h
  | k + 1 => by
    have ih0 := pleatlaw02_IsaNames.mono_l k
    · intro y0 y1 y2 y3 y4 y5 y6 y7 y8 y9 y10 y11 y12 y13 y14 y15
      unfold pleatlaw02_IsaNames.j0
      repeat' first
      | (with_reducible exact ih0 _ _ _ _ _ _ _ _ _ _ _ _ _ _ _ _)
      | (with_reducible exact pleatlaw02_works.mono _)
      | (with_reducible exact pleatref02_Has.mono _ _)
      | (with_reducible exact pleatref02_Name.mono _ _)
      | (with_reducible exact pleatref02_Of.mono _ _)
      | (with_reducible exact LeO.refl _)
      | (with_reducible exact LeO.none _)
      | (with_reducible refine LeO.ite ?_ ?_)
      | (with_reducible refine LeO.bind ?_ (fun _ => ?_))
      | exact ih0 _ _ _ _ _ _ _ _ _ _ _ _ _ _ _ _
      | exact pleatlaw02_works.mono _
      | exact pleatref02_Has.mono _ _
      | exact pleatref02_Name.mono _ _
      | exact pleatref02_Of.mono _ _
      | exact LeO.none _
      | refine LeO.ite ?_ ?_
      | refine LeO.bind ?_ (fun _ => ?_)
theorem pleatlaw02_IsaNames.mono : ∀ a0 a1 k, LeO (pleatlaw02_IsaNames.f k a0 a1) (pleatlaw02_IsaNames.f (k + 1) a0 a1) := by
  intro a0 a1 k
  have ih0 := pleatlaw02_IsaNames.mono_l k
  unfold pleatlaw02_IsaNames.f
  repeat' first
      | (with_reducible exact ih0 _ _ _ _ _ _ _ _ _ _ _ _ _ _ _ _)
      | (with_reducible exact pleatlaw02_works.mono _)
      | (with_reducible exact pleatref02_Has.mono _ _)
      | (with_reducible exact pleatref02_Name.mono _ _)
      | (with_reducible exact pleatref02_Of.mono _ _)
      | (with_reducible exact LeO.refl _)
      | (with_reducible exact LeO.none _)
      | (with_reducible refine LeO.ite ?_ ?_)
      | (with_reducible refine LeO.bind ?_ (fun _ => ?_))
      | exact ih0 _ _ _ _ _ _ _ _ _ _ _ _ _ _ _ _
      | exact pleatlaw02_works.mono _
      | exact pleatref02_Has.mono _ _
      | exact pleatref02_Name.mono _ _
      | exact pleatref02_Of.mono _ _
      | exact LeO.none _
      | refine LeO.ite ?_ ?_
      | refine LeO.bind ?_ (fun _ => ?_)
set_option maxHeartbeats 8000000 in
set_option maxRecDepth 100000 in
theorem pleatlaw02_IsaNames.calls (k : Nat) (a0 : Int) (a1 : ByteArray) (r : Bool) (w : World) (h : pleatlaw02_IsaNames.f k a0 a1 = some r) :
    Calls Try.prog 7 #[.int .i8 a0, .string a1] w fun e w' => e = .returned (.bool r) ∧ Below w.heap.size w w' := by
  have hu49 := Try.underlying49
  have HB := Aside0.mk (Below.refl w.heap.size w)
  have H : ((isa_Has.f a0).bind fun bt295 => ((pleatref02_Has.f k a0).bind fun bt300 => ((isa_Of.f a1).bind fun bt306 => ((pleatref02_Of.f k a1).bind fun bt308 => ((isa_Name.f a0).bind fun t310 => ((isa_Of.f t310).bind fun bt311 => (if a0 ≥ 0 then (if a0 ≤ 21 then (if bt311.1 = a0 then (pleatlaw02_IsaNames.j0 k a0 bt295.1 bt295.2.1 bt295.2.2.1 bt295.2.2.2.1 bt295.2.2.2.2 bt306.1 bt306.2 bt308.1 bt308.2 (!bt311.2) bt300.1 bt300.2.1 bt300.2.2.1 bt300.2.2.2.1 bt300.2.2.2.2) else (pleatlaw02_IsaNames.j0 k a0 bt295.1 bt295.2.1 bt295.2.2.1 bt295.2.2.2.1 bt295.2.2.2.2 bt306.1 bt306.2 bt308.1 bt308.2 true bt300.1 bt300.2.1 bt300.2.2.1 bt300.2.2.2.1 bt300.2.2.2.2)) else (pleatlaw02_IsaNames.j0 k a0 bt295.1 bt295.2.1 bt295.2.2.1 bt295.2.2.2.1 bt295.2.2.2.2 bt306.1 bt306.2 bt308.1 bt308.2 false bt300.1 bt300.2.1 bt300.2.2.1 bt300.2.2.2.1 bt300.2.2.2.2)) else (pleatlaw02_IsaNames.j0 k a0 bt295.1 bt295.2.1 bt295.2.2.1 bt295.2.2.2.1 bt295.2.2.2.2 bt306.1 bt306.2 bt308.1 bt308.2 false bt300.1 bt300.2.1 bt300.2.2.1 bt300.2.2.2.1 bt300.2.2.2.2)))))))) = some r := h
  clear h
  replace H := Option.bind_eq_some_iff.mp H
  obtain ⟨⟨t295, t296, t297, t298, t299⟩, A30, H⟩ := H
  replace H : ((pleatref02_Has.f k a0).bind fun bt300 => ((isa_Of.f a1).bind fun bt306 => ((pleatref02_Of.f k a1).bind fun bt308 => ((isa_Name.f a0).bind fun t310 => ((isa_Of.f t310).bind fun bt311 => (if a0 ≥ 0 then (if a0 ≤ 21 then (if bt311.1 = a0 then (pleatlaw02_IsaNames.j0 k a0 t295 t296 t297 t298 t299 bt306.1 bt306.2 bt308.1 bt308.2 (!bt311.2) bt300.1 bt300.2.1 bt300.2.2.1 bt300.2.2.2.1 bt300.2.2.2.2) else (pleatlaw02_IsaNames.j0 k a0 t295 t296 t297 t298 t299 bt306.1 bt306.2 bt308.1 bt308.2 true bt300.1 bt300.2.1 bt300.2.2.1 bt300.2.2.2.1 bt300.2.2.2.2)) else (pleatlaw02_IsaNames.j0 k a0 t295 t296 t297 t298 t299 bt306.1 bt306.2 bt308.1 bt308.2 false bt300.1 bt300.2.1 bt300.2.2.1 bt300.2.2.2.1 bt300.2.2.2.2)) else (pleatlaw02_IsaNames.j0 k a0 t295 t296 t297 t298 t299 bt306.1 bt306.2 bt308.1 bt308.2 false bt300.1 bt300.2.1 bt300.2.2.1 bt300.2.2.2.1 bt300.2.2.2.2))))))) = some r := H
  have A3 := Aside0.mk A30
  clear A30
  replace H := Option.bind_eq_some_iff.mp H
  obtain ⟨⟨t300, t301, t302, t303, t304⟩, A40, H⟩ := H
  replace H : ((isa_Of.f a1).bind fun bt306 => ((pleatref02_Of.f k a1).bind fun bt308 => ((isa_Name.f a0).bind fun t310 => ((isa_Of.f t310).bind fun bt311 => (if a0 ≥ 0 then (if a0 ≤ 21 then (if bt311.1 = a0 then (pleatlaw02_IsaNames.j0 k a0 t295 t296 t297 t298 t299 bt306.1 bt306.2 bt308.1 bt308.2 (!bt311.2) t300 t301 t302 t303 t304) else (pleatlaw02_IsaNames.j0 k a0 t295 t296 t297 t298 t299 bt306.1 bt306.2 bt308.1 bt308.2 true t300 t301 t302 t303 t304)) else (pleatlaw02_IsaNames.j0 k a0 t295 t296 t297 t298 t299 bt306.1 bt306.2 bt308.1 bt308.2 false t300 t301 t302 t303 t304)) else (pleatlaw02_IsaNames.j0 k a0 t295 t296 t297 t298 t299 bt306.1 bt306.2 bt308.1 bt308.2 false t300 t301 t302 t303 t304)))))) = some r := H
  have A4 := Aside0.mk A40
  clear A40
  replace H := Option.bind_eq_some_iff.mp H
  obtain ⟨⟨t306, t307⟩, A50, H⟩ := H
  replace H : ((pleatref02_Of.f k a1).bind fun bt308 => ((isa_Name.f a0).bind fun t310 => ((isa_Of.f t310).bind fun bt311 => (if a0 ≥ 0 then (if a0 ≤ 21 then (if bt311.1 = a0 then (pleatlaw02_IsaNames.j0 k a0 t295 t296 t297 t298 t299 t306 t307 bt308.1 bt308.2 (!bt311.2) t300 t301 t302 t303 t304) else (pleatlaw02_IsaNames.j0 k a0 t295 t296 t297 t298 t299 t306 t307 bt308.1 bt308.2 true t300 t301 t302 t303 t304)) else (pleatlaw02_IsaNames.j0 k a0 t295 t296 t297 t298 t299 t306 t307 bt308.1 bt308.2 false t300 t301 t302 t303 t304)) else (pleatlaw02_IsaNames.j0 k a0 t295 t296 t297 t298 t299 t306 t307 bt308.1 bt308.2 false t300 t301 t302 t303 t304))))) = some r := H
  have A5 := Aside0.mk A50
  clear A50
  replace H := Option.bind_eq_some_iff.mp H
  obtain ⟨⟨t308, t309⟩, A60, H⟩ := H
  replace H : ((isa_Name.f a0).bind fun t310 => ((isa_Of.f t310).bind fun bt311 => (if a0 ≥ 0 then (if a0 ≤ 21 then (if bt311.1 = a0 then (pleatlaw02_IsaNames.j0 k a0 t295 t296 t297 t298 t299 t306 t307 t308 t309 (!bt311.2) t300 t301 t302 t303 t304) else (pleatlaw02_IsaNames.j0 k a0 t295 t296 t297 t298 t299 t306 t307 t308 t309 true t300 t301 t302 t303 t304)) else (pleatlaw02_IsaNames.j0 k a0 t295 t296 t297 t298 t299 t306 t307 t308 t309 false t300 t301 t302 t303 t304)) else (pleatlaw02_IsaNames.j0 k a0 t295 t296 t297 t298 t299 t306 t307 t308 t309 false t300 t301 t302 t303 t304)))) = some r := H
  have A6 := Aside0.mk A60
  clear A60
  replace H := Option.bind_eq_some_iff.mp H
  obtain ⟨t310, A70, H⟩ := H
  replace H : ((isa_Of.f t310).bind fun bt311 => (if a0 ≥ 0 then (if a0 ≤ 21 then (if bt311.1 = a0 then (pleatlaw02_IsaNames.j0 k a0 t295 t296 t297 t298 t299 t306 t307 t308 t309 (!bt311.2) t300 t301 t302 t303 t304) else (pleatlaw02_IsaNames.j0 k a0 t295 t296 t297 t298 t299 t306 t307 t308 t309 true t300 t301 t302 t303 t304)) else (pleatlaw02_IsaNames.j0 k a0 t295 t296 t297 t298 t299 t306 t307 t308 t309 false t300 t301 t302 t303 t304)) else (pleatlaw02_IsaNames.j0 k a0 t295 t296 t297 t298 t299 t306 t307 t308 t309 false t300 t301 t302 t303 t304))) = some r := H
  have A7 := Aside0.mk A70
  clear A70
  replace H := Option.bind_eq_some_iff.mp H
  obtain ⟨⟨t311, t312⟩, A80, H⟩ := H
  replace H : (if a0 ≥ 0 then (if a0 ≤ 21 then (if t311 = a0 then (pleatlaw02_IsaNames.j0 k a0 t295 t296 t297 t298 t299 t306 t307 t308 t309 (!t312) t300 t301 t302 t303 t304) else (pleatlaw02_IsaNames.j0 k a0 t295 t296 t297 t298 t299 t306 t307 t308 t309 true t300 t301 t302 t303 t304)) else (pleatlaw02_IsaNames.j0 k a0 t295 t296 t297 t298 t299 t306 t307 t308 t309 false t300 t301 t302 t303 t304)) else (pleatlaw02_IsaNames.j0 k a0 t295 t296 t297 t298 t299 t306 t307 t308 t309 false t300 t301 t302 t303 t304)) = some r := H
  have A8 := Aside0.mk A80
  clear A80
  have HC9 := Aside0.mk H
  clear H
  go_enter Try.func7, Try.ntmps7
  go_upto_region 6 with (first | ((with_reducible refine gate_callee (f := 37) rfl ?_); refine goesL_ (some 19) rfl rfl Try.func37 (by kernel_rfl) rfl #[.int .i8 a0] rfl (by (try simp only [List.map_toArray, List.map_cons, List.map_nil]); first | done | rfl | (simp only [List.length_drop, List.length_take]; rfl)) ?_; (with_reducible refine (isa_Has.calls a0 t295 t296 t297 t298 t299 _ A3.out).mono ?_); rintro e w10 ⟨rfl, hb⟩; refine ⟨_, rfl, ?_⟩; have n0_ := Aside0.mk (below_step (by repeat (first | (with_reducible first | exact HB.out | apply below_alloc | apply pw_below_drewN | apply below_drew1) | exact HB.out)) hb); clear HB; have HB := n0_; clear n0_; (try clear hb); (try clear hb2); (try clear hk); (try clear hi)) | ((with_reducible refine gate_callee (f := 38) rfl ?_); refine goesL_ (some 26) rfl rfl Try.func38 (by kernel_rfl) rfl #[.int .i8 a0] rfl (by (try simp only [List.map_toArray, List.map_cons, List.map_nil]); first | done | rfl | (simp only [List.length_drop, List.length_take]; rfl)) ?_; (with_reducible refine (pleatref02_Has.calls k a0 t300 t301 t302 t303 t304 _ A4.out).mono ?_); rintro e w11 ⟨rfl, hb⟩; refine ⟨_, rfl, ?_⟩; have n0_ := Aside0.mk (below_step (by repeat (first | (with_reducible first | exact HB.out | apply below_alloc | apply pw_below_drewN | apply below_drew1) | exact HB.out)) hb); clear HB; have HB := n0_; clear n0_; (try clear hb); (try clear hb2); (try clear hk); (try clear hi)) | ((with_reducible refine gate_dst (N := 10) rfl ?_); refine box_event ?hg (N := 10) ?hd (cs := #[.bool false, .bool false, .bool false, .bool false, .bool false]) (t := 49) ?hr ?_; (case hd => rfl); (case hg => rfl); (case hr => first | (go_simp; done) | (go_simp; rfl)); intro gb305 hg w12 hbox hb; have n0_ := Aside0.mk (below_step (by repeat (first | (with_reducible first | exact HB.out | apply below_alloc | apply pw_below_drewN | apply below_drew1) | exact HB.out)) hb); have n1_ := Aside0.mk (hbox); have n2_ := Aside0.mk ((by rw [hg]; exact (below_size (by repeat (first | (with_reducible first | exact HB.out | apply below_alloc | apply pw_below_drewN | apply below_drew1) | exact HB.out))) : w.heap.size ≤ gb305)); have n3_ := Aside0.mk ((by rw [hg]; exact (below_size (by repeat (first | (with_reducible first | exact HB.out | apply below_alloc | apply pw_below_drewN | apply below_drew1) | exact HB.out))) : w.heap.size ≤ gb305)); clear HB; have HB := n0_; have BK305 := n1_; have GW305 := n2_; have GE305 := n3_; clear n0_ n1_ n2_ n3_; clear hb hbox hg; have hcz13_0 : w12.cell? ⟨gb305, 0, none⟩ = some (.bool false) := (blk_cell BK305.out 0).trans rfl; have hcz13_1 : w12.cell? ⟨gb305, 1, none⟩ = some (.bool false) := (blk_cell BK305.out 1).trans rfl; have hcz13_2 : w12.cell? ⟨gb305, 2, none⟩ = some (.bool false) := (blk_cell BK305.out 2).trans rfl; have hcz13_3 : w12.cell? ⟨gb305, 3, none⟩ = some (.bool false) := (blk_cell BK305.out 3).trans rfl; have hcz13_4 : w12.cell? ⟨gb305, 4, none⟩ = some (.bool false) := (blk_cell BK305.out 4).trans rfl; have hfz13_0 := blk_frozen BK305.out 0; have hfz13_1 := blk_frozen BK305.out 1; have hfz13_2 := blk_frozen BK305.out 2; have hfz13_3 := blk_frozen BK305.out 3; have hfz13_4 := blk_frozen BK305.out 4) | ((with_reducible refine gate_callee (f := 39) rfl ?_); refine goesL_ (some 29) rfl rfl Try.func39 (by kernel_rfl) rfl #[.string a1] rfl (by (try simp only [List.map_toArray, List.map_cons, List.map_nil]); first | done | rfl | (simp only [List.length_drop, List.length_take]; rfl)) ?_; (with_reducible refine (isa_Of.calls a1 t306 t307 _ A5.out).mono ?_); rintro e w14 ⟨rfl, hb⟩; refine ⟨_, rfl, ?_⟩; have n0_ := Aside0.mk (blk_below (g := gb305) (o := .cells #[.bool t300, .bool t301, .bool t302, .bool t303, .bool t304] 49 (0, 0)) (by (with_reducible repeat (first | refine blk_drewN ?_ _ | refine blk_drew ?_ | refine blk_alloc ?_ _)); refine blk_put (cs := #[.bool t300, .bool t301, .bool t302, .bool t303, .bool false]) ?_ 4 _ rfl; (with_reducible repeat (first | refine blk_drewN ?_ _ | refine blk_drew ?_ | refine blk_alloc ?_ _)); refine blk_put (cs := #[.bool t300, .bool t301, .bool t302, .bool false, .bool false]) ?_ 3 _ rfl; (with_reducible repeat (first | refine blk_drewN ?_ _ | refine blk_drew ?_ | refine blk_alloc ?_ _)); refine blk_put (cs := #[.bool t300, .bool t301, .bool false, .bool false, .bool false]) ?_ 2 _ rfl; (with_reducible repeat (first | refine blk_drewN ?_ _ | refine blk_drew ?_ | refine blk_alloc ?_ _)); refine blk_put (cs := #[.bool t300, .bool false, .bool false, .bool false, .bool false]) ?_ 1 _ rfl; (with_reducible repeat (first | refine blk_drewN ?_ _ | refine blk_drew ?_ | refine blk_alloc ?_ _)); refine blk_put (cs := #[.bool false, .bool false, .bool false, .bool false, .bool false]) ?_ 0 _ rfl; (with_reducible repeat (first | refine blk_drewN ?_ _ | refine blk_drew ?_ | refine blk_alloc ?_ _)); exact BK305.out) hb); have n1_ := Aside0.mk (below_step (by repeat (first | (with_reducible first | exact HB.out | apply below_alloc | apply pw_below_drewN | apply below_drew1 | refine below_set ?_ GE305.out) | exact HB.out)) hb); clear BK305; clear HB; have BK305 := n0_; have HB := n1_; clear n0_ n1_; (try clear hb); (try clear hb2); (try clear hk); (try clear hi)) | ((with_reducible refine gate_callee (f := 40) rfl ?_); refine goesL_ (some 34) rfl rfl Try.func40 (by kernel_rfl) rfl #[.string a1] rfl (by (try simp only [List.map_toArray, List.map_cons, List.map_nil]); first | done | rfl | (simp only [List.length_drop, List.length_take]; rfl)) ?_; (with_reducible refine (pleatref02_Of.calls k a1 t308 t309 _ A6.out).mono ?_); rintro e w' ⟨rfl, ⟨nd, rfl⟩⟩; refine ⟨_, rfl, ?_⟩) | ((with_reducible refine gate_callee (f := 41) rfl ?_); refine goesL_ (some 39) rfl rfl Try.func41 (by kernel_rfl) rfl #[.int .i8 a0] rfl (by (try simp only [List.map_toArray, List.map_cons, List.map_nil]); first | done | rfl | (simp only [List.length_drop, List.length_take]; rfl)) ?_; (with_reducible refine (isa_Name.calls a0 t310 _ A7.out).mono ?_); rintro e w15 ⟨rfl, hb⟩; refine ⟨_, rfl, ?_⟩; have n0_ := Aside0.mk (blk_below (g := gb305) (o := .cells #[.bool t300, .bool t301, .bool t302, .bool t303, .bool t304] 49 (0, 0)) (by (with_reducible repeat (first | refine blk_drewN ?_ _ | refine blk_drew ?_ | refine blk_alloc ?_ _)); exact BK305.out) hb); have n1_ := Aside0.mk (below_step (by repeat (first | (with_reducible first | exact HB.out | apply below_alloc | apply pw_below_drewN | apply below_drew1 | refine below_set ?_ GE305.out) | exact HB.out)) hb); clear BK305; clear HB; have BK305 := n0_; have HB := n1_; clear n0_ n1_; (try clear hb); (try clear hb2); (try clear hk); (try clear hi)) | ((with_reducible refine gate_callee (f := 39) rfl ?_); refine goesL_ (some 40) rfl rfl Try.func39 (by kernel_rfl) rfl #[.string t310] rfl (by (try simp only [List.map_toArray, List.map_cons, List.map_nil]); first | done | rfl | (simp only [List.length_drop, List.length_take]; rfl)) ?_; (with_reducible refine (isa_Of.calls t310 t311 t312 _ A8.out).mono ?_); rintro e w16 ⟨rfl, hb⟩; refine ⟨_, rfl, ?_⟩; have n0_ := Aside0.mk (blk_below (g := gb305) (o := .cells #[.bool t300, .bool t301, .bool t302, .bool t303, .bool t304] 49 (0, 0)) (by (with_reducible repeat (first | refine blk_drewN ?_ _ | refine blk_drew ?_ | refine blk_alloc ?_ _)); exact BK305.out) hb); have n1_ := Aside0.mk (below_step (by repeat (first | (with_reducible first | exact HB.out | apply below_alloc | apply pw_below_drewN | apply below_drew1 | refine below_set ?_ GE305.out) | exact HB.out)) hb); clear BK305; clear HB; have BK305 := n0_; have HB := n1_; clear n0_ n1_; (try clear hb); (try clear hb2); (try clear hk); (try clear hi)))
  (try simp only [Act.put, List.setIfInBounds_toArray, List.set_cons_zero, List.set_cons_succ])
  go_cut [57] (fun v57 wc => ∃ (kq : Nat) (x57_8 : Bool), v57 = .bool x57_8 ∧ Aside0 (pleatlaw02_IsaNames.j0 kq a0 t295 t296 t297 t298 t299 t306 t307 t308 t309 x57_8 t300 t301 t302 t303 t304 = some r) ∧ Aside0 (kq ≤ k) ∧ Aside0 (wc.heap[gb305]? = some (.cells #[.bool t300, .bool t301, .bool t302, .bool t303, .bool t304] 49 (0, 0))) ∧ Aside0 (Below w.heap.size w wc))
  case first =>
    have H := HC9.out
    clear HC9
    by_cases c17 : a0 ≥ 0
    · rw [if_pos c17] at H
      have c17b0 : decide (0 ≤ a0) = true := decide_eq_true c17
      clear c17
      (first | rw [c17b0] | (simp only [i64_w, i32_w]; rw [c17b0]) | skip)
      by_cases c18 : a0 ≤ 21
      · rw [if_pos c18] at H
        have c18b0 : decide (a0 ≤ 21) = true := decide_eq_true c18
        clear c18
        by_cases c19 : t311 = a0
        · rw [if_pos c19] at H
          have c19b0 : (t311 == a0) = true := beq_iff_eq.mpr c19
          have c19b1 : (t311 != a0) = false := bne_eq_false_iff_eq.mpr c19
          clear c19
          have H' := Aside0.mk H
          clear H
          go_wp2
          go_meet
          case rel => exact ⟨_, (!t312), (by first | rfl | (simp; done) | (simp [*]; done)), H', ⟨by first | omega | exact Nat.le_refl _⟩, ⟨by (with_reducible repeat (first | refine blk_drewN ?_ _ | refine blk_drew ?_ | refine blk_alloc ?_ _)); exact BK305.out⟩, ⟨by repeat (first | (with_reducible first | exact HB.out | apply below_alloc | apply pw_below_drewN | apply below_drew1 | refine below_set ?_ GE305.out) | exact HB.out)⟩⟩
        · rw [if_neg c19] at H
          have c19b0 : (t311 == a0) = false := beq_eq_false_iff_ne.mpr c19
          have c19b1 : (t311 != a0) = true := bne_iff_ne.mpr c19
          have H' := Aside0.mk H
          clear H
          go_wp2
          go_meet
          case rel => exact ⟨_, (true), (by first | rfl | (simp; done) | (simp [*]; done)), H', ⟨by first | omega | exact Nat.le_refl _⟩, ⟨by (with_reducible repeat (first | refine blk_drewN ?_ _ | refine blk_drew ?_ | refine blk_alloc ?_ _)); exact BK305.out⟩, ⟨by repeat (first | (with_reducible first | exact HB.out | apply below_alloc | apply pw_below_drewN | apply below_drew1 | refine below_set ?_ GE305.out) | exact HB.out)⟩⟩
      · rw [if_neg c18] at H
        have c18b0 : decide (a0 ≤ 21) = false := decide_eq_false c18
        clear c18
        have H' := Aside0.mk H
        clear H
        go_wp2
        go_meet
        case rel => exact ⟨_, (false), (by first | rfl | (simp; done) | (simp [*]; done)), H', ⟨by first | omega | exact Nat.le_refl _⟩, ⟨by (with_reducible repeat (first | refine blk_drewN ?_ _ | refine blk_drew ?_ | refine blk_alloc ?_ _)); exact BK305.out⟩, ⟨by repeat (first | (with_reducible first | exact HB.out | apply below_alloc | apply pw_below_drewN | apply below_drew1 | refine below_set ?_ GE305.out) | exact HB.out)⟩⟩
    · rw [if_neg c17] at H
      have c17b0 : decide (0 ≤ a0) = false := decide_eq_false c17
      clear c17
      (first | rw [c17b0] | (simp only [i64_w, i32_w]; rw [c17b0]) | skip)
      have H' := Aside0.mk H
      clear H
      go_wp2
      go_meet
      case rel => exact ⟨_, (false), (by first | rfl | (simp; done) | (simp [*]; done)), H', ⟨by first | omega | exact Nat.le_refl _⟩, ⟨by (with_reducible repeat (first | refine blk_drewN ?_ _ | refine blk_drew ?_ | refine blk_alloc ?_ _)); exact BK305.out⟩, ⟨by repeat (first | (with_reducible first | exact HB.out | apply below_alloc | apply pw_below_drewN | apply below_drew1 | refine below_set ?_ GE305.out) | exact HB.out)⟩⟩
  case rest =>
    clear HC9
    try clear c1
    try clear p2
    try clear c3
    try clear c4
    try clear c7
    try clear c17
    try clear c17b0
    try clear c18
    try clear c18b0
    try clear c19
    try clear c19b0
    try clear c19b1
    try clear hcz13_0
    try clear hcz13_1
    try clear hcz13_2
    try clear hcz13_3
    try clear hcz13_4
    try clear hfz13_0
    try clear hfz13_1
    try clear hfz13_2
    try clear hfz13_3
    try clear hfz13_4
    obtain ⟨kq, x57_8, rfl, HA, HJ8, BK305, HB⟩ := hcut
    cases kq with
    | zero => exact absurd HA.out (by simp [pleatlaw02_IsaNames.j0])
    | succ kj8 =>
      have H := HA.out
      clear HA
      simp only [pleatlaw02_IsaNames.j0] at H
      by_cases c20 : x57_8 = true
      · subst c20
        have H1 : (some false) = some r := by rw [if_pos rfl] at H; exact H
        clear H
        have H := H1
        clear H1
        obtain rfl := Option.some.inj H
        go_wp2
        go_ret
        exact ⟨by first | rfl | (simp [errW_none, errW_some] <;> rfl) | (simp [*, errW_none, errW_some] <;> rfl), by repeat (first | (with_reducible first | exact HB.out | apply below_alloc | apply pw_below_drewN | apply below_drew1 | refine below_set ?_ GE305.out) | exact HB.out)⟩
      · replace c20 := Bool.eq_false_iff.mpr c20
        subst c20
        have H1 : ((isa_Name.f a0).bind fun t313 => ((pleatref02_Name.f kj8 a0).bind fun t314 => (if t313.toList = t314.toList then (if t306 = t308 then (if (t307 == t309) = true then (if (t300 == t295 && (t301 == t296 && (t302 == t297 && (t303 == t298 && (t304 == t299))))) = true then ((pleatlaw02_works.f kj8).bind fun t315 => (some t315)) else (some false)) else (some false)) else (some false)) else (some false)))) = some r := by rw [if_neg (show ¬ (false = true) by decide)] at H; exact H
        clear H
        have H := H1
        clear H1
        replace H := Option.bind_eq_some_iff.mp H
        obtain ⟨t313, A210, H⟩ := H
        replace H : ((pleatref02_Name.f kj8 a0).bind fun t314 => (if t313.toList = t314.toList then (if t306 = t308 then (if (t307 == t309) = true then (if (t300 == t295 && (t301 == t296 && (t302 == t297 && (t303 == t298 && (t304 == t299))))) = true then ((pleatlaw02_works.f kj8).bind fun t315 => (some t315)) else (some false)) else (some false)) else (some false)) else (some false))) = some r := H
        have A21 := Aside0.mk A210
        clear A210
        replace H := Option.bind_eq_some_iff.mp H
        obtain ⟨t314, A220, H⟩ := H
        replace H : (if t313.toList = t314.toList then (if t306 = t308 then (if (t307 == t309) = true then (if (t300 == t295 && (t301 == t296 && (t302 == t297 && (t303 == t298 && (t304 == t299))))) = true then ((pleatlaw02_works.f kj8).bind fun t315 => (some t315)) else (some false)) else (some false)) else (some false)) else (some false)) = some r := H
        have A22 := Aside0.mk A220
        clear A220
        by_cases c23 : t313.toList = t314.toList
        · rw [if_pos c23] at H
          have c23b0 : (t313.toList == t314.toList) = true := beq_iff_eq.mpr c23
          have c23b1 : (t313.toList != t314.toList) = false := bne_eq_false_iff_eq.mpr c23
          clear c23
          by_cases c24 : t306 = t308
          · rw [if_pos c24] at H
            have c24b0 : (t306 == t308) = true := beq_iff_eq.mpr c24
            have c24b1 : (t306 != t308) = false := bne_eq_false_iff_eq.mpr c24
            clear c24
            by_cases c25 : (t307 == t309) = true
            · rw [if_pos c25] at H
              have c25b0 : (t307 == t309) = true := c25
              (try (have c25b1 : decide (t307 = t309) = true := by simpa using c25))
              (try (have c25b2 : (t307 == t309) = true := by simpa using c25))
              clear c25
              by_cases c26 : (t300 == t295 && (t301 == t296 && (t302 == t297 && (t303 == t298 && (t304 == t299))))) = true
              · rw [if_pos c26] at H
                have c26b0 : (t300 == t295 && (t301 == t296 && (t302 == t297 && (t303 == t298 && (t304 == t299))))) = true := c26
                (try (have c26b1 : decide (t300 = t295 && (t301 == t296 && (t302 == t297 && (t303 == t298 && (t304 == t299))))) = true := by simpa using c26))
                (try (have c26b2 : (t300 == t295 && (t301 == t296 && (t302 == t297 && (t303 == t298 && (t304 == t299))))) = true := by simpa using c26))
                clear c26
                replace H := Option.bind_eq_some_iff.mp H
                obtain ⟨t315, A270, H⟩ := H
                replace H : (some t315) = some r := H
                have A27 := Aside0.mk A270
                clear A270
                obtain rfl := Option.some.inj H
                go_wp2_with (first | ((with_reducible refine gate_callee (f := 41) rfl ?_); refine goesL_ (some 59) rfl rfl Try.func41 (by kernel_rfl) rfl #[.int .i8 a0] rfl (by (try simp only [List.map_toArray, List.map_cons, List.map_nil]); first | done | rfl | (simp only [List.length_drop, List.length_take]; rfl)) ?_; (with_reducible refine (isa_Name.calls a0 t313 _ A21.out).mono ?_); rintro e w28 ⟨rfl, hb⟩; refine ⟨_, rfl, ?_⟩; have n0_ := Aside0.mk (blk_below (g := gb305) (o := .cells #[.bool t300, .bool t301, .bool t302, .bool t303, .bool t304] 49 (0, 0)) (by (with_reducible repeat (first | refine blk_drewN ?_ _ | refine blk_drew ?_ | refine blk_alloc ?_ _)); exact BK305.out) hb); have n1_ := Aside0.mk (below_step (by repeat (first | (with_reducible first | exact HB.out | apply below_alloc | apply pw_below_drewN | apply below_drew1 | refine below_set ?_ GE305.out) | exact HB.out)) hb); clear BK305; clear HB; have BK305 := n0_; have HB := n1_; clear n0_ n1_; (try clear hb); (try clear hb2); (try clear hk); (try clear hi)) | ((with_reducible refine gate_callee (f := 42) rfl ?_); refine goesL_ (some 61) rfl rfl Try.func42 (by kernel_rfl) rfl #[.int .i8 a0] rfl (by (try simp only [List.map_toArray, List.map_cons, List.map_nil]); first | done | rfl | (simp only [List.length_drop, List.length_take]; rfl)) ?_; (with_reducible refine (pleatref02_Name.calls kj8 a0 t314 _ A22.out).mono ?_); rintro e w' ⟨rfl, ⟨nd, rfl⟩⟩; refine ⟨_, rfl, ?_⟩; have hcz29_0 : w28.cell? ⟨gb305, 0, none⟩ = some (.bool t300) := (blk_cell BK305.out 0).trans rfl; have hcz29_1 : w28.cell? ⟨gb305, 1, none⟩ = some (.bool t301) := (blk_cell BK305.out 1).trans rfl; have hcz29_2 : w28.cell? ⟨gb305, 2, none⟩ = some (.bool t302) := (blk_cell BK305.out 2).trans rfl; have hcz29_3 : w28.cell? ⟨gb305, 3, none⟩ = some (.bool t303) := (blk_cell BK305.out 3).trans rfl; have hcz29_4 : w28.cell? ⟨gb305, 4, none⟩ = some (.bool t304) := (blk_cell BK305.out 4).trans rfl; have hfz29_0 := blk_frozen BK305.out 0; have hfz29_1 := blk_frozen BK305.out 1; have hfz29_2 := blk_frozen BK305.out 2; have hfz29_3 := blk_frozen BK305.out 3; have hfz29_4 := blk_frozen BK305.out 4) | (go_at_call 33; (with_reducible refine (pleatlaw02_works.calls kj8  t315 _ A27.out).mono ?_); rintro e w30 ⟨rfl, hb⟩; have n0_ := Aside0.mk (blk_below (g := gb305) (o := .cells #[.bool t300, .bool t301, .bool t302, .bool t303, .bool t304] 49 (0, 0)) (by (with_reducible repeat (first | refine blk_drewN ?_ _ | refine blk_drew ?_ | refine blk_alloc ?_ _)); exact BK305.out) hb); have n1_ := Aside0.mk (below_step (by repeat (first | (with_reducible first | exact HB.out | apply below_alloc | apply pw_below_drewN | apply below_drew1 | refine below_set ?_ GE305.out) | exact HB.out)) hb); clear BK305; clear HB; have BK305 := n0_; have HB := n1_; clear n0_ n1_; (try clear hb); (try clear hb2); (try clear hk); (try clear hi)))
                go_ret
                exact ⟨by first | rfl | (simp [errW_none, errW_some] <;> rfl) | (simp [*, errW_none, errW_some] <;> rfl), by repeat (first | (with_reducible first | exact HB.out | apply below_alloc | apply pw_below_drewN | apply below_drew1 | refine below_set ?_ GE305.out) | exact HB.out)⟩
              · rw [if_neg c26] at H
                have c26b0 : (t300 == t295 && (t301 == t296 && (t302 == t297 && (t303 == t298 && (t304 == t299))))) = false := by simpa using c26
                (try (have c26b1 : decide (t300 = t295 && (t301 == t296 && (t302 == t297 && (t303 == t298 && (t304 == t299))))) = false := by simpa using c26))
                (try (have c26b2 : (t300 == t295 && (t301 == t296 && (t302 == t297 && (t303 == t298 && (t304 == t299))))) = false := by simpa using c26))
                (try (have c26b3 : ¬ (t300 = t295 && (t301 == t296 && (t302 == t297 && (t303 == t298 && (t304 == t299))))) := by simpa using c26))
                clear c26
                obtain rfl := Option.some.inj H
                go_wp2_with (first | ((with_reducible refine gate_callee (f := 41) rfl ?_); refine goesL_ (some 59) rfl rfl Try.func41 (by kernel_rfl) rfl #[.int .i8 a0] rfl (by (try simp only [List.map_toArray, List.map_cons, List.map_nil]); first | done | rfl | (simp only [List.length_drop, List.length_take]; rfl)) ?_; (with_reducible refine (isa_Name.calls a0 t313 _ A21.out).mono ?_); rintro e w31 ⟨rfl, hb⟩; refine ⟨_, rfl, ?_⟩; have n0_ := Aside0.mk (blk_below (g := gb305) (o := .cells #[.bool t300, .bool t301, .bool t302, .bool t303, .bool t304] 49 (0, 0)) (by (with_reducible repeat (first | refine blk_drewN ?_ _ | refine blk_drew ?_ | refine blk_alloc ?_ _)); exact BK305.out) hb); have n1_ := Aside0.mk (below_step (by repeat (first | (with_reducible first | exact HB.out | apply below_alloc | apply pw_below_drewN | apply below_drew1 | refine below_set ?_ GE305.out) | exact HB.out)) hb); clear BK305; clear HB; have BK305 := n0_; have HB := n1_; clear n0_ n1_; (try clear hb); (try clear hb2); (try clear hk); (try clear hi)) | ((with_reducible refine gate_callee (f := 42) rfl ?_); refine goesL_ (some 61) rfl rfl Try.func42 (by kernel_rfl) rfl #[.int .i8 a0] rfl (by (try simp only [List.map_toArray, List.map_cons, List.map_nil]); first | done | rfl | (simp only [List.length_drop, List.length_take]; rfl)) ?_; (with_reducible refine (pleatref02_Name.calls kj8 a0 t314 _ A22.out).mono ?_); rintro e w' ⟨rfl, ⟨nd, rfl⟩⟩; refine ⟨_, rfl, ?_⟩; have hcz32_0 : w31.cell? ⟨gb305, 0, none⟩ = some (.bool t300) := (blk_cell BK305.out 0).trans rfl; have hcz32_1 : w31.cell? ⟨gb305, 1, none⟩ = some (.bool t301) := (blk_cell BK305.out 1).trans rfl; have hcz32_2 : w31.cell? ⟨gb305, 2, none⟩ = some (.bool t302) := (blk_cell BK305.out 2).trans rfl; have hcz32_3 : w31.cell? ⟨gb305, 3, none⟩ = some (.bool t303) := (blk_cell BK305.out 3).trans rfl; have hcz32_4 : w31.cell? ⟨gb305, 4, none⟩ = some (.bool t304) := (blk_cell BK305.out 4).trans rfl; have hfz32_0 := blk_frozen BK305.out 0; have hfz32_1 := blk_frozen BK305.out 1; have hfz32_2 := blk_frozen BK305.out 2; have hfz32_3 := blk_frozen BK305.out 3; have hfz32_4 := blk_frozen BK305.out 4))
                go_ret
                exact ⟨by first | rfl | (simp [errW_none, errW_some] <;> rfl) | (simp [*, errW_none, errW_some] <;> rfl), by repeat (first | (with_reducible first | exact HB.out | apply below_alloc | apply pw_below_drewN | apply below_drew1 | refine below_set ?_ GE305.out) | exact HB.out)⟩
            · rw [if_neg c25] at H
              have c25b0 : (t307 == t309) = false := by simpa using c25
              (try (have c25b1 : decide (t307 = t309) = false := by simpa using c25))
              (try (have c25b2 : (t307 == t309) = false := by simpa using c25))
              (try (have c25b3 : ¬ (t307 = t309) := by simpa using c25))
              clear c25
              obtain rfl := Option.some.inj H
              go_wp2_with (first | ((with_reducible refine gate_callee (f := 41) rfl ?_); refine goesL_ (some 59) rfl rfl Try.func41 (by kernel_rfl) rfl #[.int .i8 a0] rfl (by (try simp only [List.map_toArray, List.map_cons, List.map_nil]); first | done | rfl | (simp only [List.length_drop, List.length_take]; rfl)) ?_; (with_reducible refine (isa_Name.calls a0 t313 _ A21.out).mono ?_); rintro e w33 ⟨rfl, hb⟩; refine ⟨_, rfl, ?_⟩; have n0_ := Aside0.mk (blk_below (g := gb305) (o := .cells #[.bool t300, .bool t301, .bool t302, .bool t303, .bool t304] 49 (0, 0)) (by (with_reducible repeat (first | refine blk_drewN ?_ _ | refine blk_drew ?_ | refine blk_alloc ?_ _)); exact BK305.out) hb); have n1_ := Aside0.mk (below_step (by repeat (first | (with_reducible first | exact HB.out | apply below_alloc | apply pw_below_drewN | apply below_drew1 | refine below_set ?_ GE305.out) | exact HB.out)) hb); clear BK305; clear HB; have BK305 := n0_; have HB := n1_; clear n0_ n1_; (try clear hb); (try clear hb2); (try clear hk); (try clear hi)) | ((with_reducible refine gate_callee (f := 42) rfl ?_); refine goesL_ (some 61) rfl rfl Try.func42 (by kernel_rfl) rfl #[.int .i8 a0] rfl (by (try simp only [List.map_toArray, List.map_cons, List.map_nil]); first | done | rfl | (simp only [List.length_drop, List.length_take]; rfl)) ?_; (with_reducible refine (pleatref02_Name.calls kj8 a0 t314 _ A22.out).mono ?_); rintro e w' ⟨rfl, ⟨nd, rfl⟩⟩; refine ⟨_, rfl, ?_⟩))
              go_ret
              exact ⟨by first | rfl | (simp [errW_none, errW_some] <;> rfl) | (simp [*, errW_none, errW_some] <;> rfl), by repeat (first | (with_reducible first | exact HB.out | apply below_alloc | apply pw_below_drewN | apply below_drew1 | refine below_set ?_ GE305.out) | exact HB.out)⟩
          · rw [if_neg c24] at H
            have c24b0 : (t306 == t308) = false := beq_eq_false_iff_ne.mpr c24
            have c24b1 : (t306 != t308) = true := bne_iff_ne.mpr c24
            obtain rfl := Option.some.inj H
            go_wp2_with (first | ((with_reducible refine gate_callee (f := 41) rfl ?_); refine goesL_ (some 59) rfl rfl Try.func41 (by kernel_rfl) rfl #[.int .i8 a0] rfl (by (try simp only [List.map_toArray, List.map_cons, List.map_nil]); first | done | rfl | (simp only [List.length_drop, List.length_take]; rfl)) ?_; (with_reducible refine (isa_Name.calls a0 t313 _ A21.out).mono ?_); rintro e w34 ⟨rfl, hb⟩; refine ⟨_, rfl, ?_⟩; have n0_ := Aside0.mk (blk_below (g := gb305) (o := .cells #[.bool t300, .bool t301, .bool t302, .bool t303, .bool t304] 49 (0, 0)) (by (with_reducible repeat (first | refine blk_drewN ?_ _ | refine blk_drew ?_ | refine blk_alloc ?_ _)); exact BK305.out) hb); have n1_ := Aside0.mk (below_step (by repeat (first | (with_reducible first | exact HB.out | apply below_alloc | apply pw_below_drewN | apply below_drew1 | refine below_set ?_ GE305.out) | exact HB.out)) hb); clear BK305; clear HB; have BK305 := n0_; have HB := n1_; clear n0_ n1_; (try clear hb); (try clear hb2); (try clear hk); (try clear hi)) | ((with_reducible refine gate_callee (f := 42) rfl ?_); refine goesL_ (some 61) rfl rfl Try.func42 (by kernel_rfl) rfl #[.int .i8 a0] rfl (by (try simp only [List.map_toArray, List.map_cons, List.map_nil]); first | done | rfl | (simp only [List.length_drop, List.length_take]; rfl)) ?_; (with_reducible refine (pleatref02_Name.calls kj8 a0 t314 _ A22.out).mono ?_); rintro e w' ⟨rfl, ⟨nd, rfl⟩⟩; refine ⟨_, rfl, ?_⟩))
            go_ret
            exact ⟨by first | rfl | (simp [errW_none, errW_some] <;> rfl) | (simp [*, errW_none, errW_some] <;> rfl), by repeat (first | (with_reducible first | exact HB.out | apply below_alloc | apply pw_below_drewN | apply below_drew1 | refine below_set ?_ GE305.out) | exact HB.out)⟩
        · rw [if_neg c23] at H
          have c23b0 : (t313.toList == t314.toList) = false := beq_eq_false_iff_ne.mpr c23
          have c23b1 : (t313.toList != t314.toList) = true := bne_iff_ne.mpr c23
          obtain rfl := Option.some.inj H
          go_wp2_with (first | ((with_reducible refine gate_callee (f := 41) rfl ?_); refine goesL_ (some 59) rfl rfl Try.func41 (by kernel_rfl) rfl #[.int .i8 a0] rfl (by (try simp only [List.map_toArray, List.map_cons, List.map_nil]); first | done | rfl | (simp only [List.length_drop, List.length_take]; rfl)) ?_; (with_reducible refine (isa_Name.calls a0 t313 _ A21.out).mono ?_); rintro e w35 ⟨rfl, hb⟩; refine ⟨_, rfl, ?_⟩; have n0_ := Aside0.mk (blk_below (g := gb305) (o := .cells #[.bool t300, .bool t301, .bool t302, .bool t303, .bool t304] 49 (0, 0)) (by (with_reducible repeat (first | refine blk_drewN ?_ _ | refine blk_drew ?_ | refine blk_alloc ?_ _)); exact BK305.out) hb); have n1_ := Aside0.mk (below_step (by repeat (first | (with_reducible first | exact HB.out | apply below_alloc | apply pw_below_drewN | apply below_drew1 | refine below_set ?_ GE305.out) | exact HB.out)) hb); clear BK305; clear HB; have BK305 := n0_; have HB := n1_; clear n0_ n1_; (try clear hb); (try clear hb2); (try clear hk); (try clear hi)) | ((with_reducible refine gate_callee (f := 42) rfl ?_); refine goesL_ (some 61) rfl rfl Try.func42 (by kernel_rfl) rfl #[.int .i8 a0] rfl (by (try simp only [List.map_toArray, List.map_cons, List.map_nil]); first | done | rfl | (simp only [List.length_drop, List.length_take]; rfl)) ?_; (with_reducible refine (pleatref02_Name.calls kj8 a0 t314 _ A22.out).mono ?_); rintro e w' ⟨rfl, ⟨nd, rfl⟩⟩; refine ⟨_, rfl, ?_⟩))
          go_ret
          exact ⟨by first | rfl | (simp [errW_none, errW_some] <;> rfl) | (simp [*, errW_none, errW_some] <;> rfl), by repeat (first | (with_reducible first | exact HB.out | apply below_alloc | apply pw_below_drewN | apply below_drew1 | refine below_set ?_ GE305.out) | exact HB.out)⟩

end Go.Proofs.Ytiaohbbafaaibaa.P
