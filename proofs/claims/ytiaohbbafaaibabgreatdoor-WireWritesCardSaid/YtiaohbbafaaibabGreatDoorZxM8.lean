/- OWN TEXT and printed parts of this claim, laid together: P10, P11. -/
import Derived.Test.YtiaohbbafaaibabGreatDoorZxM0
/- What the Go functions named below come to, as plain functions, each with its proof; written by this session's prt.py over the kit's print. -/
namespace Go.Proofs.YtiaohbbafaaibabGreatDoor.P
open Go.RowKit Go.Proofs.YtiaohbbafaaibabGreatDoorW.PrintWords Go.Proofs.YtiaohbbafaaibabGreatDoorW.PrintLast Go.Proofs.YtiaohbbafaaibabGreatDoorW.PrintMore
attribute [local go_sem] max2_int min2_int max_two min_two max_three min_three max_four min_four   -- for this text's walks alone
set_option linter.unusedVariables false
set_option linter.unusedSimpArgs false
/-! ### pleatref03_letter: function 117 -/
def pleatref03_letter.f (a0 : Int) : Option (Bool) := if a0 ≥ 97 then (if a0 ≤ 122 then (some true) else (if a0 ≥ 65 then (if a0 ≤ 90 then (some true) else (some (a0 == 95))) else (some (a0 == 95)))) else (if a0 ≥ 65 then (if a0 ≤ 90 then (some true) else (some (a0 == 95))) else (some (a0 == 95)))
set_option maxHeartbeats 8000000 in
set_option maxRecDepth 100000 in
theorem pleatref03_letter.calls (a0 : Int) (r : Bool) (w : World) (h : pleatref03_letter.f a0 = some r) :
  Calls Tryz.prog 117 #[.int .u8 a0] w fun e w' => e = .returned (.bool r) ∧ Drawn0 w w' := by
 have H : (if a0 ≥ 97 then (if a0 ≤ 122 then (some true) else (if a0 ≥ 65 then (if a0 ≤ 90 then (some true) else (some (a0 == 95))) else (some (a0 == 95)))) else (if a0 ≥ 65 then (if a0 ≤ 90 then (some true) else (some (a0 == 95))) else (some (a0 == 95)))) = some r := h
 clear h
 by_cases c2 : a0 ≥ 97
 ·
  rw [if_pos c2] at H
  have c2b0 : decide (97 ≤ a0) = true := decide_eq_true c2
  clear c2
  by_cases c3 : a0 ≤ 122
  ·
   rw [if_pos c3] at H
   have c3b0 : decide (a0 ≤ 122) = true := decide_eq_true c3
   clear c3
   obtain rfl := Option.some.inj H
   go_enter Tryz.func117, Tryz.ntmps117
   go_wp2
   go_ret
   exact ⟨by first | rfl | (simp; done) | (simp [*]; done), by repeat (first | exact Drawn0.refl _ | apply Drawn0.step)⟩
  ·
   rw [if_neg c3] at H
   have c3b0 : decide (a0 ≤ 122) = false := decide_eq_false c3
   clear c3
   by_cases c4 : a0 ≥ 65
   ·
    rw [if_pos c4] at H
    have c4b0 : decide (65 ≤ a0) = true := decide_eq_true c4
    clear c4
    by_cases c5 : a0 ≤ 90
    ·
     rw [if_pos c5] at H
     have c5b0 : decide (a0 ≤ 90) = true := decide_eq_true c5
     clear c5
     obtain rfl := Option.some.inj H
     go_enter Tryz.func117, Tryz.ntmps117
     go_wp2
     go_ret
     exact ⟨by first | rfl | (simp; done) | (simp [*]; done), by repeat (first | exact Drawn0.refl _ | apply Drawn0.step)⟩
    ·
     rw [if_neg c5] at H
     have c5b0 : decide (a0 ≤ 90) = false := decide_eq_false c5
     clear c5
     obtain rfl := Option.some.inj H
     go_enter Tryz.func117, Tryz.ntmps117
     go_wp2
     go_ret
     exact ⟨by first | rfl | (simp; done) | (simp [*]; done), by repeat (first | exact Drawn0.refl _ | apply Drawn0.step)⟩
   ·
    rw [if_neg c4] at H
    have c4b0 : decide (65 ≤ a0) = false := decide_eq_false c4
    clear c4
    obtain rfl := Option.some.inj H
    go_enter Tryz.func117, Tryz.ntmps117
    go_wp2
    go_ret
    exact ⟨by first | rfl | (simp; done) | (simp [*]; done), by repeat (first | exact Drawn0.refl _ | apply Drawn0.step)⟩
 ·
  rw [if_neg c2] at H
  have c2b0 : decide (97 ≤ a0) = false := decide_eq_false c2
  clear c2
  by_cases c6 : a0 ≥ 65
  ·
   rw [if_pos c6] at H
   have c6b0 : decide (65 ≤ a0) = true := decide_eq_true c6
   clear c6
   by_cases c7 : a0 ≤ 90
   ·
    rw [if_pos c7] at H
    have c7b0 : decide (a0 ≤ 90) = true := decide_eq_true c7
    clear c7
    obtain rfl := Option.some.inj H
    go_enter Tryz.func117, Tryz.ntmps117
    go_wp2
    go_ret
    exact ⟨by first | rfl | (simp; done) | (simp [*]; done), by repeat (first | exact Drawn0.refl _ | apply Drawn0.step)⟩
   ·
    rw [if_neg c7] at H
    have c7b0 : decide (a0 ≤ 90) = false := decide_eq_false c7
    clear c7
    obtain rfl := Option.some.inj H
    go_enter Tryz.func117, Tryz.ntmps117
    go_wp2
    go_ret
    exact ⟨by first | rfl | (simp; done) | (simp [*]; done), by repeat (first | exact Drawn0.refl _ | apply Drawn0.step)⟩
  ·
   rw [if_neg c6] at H
   have c6b0 : decide (65 ≤ a0) = false := decide_eq_false c6
   clear c6
   obtain rfl := Option.some.inj H
   go_enter Tryz.func117, Tryz.ntmps117
   go_wp2
   go_ret
   exact ⟨by first | rfl | (simp; done) | (simp [*]; done), by repeat (first | exact Drawn0.refl _ | apply Drawn0.step)⟩


/-! ### pleatref03_Name: function 105 -/
mutual
def pleatref03_Name.j0 : Nat → ByteArray → Bool → Option (Bool)
 | 0, _, _ => none
 | k + 1, x0, x17 => if x17 = true then (some false) else (pleatref03_Name.l0 k x0 1)
def pleatref03_Name.l0 : Nat → ByteArray → Int → Option (Bool)
 | 0, _, _ => none
 | k + 1, x0, x3 => if x3 < (x0.size : Int) then (if 0 ≤ x3 then ((pleatref03_letter.f (bt x0 x3)).bind fun t233 => (if t233 = true then (pleatref03_Name.l0 k x0 (wrap64 (x3 + 1))) else (if (bt x0 x3) ≥ 48 then (if ((bt x0 x3) ≤ 57) then (pleatref03_Name.l0 k x0 (wrap64 (x3 + 1))) else (if (bt x0 x3) = 46 then (pleatref03_Name.l0 k x0 (wrap64 (x3 + 1))) else (some false))) else (if (bt x0 x3) = 46 then (pleatref03_Name.l0 k x0 (wrap64 (x3 + 1))) else (some false))))) else (none)) else (some true)
end
def pleatref03_Name.f (k : Nat) (a0 : ByteArray) : Option (Bool) := if (a0.size : Int) = 0 then (pleatref03_Name.j0 k a0 true) else (if (a0.size : Int) > 24 then (pleatref03_Name.j0 k a0 true) else (if 0 < (a0.size : Int) then ((pleatref03_letter.f (bt a0 0)).bind fun t232 => (pleatref03_Name.j0 k a0 (!t232))) else (none)))
theorem pleatref03_Name.mono_l : ∀ k, (∀ y0 y1, LeO (pleatref03_Name.j0 k y0 y1) (pleatref03_Name.j0 (k + 1) y0 y1)) ∧ (∀ y0 y1, LeO (pleatref03_Name.l0 k y0 y1) (pleatref03_Name.l0 (k + 1) y0 y1))
 | 0 => ⟨fun _ _ r h => by simp [pleatref03_Name.j0] at h, fun _ _ r h => by simp [pleatref03_Name.l0] at h⟩
 | k + 1 => by
  obtain ⟨ih0, ih1⟩ := pleatref03_Name.mono_l k
  refine ⟨?_, ?_⟩
  ·
   intro y0 y1
   unfold pleatref03_Name.j0
   repeat' first
   | (with_reducible first | exact ih0 _ _ | exact ih1 _ _ | exact LeO.refl _ | exact LeO.none _ | refine LeO.ite ?_ ?_ | refine LeO.bind ?_ (fun _ => ?_))
  ·
   intro y0 y1
   unfold pleatref03_Name.l0
   repeat' first
   | (with_reducible first | exact ih0 _ _ | exact ih1 _ _ | exact LeO.refl _ | exact LeO.none _ | refine LeO.ite ?_ ?_ | refine LeO.bind ?_ (fun _ => ?_))
theorem pleatref03_Name.mono : ∀ a0 k, LeO (pleatref03_Name.f k a0) (pleatref03_Name.f (k + 1) a0) := by
 intro a0 k
 obtain ⟨ih0, ih1⟩ := pleatref03_Name.mono_l k
 unfold pleatref03_Name.f
 repeat' first
   | (with_reducible first | exact ih0 _ _ | exact ih1 _ _ | exact LeO.refl _ | exact LeO.none _ | refine LeO.ite ?_ ?_ | refine LeO.bind ?_ (fun _ => ?_))
set_option maxHeartbeats 8000000 in
set_option maxRecDepth 100000 in
theorem pleatref03_Name.calls (k : Nat) (a0 : ByteArray) (r : Bool) (w : World) (h : pleatref03_Name.f k a0 = some r) :
  Calls Tryz.prog 105 #[.string a0] w fun e w' => e = .returned (.bool r) ∧ Drawn0 w w' := by
 have H : (if (a0.size : Int) = 0 then (pleatref03_Name.j0 k a0 true) else (if (a0.size : Int) > 24 then (pleatref03_Name.j0 k a0 true) else (if 0 < (a0.size : Int) then ((pleatref03_letter.f (bt a0 0)).bind fun t232 => (pleatref03_Name.j0 k a0 (!t232))) else (none)))) = some r := h
 clear h
 have HC2 := Aside0.mk H
 clear H
 go_enter Tryz.func105, Tryz.ntmps105
 go_upto_region 1 with (fail)
 go_cut [17] (fun v17 wc => ∃ (kq : Nat) (x17_1 : Bool), v17 = .bool x17_1 ∧ Aside0 (pleatref03_Name.j0 kq a0 x17_1 = some r) ∧ Aside0 (kq ≤ k) ∧ Drawn0 w wc)
 case first =>
  have H := HC2.out
  clear HC2
  by_cases c3 : (a0.size : Int) = 0
  ·
   rw [if_pos c3] at H
   have c3b0 : ((a0.size : Int) == 0) = true := beq_iff_eq.mpr c3
   have c3b1 : ((a0.size : Int) != 0) = false := bne_eq_false_iff_eq.mpr c3
   clear c3
   (first | rw [c3b0] | (simp only [i64_w, i32_w]; rw [c3b0]) | skip)
   have H' := Aside0.mk H
   clear H
   go_wp2
   go_meet
   case rel => exact ⟨_, (true), (by first | rfl | (simp; done) | (simp [*]; done)), H', ⟨by first | omega | exact Nat.le_refl _⟩, by repeat (first | exact Drawn0.refl _ | apply Drawn0.step)⟩
  ·
   rw [if_neg c3] at H
   have c3b0 : ((a0.size : Int) == 0) = false := beq_eq_false_iff_ne.mpr c3
   have c3b1 : ((a0.size : Int) != 0) = true := bne_iff_ne.mpr c3
   (first | rw [c3b0] | (simp only [i64_w, i32_w]; rw [c3b0]) | skip)
   by_cases c4 : (a0.size : Int) > 24
   ·
    rw [if_pos c4] at H
    have c4b0 : decide (24 < (a0.size : Int)) = true := decide_eq_true c4
    have c4b1 : decide (24 < a0.size) = true := decide_eq_true (by omega)
    clear c4
    have H' := Aside0.mk H
    clear H
    go_wp2
    go_meet
    case rel => exact ⟨_, (true), (by first | rfl | (simp; done) | (simp [*]; done)), H', ⟨by first | omega | exact Nat.le_refl _⟩, by repeat (first | exact Drawn0.refl _ | apply Drawn0.step)⟩
   ·
    rw [if_neg c4] at H
    have c4b0 : decide (24 < (a0.size : Int)) = false := decide_eq_false c4
    have c4b1 : decide (24 < a0.size) = false := decide_eq_false (by omega)
    clear c4
    by_cases c5 : 0 < (a0.size : Int)
    ·
     rw [if_pos c5] at H
     have c5b0 : decide (0 < (a0.size : Int)) = true := decide_eq_true c5
     have c5b1 : decide (0 < a0.size) = true := decide_eq_true (by omega)
     clear c5
     replace H := Option.bind_eq_some_iff.mp H
     obtain ⟨t232, A70, H⟩ := H
     try dsimp only at H
     have A7 := Aside0.mk A70
     clear A70
     have H' := Aside0.mk H
     clear H
     have p6 : 0 ≤ (0 : Int) := (by omega)
     have q6 : 0 < a0.size := (by have : (0 : Int) < (a0.size : Int) := of_decide_eq_true ‹_›; omega)
     have hx6 : ∀ h : 0 < a0.size, ((a0[0]'h).toNat : Int) = bt a0 0 := bt_at a0 0
     clear p6
     have qi6 : (0 < (a0.size : Int)) = True := eq_true (of_decide_eq_true ‹_›)
     replace q6 := eq_true q6
     go_wp2_with (first | (go_at_call 117; (with_reducible refine (pleatref03_letter.calls (bt a0 0) t232 _ A7.out).mono ?_); rintro e w' ⟨rfl, ⟨nd, rfl⟩⟩))
     go_meet
     case rel => exact ⟨_, (!t232), (by first | rfl | (simp; done) | (simp [*]; done)), H', ⟨by first | omega | exact Nat.le_refl _⟩, by repeat (first | exact Drawn0.refl _ | apply Drawn0.step)⟩
    ·
     rw [if_neg c5] at H
     exact absurd H (by simp)
 case rest =>
  clear HC2
  try clear c1
  try clear p2
  try clear c3
  try clear c3b0
  try clear c3b1
  try clear c4
  try clear c4b0
  try clear c4b1
  try clear c5
  try clear c5b0
  try clear c5b1
  try clear p6
  try clear q6
  try clear hx6
  try clear qi6
  try clear p6
  try clear q6
  obtain ⟨kq, x17_1, rfl, HA, HJ1, ⟨mc1, rfl⟩⟩ := hcut
  cases kq with
  | zero => exact absurd HA.out (by simp [pleatref03_Name.j0])
  | succ kj1 =>
   have H := HA.out
   clear HA
   simp only [pleatref03_Name.j0] at H
   by_cases c8 : x17_1 = true
   ·
    subst c8
    rw [if_pos rfl] at H
    obtain rfl := Option.some.inj H
    go_wp2
    go_ret
    exact ⟨by first | rfl | (simp; done) | (simp [*]; done), by repeat (first | exact Drawn0.refl _ | apply Drawn0.step)⟩
   ·
    replace c8 := Bool.eq_false_iff.mpr c8
    subst c8
    rw [if_neg Bool.false_ne_true] at H
    have H' := Aside0.mk H
    clear H
    go_wp2
    go_loopg [3] kj1 (fun kq v3 w' => ∃ (x3_2 : Int), v3 = .int .i64 x3_2 ∧ Aside0 (pleatref03_Name.l0 kq a0 x3_2 = some r) ∧ Aside0 (kq ≤ kj1) ∧ Drawn0 w w')
    case atStart => exact ⟨(1), (by first | rfl | (simp; done) | (simp [*]; done)), H', ⟨Nat.le_refl _⟩, by repeat (first | exact Drawn0.refl _ | apply Drawn0.step)⟩
    case round =>
     clear H'
     try clear c1
     try clear p2
     try clear c3
     try clear c3b0
     try clear c3b1
     try clear c4
     try clear c4b0
     try clear c4b1
     try clear c5
     try clear c5b0
     try clear c5b1
     try clear p6
     try clear q6
     try clear hx6
     try clear qi6
     try clear c8
     try clear p2
     try clear p6
     try clear q6
     obtain ⟨x3_2, rfl, HA, HK2, ⟨m2, rfl⟩⟩ := hrel
     cases gk with
     | zero => exact absurd HA.out (by simp [pleatref03_Name.l0])
     | succ k2 =>
      have H := HA.out
      clear HA
      simp only [pleatref03_Name.l0] at H
      by_cases c9 : x3_2 < (a0.size : Int)
      ·
       rw [if_pos c9] at H
       have c9b0 : decide (x3_2 < (a0.size : Int)) = true := decide_eq_true c9
       clear c9
       by_cases c10 : 0 ≤ x3_2
       ·
        rw [if_pos c10] at H
        have c10b0 : decide (0 ≤ x3_2) = true := decide_eq_true c10
        clear c10
        replace H := Option.bind_eq_some_iff.mp H
        obtain ⟨t233, A120, H⟩ := H
        try dsimp only at H
        have A12 := Aside0.mk A120
        clear A120
        by_cases c13 : t233 = true
        ·
         subst c13
         rw [if_pos rfl] at H
         have H' := Aside0.mk H
         clear H
         have p11 : 0 ≤ (x3_2 : Int) := of_decide_eq_true ‹_›
         have q11 : x3_2 < (a0.size : Int) := of_decide_eq_true ‹_›
         have hx11 := bt_at a0 x3_2
         replace p11 := eq_true p11
         replace q11 := eq_true q11
         go_wp2_with (first | ((with_reducible refine gate_callee (f := 117) rfl ?_); refine goesL_ (some 27) rfl rfl Tryz.func117 (by kernel_rfl) rfl #[.int .u8 (bt a0 x3_2)] rfl (by (try simp only [List.map_toArray, List.map_cons, List.map_nil]); try rfl) ?_; (with_reducible refine (pleatref03_letter.calls (bt a0 x3_2) true _ A12.out).mono ?_); rintro e w' ⟨rfl, ⟨nd, rfl⟩⟩; refine ⟨_, rfl, ?_⟩))
         go_roundg k2
         case measure => have := HJ1.out; have := HK2.out; omega
         case rel => exact ⟨(wrap64 (x3_2 + 1)), (by first | rfl | (simp; done) | (simp [*]; done)), H', ⟨by have := HJ1.out; have := HK2.out; omega⟩, by repeat (first | exact Drawn0.refl _ | apply Drawn0.step)⟩
        ·
         replace c13 := Bool.eq_false_iff.mpr c13
         subst c13
         rw [if_neg Bool.false_ne_true] at H
         by_cases c15 : (bt a0 x3_2) ≥ 48
         ·
          rw [if_pos c15] at H
          have c15b0 : decide (48 ≤ (bt a0 x3_2)) = true := decide_eq_true c15
          clear c15
          by_cases c17 : ((bt a0 x3_2) ≤ 57)
          ·
           rw [if_pos c17] at H
           have c17b0 : decide ((bt a0 x3_2) ≤ 57) = true := decide_eq_true c17
           clear c17
           have H' := Aside0.mk H
           clear H
           have p11 : 0 ≤ (x3_2 : Int) := of_decide_eq_true ‹_›
           have q11 : x3_2 < (a0.size : Int) := of_decide_eq_true ‹_›
           have hx11 := bt_at a0 x3_2
           replace p11 := eq_true p11
           replace q11 := eq_true q11
           go_wp2_with (first | ((with_reducible refine gate_callee (f := 117) rfl ?_); refine goesL_ (some 27) rfl rfl Tryz.func117 (by kernel_rfl) rfl #[.int .u8 (bt a0 x3_2)] rfl (by (try simp only [List.map_toArray, List.map_cons, List.map_nil]); try rfl) ?_; (with_reducible refine (pleatref03_letter.calls (bt a0 x3_2) false _ A12.out).mono ?_); rintro e w' ⟨rfl, ⟨nd, rfl⟩⟩; refine ⟨_, rfl, ?_⟩; have p14 : 0 ≤ (x3_2 : Int) := of_decide_eq_true ‹_›; have q14 : x3_2 < (a0.size : Int) := of_decide_eq_true ‹_›; have hx14 := bt_at a0 x3_2; replace p14 := eq_true p14; replace q14 := eq_true q14; have p16 : 0 ≤ (x3_2 : Int) := of_decide_eq_true ‹_›; have q16 : x3_2 < (a0.size : Int) := of_decide_eq_true ‹_›; have hx16 := bt_at a0 x3_2; replace p16 := eq_true p16; replace q16 := eq_true q16))
           go_roundg k2
           case measure => have := HJ1.out; have := HK2.out; omega
           case rel => exact ⟨(wrap64 (x3_2 + 1)), (by first | rfl | (simp; done) | (simp [*]; done)), H', ⟨by have := HJ1.out; have := HK2.out; omega⟩, by repeat (first | exact Drawn0.refl _ | apply Drawn0.step)⟩
          ·
           rw [if_neg c17] at H
           have c17b0 : decide ((bt a0 x3_2) ≤ 57) = false := decide_eq_false c17
           clear c17
           by_cases c19 : (bt a0 x3_2) = 46
           ·
            rw [if_pos c19] at H
            have c19b0 : ((bt a0 x3_2) == 46) = true := beq_iff_eq.mpr c19
            have c19b1 : ((bt a0 x3_2) != 46) = false := bne_eq_false_iff_eq.mpr c19
            clear c19
            have H' := Aside0.mk H
            clear H
            have p11 : 0 ≤ (x3_2 : Int) := of_decide_eq_true ‹_›
            have q11 : x3_2 < (a0.size : Int) := of_decide_eq_true ‹_›
            have hx11 := bt_at a0 x3_2
            replace p11 := eq_true p11
            replace q11 := eq_true q11
            go_wp2_with (first | ((with_reducible refine gate_callee (f := 117) rfl ?_); refine goesL_ (some 27) rfl rfl Tryz.func117 (by kernel_rfl) rfl #[.int .u8 (bt a0 x3_2)] rfl (by (try simp only [List.map_toArray, List.map_cons, List.map_nil]); try rfl) ?_; (with_reducible refine (pleatref03_letter.calls (bt a0 x3_2) false _ A12.out).mono ?_); rintro e w' ⟨rfl, ⟨nd, rfl⟩⟩; refine ⟨_, rfl, ?_⟩; have p14 : 0 ≤ (x3_2 : Int) := of_decide_eq_true ‹_›; have q14 : x3_2 < (a0.size : Int) := of_decide_eq_true ‹_›; have hx14 := bt_at a0 x3_2; replace p14 := eq_true p14; replace q14 := eq_true q14; have p16 : 0 ≤ (x3_2 : Int) := of_decide_eq_true ‹_›; have q16 : x3_2 < (a0.size : Int) := of_decide_eq_true ‹_›; have hx16 := bt_at a0 x3_2; replace p16 := eq_true p16; replace q16 := eq_true q16; have p18 : 0 ≤ (x3_2 : Int) := of_decide_eq_true ‹_›; have q18 : x3_2 < (a0.size : Int) := of_decide_eq_true ‹_›; have hx18 := bt_at a0 x3_2; replace p18 := eq_true p18; replace q18 := eq_true q18))
            go_roundg k2
            case measure => have := HJ1.out; have := HK2.out; omega
            case rel => exact ⟨(wrap64 (x3_2 + 1)), (by first | rfl | (simp; done) | (simp [*]; done)), H', ⟨by have := HJ1.out; have := HK2.out; omega⟩, by repeat (first | exact Drawn0.refl _ | apply Drawn0.step)⟩
           ·
            rw [if_neg c19] at H
            have c19b0 : ((bt a0 x3_2) == 46) = false := beq_eq_false_iff_ne.mpr c19
            have c19b1 : ((bt a0 x3_2) != 46) = true := bne_iff_ne.mpr c19
            obtain rfl := Option.some.inj H
            have p11 : 0 ≤ (x3_2 : Int) := of_decide_eq_true ‹_›
            have q11 : x3_2 < (a0.size : Int) := of_decide_eq_true ‹_›
            have hx11 := bt_at a0 x3_2
            replace p11 := eq_true p11
            replace q11 := eq_true q11
            go_wp2_with (first | ((with_reducible refine gate_callee (f := 117) rfl ?_); refine goesL_ (some 27) rfl rfl Tryz.func117 (by kernel_rfl) rfl #[.int .u8 (bt a0 x3_2)] rfl (by (try simp only [List.map_toArray, List.map_cons, List.map_nil]); try rfl) ?_; (with_reducible refine (pleatref03_letter.calls (bt a0 x3_2) false _ A12.out).mono ?_); rintro e w' ⟨rfl, ⟨nd, rfl⟩⟩; refine ⟨_, rfl, ?_⟩; have p14 : 0 ≤ (x3_2 : Int) := of_decide_eq_true ‹_›; have q14 : x3_2 < (a0.size : Int) := of_decide_eq_true ‹_›; have hx14 := bt_at a0 x3_2; replace p14 := eq_true p14; replace q14 := eq_true q14; have p16 : 0 ≤ (x3_2 : Int) := of_decide_eq_true ‹_›; have q16 : x3_2 < (a0.size : Int) := of_decide_eq_true ‹_›; have hx16 := bt_at a0 x3_2; replace p16 := eq_true p16; replace q16 := eq_true q16; have p18 : 0 ≤ (x3_2 : Int) := of_decide_eq_true ‹_›; have q18 : x3_2 < (a0.size : Int) := of_decide_eq_true ‹_›; have hx18 := bt_at a0 x3_2; replace p18 := eq_true p18; replace q18 := eq_true q18))
            go_ret
            exact ⟨by first | rfl | (simp; done) | (simp [*]; done), by repeat (first | exact Drawn0.refl _ | apply Drawn0.step)⟩
         ·
          rw [if_neg c15] at H
          have c15b0 : decide (48 ≤ (bt a0 x3_2)) = false := decide_eq_false c15
          clear c15
          by_cases c21 : (bt a0 x3_2) = 46
          ·
           rw [if_pos c21] at H
           have c21b0 : ((bt a0 x3_2) == 46) = true := beq_iff_eq.mpr c21
           have c21b1 : ((bt a0 x3_2) != 46) = false := bne_eq_false_iff_eq.mpr c21
           clear c21
           have H' := Aside0.mk H
           clear H
           have p11 : 0 ≤ (x3_2 : Int) := of_decide_eq_true ‹_›
           have q11 : x3_2 < (a0.size : Int) := of_decide_eq_true ‹_›
           have hx11 := bt_at a0 x3_2
           replace p11 := eq_true p11
           replace q11 := eq_true q11
           go_wp2_with (first | ((with_reducible refine gate_callee (f := 117) rfl ?_); refine goesL_ (some 27) rfl rfl Tryz.func117 (by kernel_rfl) rfl #[.int .u8 (bt a0 x3_2)] rfl (by (try simp only [List.map_toArray, List.map_cons, List.map_nil]); try rfl) ?_; (with_reducible refine (pleatref03_letter.calls (bt a0 x3_2) false _ A12.out).mono ?_); rintro e w' ⟨rfl, ⟨nd, rfl⟩⟩; refine ⟨_, rfl, ?_⟩; have p14 : 0 ≤ (x3_2 : Int) := of_decide_eq_true ‹_›; have q14 : x3_2 < (a0.size : Int) := of_decide_eq_true ‹_›; have hx14 := bt_at a0 x3_2; replace p14 := eq_true p14; replace q14 := eq_true q14; have p20 : 0 ≤ (x3_2 : Int) := of_decide_eq_true ‹_›; have q20 : x3_2 < (a0.size : Int) := of_decide_eq_true ‹_›; have hx20 := bt_at a0 x3_2; replace p20 := eq_true p20; replace q20 := eq_true q20))
           go_roundg k2
           case measure => have := HJ1.out; have := HK2.out; omega
           case rel => exact ⟨(wrap64 (x3_2 + 1)), (by first | rfl | (simp; done) | (simp [*]; done)), H', ⟨by have := HJ1.out; have := HK2.out; omega⟩, by repeat (first | exact Drawn0.refl _ | apply Drawn0.step)⟩
          ·
           rw [if_neg c21] at H
           have c21b0 : ((bt a0 x3_2) == 46) = false := beq_eq_false_iff_ne.mpr c21
           have c21b1 : ((bt a0 x3_2) != 46) = true := bne_iff_ne.mpr c21
           obtain rfl := Option.some.inj H
           have p11 : 0 ≤ (x3_2 : Int) := of_decide_eq_true ‹_›
           have q11 : x3_2 < (a0.size : Int) := of_decide_eq_true ‹_›
           have hx11 := bt_at a0 x3_2
           replace p11 := eq_true p11
           replace q11 := eq_true q11
           go_wp2_with (first | ((with_reducible refine gate_callee (f := 117) rfl ?_); refine goesL_ (some 27) rfl rfl Tryz.func117 (by kernel_rfl) rfl #[.int .u8 (bt a0 x3_2)] rfl (by (try simp only [List.map_toArray, List.map_cons, List.map_nil]); try rfl) ?_; (with_reducible refine (pleatref03_letter.calls (bt a0 x3_2) false _ A12.out).mono ?_); rintro e w' ⟨rfl, ⟨nd, rfl⟩⟩; refine ⟨_, rfl, ?_⟩; have p14 : 0 ≤ (x3_2 : Int) := of_decide_eq_true ‹_›; have q14 : x3_2 < (a0.size : Int) := of_decide_eq_true ‹_›; have hx14 := bt_at a0 x3_2; replace p14 := eq_true p14; replace q14 := eq_true q14; have p20 : 0 ≤ (x3_2 : Int) := of_decide_eq_true ‹_›; have q20 : x3_2 < (a0.size : Int) := of_decide_eq_true ‹_›; have hx20 := bt_at a0 x3_2; replace p20 := eq_true p20; replace q20 := eq_true q20))
           go_ret
           exact ⟨by first | rfl | (simp; done) | (simp [*]; done), by repeat (first | exact Drawn0.refl _ | apply Drawn0.step)⟩
       ·
        rw [if_neg c10] at H
        exact absurd H (by simp)
      ·
       rw [if_neg c9] at H
       have c9b0 : decide (x3_2 < (a0.size : Int)) = false := decide_eq_false c9
       clear c9
       obtain rfl := Option.some.inj H
       go_wp2
       go_ret
       exact ⟨by first | rfl | (simp; done) | (simp [*]; done), by repeat (first | exact Drawn0.refl _ | apply Drawn0.step)⟩


/-! ### pleatref03_size: function 86 -/
def pleatref03_size.f (k : Nat) (a0_0 : ByteArray) (l0_1 : List Int) (a0_2 : Int) (l0_3 : List Int) (l0_4 : List (S65)) (l0_5 : List (S82)) : Option (Int × Int) := (pleatref03_Name.f k a0_0).bind fun t235 => (if t235 = true then (if (l0_1.length : Int) > 16384 then (some (21, (-1))) else (if (l0_4.length : Int) > 256 then (some (21, (-2))) else (if (l0_5.length : Int) > (l0_1.length : Int) then (some (21, (-3))) else (if a0_2 < 0 then (some (25, (-1))) else (if a0_2 > 4096 then (some (25, (-1))) else (if (l0_3.length : Int) > (wrap64 (4096 - a0_2)) then (some (25, (-1))) else (some (0, 0)))))))) else (some (20, (-1))))
theorem pleatref03_size.mono : ∀ a0 a1 a2 a3 a4 a5 k, LeO (pleatref03_size.f k a0 a1 a2 a3 a4 a5) (pleatref03_size.f (k + 1) a0 a1 a2 a3 a4 a5) := by
 intro a0 a1 a2 a3 a4 a5 k
 unfold pleatref03_size.f
 repeat' first
   | (with_reducible first | exact pleatref03_Name.mono _ _ | exact LeO.refl _ | exact LeO.none _ | refine LeO.ite ?_ ?_ | refine LeO.bind ?_ (fun _ => ?_))
set_option maxHeartbeats 8000000 in
set_option maxRecDepth 100000 in
theorem pleatref03_size.calls (k : Nat) (a0_0 : ByteArray) (A0_1 : Option Addr) (c0_1 : Nat) (l0_1 : List Int) (a0_2 : Int) (A0_3 : Option Addr) (c0_3 : Nat) (l0_3 : List Int) (A0_4 : Option Addr) (c0_4 : Nat) (l0_4 : List (S65)) (A0_5 : Option Addr) (c0_5 : Nat) (l0_5 : List (S82)) (r1 : Int) (r2 : Int) (w : World) (hr0_1 : Kd.C (Kd.int .u32) w A0_1 l0_1.length l0_1) (hc0_1 : l0_1.length ≤ c0_1) (hr0_3 : Kd.C (Kd.int .i64) w A0_3 l0_3.length l0_3) (hc0_3 : l0_3.length ≤ c0_3) (hr0_4 : Kd.C k65 w A0_4 l0_4.length l0_4) (hc0_4 : l0_4.length ≤ c0_4) (hr0_5 : Kd.C k82 w A0_5 l0_5.length l0_5) (hc0_5 : l0_5.length ≤ c0_5) (h : pleatref03_size.f k a0_0 l0_1 a0_2 l0_3 l0_4 l0_5 = some (r1, r2)) :
  Calls Tryz.prog 86 #[.agg #[.string a0_0, .slice A0_1 l0_1.length c0_1, .int .i64 a0_2, .slice A0_3 l0_3.length c0_3, .slice A0_4 l0_4.length c0_4, .slice A0_5 l0_5.length c0_5]] w fun e w' => e = .returned (.tuple #[.int .i64 r1, .int .i64 r2]) ∧ Below w.heap.size w w' := by
 have hu27 := Tryz.underlying27
 have HR0_1 := Aside0.mk hr0_1
 have HC0_1 := Aside0.mk hc0_1
 clear hr0_1 hc0_1
 have HR0_3 := Aside0.mk hr0_3
 have HC0_3 := Aside0.mk hc0_3
 clear hr0_3 hc0_3
 have HR0_4 := Aside0.mk hr0_4
 have HC0_4 := Aside0.mk hc0_4
 clear hr0_4 hc0_4
 have HR0_5 := Aside0.mk hr0_5
 have HC0_5 := Aside0.mk hc0_5
 clear hr0_5 hc0_5
 have HB := Aside0.mk (Below.refl w.heap.size w)
 have H : ((pleatref03_Name.f k a0_0).bind fun t235 => (if t235 = true then (if (l0_1.length : Int) > 16384 then (some (21, (-1))) else (if (l0_4.length : Int) > 256 then (some (21, (-2))) else (if (l0_5.length : Int) > (l0_1.length : Int) then (some (21, (-3))) else (if a0_2 < 0 then (some (25, (-1))) else (if a0_2 > 4096 then (some (25, (-1))) else (if (l0_3.length : Int) > (wrap64 (4096 - a0_2)) then (some (25, (-1))) else (some (0, 0)))))))) else (some (20, (-1))))) = some (r1, r2) := h
 clear h
 replace H := Option.bind_eq_some_iff.mp H
 obtain ⟨t235, A20, H⟩ := H
 try dsimp only at H
 have A2 := Aside0.mk A20
 clear A20
 by_cases c3 : t235 = true
 ·
  subst c3
  rw [if_pos rfl] at H
  by_cases c4 : (l0_1.length : Int) > 16384
  ·
   rw [if_pos c4] at H
   have c4b0 : decide (16384 < (l0_1.length : Int)) = true := decide_eq_true c4
   have c4b1 : decide (16384 < l0_1.length) = true := decide_eq_true (by omega)
   clear c4
   simp only [Option.some.injEq, Prod.mk.injEq] at H
   obtain ⟨rfl, rfl⟩ := H
   go_enter Tryz.func86, Tryz.ntmps86
   go_wp2_with (first | ((with_reducible refine gate_dst (N := 1) rfl ?_); (try (refine gate_guard (by rfl) ?_; dsimp only)); refine box_event ?hg (N := 1) ?hd (cs := #[.string a0_0, .slice A0_1 l0_1.length c0_1, .int .i64 a0_2, .slice A0_3 l0_3.length c0_3, .slice A0_4 l0_4.length c0_4, .slice A0_5 l0_5.length c0_5]) (t := 27) ?hr ?_; (case hd => rfl); (case hg => rfl); (case hr => go_simp; try rfl); intro gb234 hg w5 hbox hb; have BK234 := Aside0.mk (hbox); have GW234 := Aside0.mk (gwQ hg HB.out); have GE234 := Aside0.mk (gwQ hg HB.out); replace HB := Aside0.mk (bsQ hb HB.out); clear hb hbox hg; obtain ⟨hcz6_0, hcz6_1, hcz6_2, hcz6_3, hcz6_4, hcz6_5⟩ := bcQ6 BK234.out; obtain ⟨hfz6_0, hfz6_1, hfz6_2, hfz6_3, hfz6_4, hfz6_5⟩ := fzQ6 BK234.out) | ((with_reducible refine gate_callee (f := 105) rfl ?_); refine goesL_ (some 6) rfl rfl Tryz.func105 (by kernel_rfl) rfl #[.string a0_0] rfl (by (try simp only [List.map_toArray, List.map_cons, List.map_nil]); try rfl) ?_; (with_reducible refine (pleatref03_Name.calls k a0_0 true _ A2.out).mono ?_); rintro e w' ⟨rfl, ⟨nd, rfl⟩⟩; refine ⟨_, rfl, ?_⟩))
   go_ret2
   exact ⟨by first | rfl | (simp [errW_none, errW_some] <;> rfl) | (simp [*, errW_none, errW_some] <;> rfl), by repeat with_reducible first | exact HB.out | apply pw_below_drewN | apply below_drew1 | refine below_set ?_ GE234.out⟩
  ·
   rw [if_neg c4] at H
   have c4b0 : decide (16384 < (l0_1.length : Int)) = false := decide_eq_false c4
   have c4b1 : decide (16384 < l0_1.length) = false := decide_eq_false (by omega)
   clear c4
   by_cases c7 : (l0_4.length : Int) > 256
   ·
    rw [if_pos c7] at H
    have c7b0 : decide (256 < (l0_4.length : Int)) = true := decide_eq_true c7
    have c7b1 : decide (256 < l0_4.length) = true := decide_eq_true (by omega)
    clear c7
    simp only [Option.some.injEq, Prod.mk.injEq] at H
    obtain ⟨rfl, rfl⟩ := H
    go_enter Tryz.func86, Tryz.ntmps86
    go_wp2_with (first | ((with_reducible refine gate_dst (N := 1) rfl ?_); (try (refine gate_guard (by rfl) ?_; dsimp only)); refine box_event ?hg (N := 1) ?hd (cs := #[.string a0_0, .slice A0_1 l0_1.length c0_1, .int .i64 a0_2, .slice A0_3 l0_3.length c0_3, .slice A0_4 l0_4.length c0_4, .slice A0_5 l0_5.length c0_5]) (t := 27) ?hr ?_; (case hd => rfl); (case hg => rfl); (case hr => go_simp; try rfl); intro gb234 hg w8 hbox hb; have BK234 := Aside0.mk (hbox); have GW234 := Aside0.mk (gwQ hg HB.out); have GE234 := Aside0.mk (gwQ hg HB.out); replace HB := Aside0.mk (bsQ hb HB.out); clear hb hbox hg; obtain ⟨hcz9_0, hcz9_1, hcz9_2, hcz9_3, hcz9_4, hcz9_5⟩ := bcQ6 BK234.out; obtain ⟨hfz9_0, hfz9_1, hfz9_2, hfz9_3, hfz9_4, hfz9_5⟩ := fzQ6 BK234.out) | ((with_reducible refine gate_callee (f := 105) rfl ?_); refine goesL_ (some 6) rfl rfl Tryz.func105 (by kernel_rfl) rfl #[.string a0_0] rfl (by (try simp only [List.map_toArray, List.map_cons, List.map_nil]); try rfl) ?_; (with_reducible refine (pleatref03_Name.calls k a0_0 true _ A2.out).mono ?_); rintro e w' ⟨rfl, ⟨nd, rfl⟩⟩; refine ⟨_, rfl, ?_⟩))
    go_ret2
    exact ⟨by first | rfl | (simp [errW_none, errW_some] <;> rfl) | (simp [*, errW_none, errW_some] <;> rfl), by repeat with_reducible first | exact HB.out | apply pw_below_drewN | apply below_drew1 | refine below_set ?_ GE234.out⟩
   ·
    rw [if_neg c7] at H
    have c7b0 : decide (256 < (l0_4.length : Int)) = false := decide_eq_false c7
    have c7b1 : decide (256 < l0_4.length) = false := decide_eq_false (by omega)
    clear c7
    by_cases c10 : (l0_5.length : Int) > (l0_1.length : Int)
    ·
     rw [if_pos c10] at H
     have c10b0 : decide ((l0_1.length : Int) < (l0_5.length : Int)) = true := decide_eq_true c10
     have c10b1 : decide (l0_1.length < l0_5.length) = true := decide_eq_true (Int.ofNat_lt.mp c10)
     clear c10
     simp only [Option.some.injEq, Prod.mk.injEq] at H
     obtain ⟨rfl, rfl⟩ := H
     go_enter Tryz.func86, Tryz.ntmps86
     go_wp2_with (first | ((with_reducible refine gate_dst (N := 1) rfl ?_); (try (refine gate_guard (by rfl) ?_; dsimp only)); refine box_event ?hg (N := 1) ?hd (cs := #[.string a0_0, .slice A0_1 l0_1.length c0_1, .int .i64 a0_2, .slice A0_3 l0_3.length c0_3, .slice A0_4 l0_4.length c0_4, .slice A0_5 l0_5.length c0_5]) (t := 27) ?hr ?_; (case hd => rfl); (case hg => rfl); (case hr => go_simp; try rfl); intro gb234 hg w11 hbox hb; have BK234 := Aside0.mk (hbox); have GW234 := Aside0.mk (gwQ hg HB.out); have GE234 := Aside0.mk (gwQ hg HB.out); replace HB := Aside0.mk (bsQ hb HB.out); clear hb hbox hg; obtain ⟨hcz12_0, hcz12_1, hcz12_2, hcz12_3, hcz12_4, hcz12_5⟩ := bcQ6 BK234.out; obtain ⟨hfz12_0, hfz12_1, hfz12_2, hfz12_3, hfz12_4, hfz12_5⟩ := fzQ6 BK234.out) | ((with_reducible refine gate_callee (f := 105) rfl ?_); refine goesL_ (some 6) rfl rfl Tryz.func105 (by kernel_rfl) rfl #[.string a0_0] rfl (by (try simp only [List.map_toArray, List.map_cons, List.map_nil]); try rfl) ?_; (with_reducible refine (pleatref03_Name.calls k a0_0 true _ A2.out).mono ?_); rintro e w' ⟨rfl, ⟨nd, rfl⟩⟩; refine ⟨_, rfl, ?_⟩))
     go_ret2
     exact ⟨by first | rfl | (simp [errW_none, errW_some] <;> rfl) | (simp [*, errW_none, errW_some] <;> rfl), by repeat with_reducible first | exact HB.out | apply pw_below_drewN | apply below_drew1 | refine below_set ?_ GE234.out⟩
    ·
     rw [if_neg c10] at H
     have c10b0 : decide ((l0_1.length : Int) < (l0_5.length : Int)) = false := decide_eq_false c10
     have c10b1 : decide (l0_1.length < l0_5.length) = false := decide_eq_false (fun h => c10 (Int.ofNat_lt.mpr h))
     clear c10
     by_cases c13 : a0_2 < 0
     ·
      rw [if_pos c13] at H
      have c13b0 : decide (a0_2 < 0) = true := decide_eq_true c13
      clear c13
      simp only [Option.some.injEq, Prod.mk.injEq] at H
      obtain ⟨rfl, rfl⟩ := H
      go_enter Tryz.func86, Tryz.ntmps86
      go_wp2_with (first | ((with_reducible refine gate_dst (N := 1) rfl ?_); (try (refine gate_guard (by rfl) ?_; dsimp only)); refine box_event ?hg (N := 1) ?hd (cs := #[.string a0_0, .slice A0_1 l0_1.length c0_1, .int .i64 a0_2, .slice A0_3 l0_3.length c0_3, .slice A0_4 l0_4.length c0_4, .slice A0_5 l0_5.length c0_5]) (t := 27) ?hr ?_; (case hd => rfl); (case hg => rfl); (case hr => go_simp; try rfl); intro gb234 hg w14 hbox hb; have BK234 := Aside0.mk (hbox); have GW234 := Aside0.mk (gwQ hg HB.out); have GE234 := Aside0.mk (gwQ hg HB.out); replace HB := Aside0.mk (bsQ hb HB.out); clear hb hbox hg; obtain ⟨hcz15_0, hcz15_1, hcz15_2, hcz15_3, hcz15_4, hcz15_5⟩ := bcQ6 BK234.out; obtain ⟨hfz15_0, hfz15_1, hfz15_2, hfz15_3, hfz15_4, hfz15_5⟩ := fzQ6 BK234.out) | ((with_reducible refine gate_callee (f := 105) rfl ?_); refine goesL_ (some 6) rfl rfl Tryz.func105 (by kernel_rfl) rfl #[.string a0_0] rfl (by (try simp only [List.map_toArray, List.map_cons, List.map_nil]); try rfl) ?_; (with_reducible refine (pleatref03_Name.calls k a0_0 true _ A2.out).mono ?_); rintro e w' ⟨rfl, ⟨nd, rfl⟩⟩; refine ⟨_, rfl, ?_⟩))
      go_ret2
      exact ⟨by first | rfl | (simp [errW_none, errW_some] <;> rfl) | (simp [*, errW_none, errW_some] <;> rfl), by repeat with_reducible first | exact HB.out | apply pw_below_drewN | apply below_drew1 | refine below_set ?_ GE234.out⟩
     ·
      rw [if_neg c13] at H
      have c13b0 : decide (a0_2 < 0) = false := decide_eq_false c13
      clear c13
      by_cases c16 : a0_2 > 4096
      ·
       rw [if_pos c16] at H
       have c16b0 : decide (4096 < a0_2) = true := decide_eq_true c16
       clear c16
       simp only [Option.some.injEq, Prod.mk.injEq] at H
       obtain ⟨rfl, rfl⟩ := H
       go_enter Tryz.func86, Tryz.ntmps86
       go_wp2_with (first | ((with_reducible refine gate_dst (N := 1) rfl ?_); (try (refine gate_guard (by rfl) ?_; dsimp only)); refine box_event ?hg (N := 1) ?hd (cs := #[.string a0_0, .slice A0_1 l0_1.length c0_1, .int .i64 a0_2, .slice A0_3 l0_3.length c0_3, .slice A0_4 l0_4.length c0_4, .slice A0_5 l0_5.length c0_5]) (t := 27) ?hr ?_; (case hd => rfl); (case hg => rfl); (case hr => go_simp; try rfl); intro gb234 hg w17 hbox hb; have BK234 := Aside0.mk (hbox); have GW234 := Aside0.mk (gwQ hg HB.out); have GE234 := Aside0.mk (gwQ hg HB.out); replace HB := Aside0.mk (bsQ hb HB.out); clear hb hbox hg; obtain ⟨hcz18_0, hcz18_1, hcz18_2, hcz18_3, hcz18_4, hcz18_5⟩ := bcQ6 BK234.out; obtain ⟨hfz18_0, hfz18_1, hfz18_2, hfz18_3, hfz18_4, hfz18_5⟩ := fzQ6 BK234.out) | ((with_reducible refine gate_callee (f := 105) rfl ?_); refine goesL_ (some 6) rfl rfl Tryz.func105 (by kernel_rfl) rfl #[.string a0_0] rfl (by (try simp only [List.map_toArray, List.map_cons, List.map_nil]); try rfl) ?_; (with_reducible refine (pleatref03_Name.calls k a0_0 true _ A2.out).mono ?_); rintro e w' ⟨rfl, ⟨nd, rfl⟩⟩; refine ⟨_, rfl, ?_⟩))
       go_ret2
       exact ⟨by first | rfl | (simp [errW_none, errW_some] <;> rfl) | (simp [*, errW_none, errW_some] <;> rfl), by repeat with_reducible first | exact HB.out | apply pw_below_drewN | apply below_drew1 | refine below_set ?_ GE234.out⟩
      ·
       rw [if_neg c16] at H
       have c16b0 : decide (4096 < a0_2) = false := decide_eq_false c16
       clear c16
       by_cases c19 : (l0_3.length : Int) > (wrap64 (4096 - a0_2))
       ·
        rw [if_pos c19] at H
        have c19b0 : decide ((wrap64 (4096 - a0_2)) < (l0_3.length : Int)) = true := decide_eq_true c19
        clear c19
        simp only [Option.some.injEq, Prod.mk.injEq] at H
        obtain ⟨rfl, rfl⟩ := H
        go_enter Tryz.func86, Tryz.ntmps86
        go_wp2_with (first | ((with_reducible refine gate_dst (N := 1) rfl ?_); (try (refine gate_guard (by rfl) ?_; dsimp only)); refine box_event ?hg (N := 1) ?hd (cs := #[.string a0_0, .slice A0_1 l0_1.length c0_1, .int .i64 a0_2, .slice A0_3 l0_3.length c0_3, .slice A0_4 l0_4.length c0_4, .slice A0_5 l0_5.length c0_5]) (t := 27) ?hr ?_; (case hd => rfl); (case hg => rfl); (case hr => go_simp; try rfl); intro gb234 hg w20 hbox hb; have BK234 := Aside0.mk (hbox); have GW234 := Aside0.mk (gwQ hg HB.out); have GE234 := Aside0.mk (gwQ hg HB.out); replace HB := Aside0.mk (bsQ hb HB.out); clear hb hbox hg; obtain ⟨hcz21_0, hcz21_1, hcz21_2, hcz21_3, hcz21_4, hcz21_5⟩ := bcQ6 BK234.out; obtain ⟨hfz21_0, hfz21_1, hfz21_2, hfz21_3, hfz21_4, hfz21_5⟩ := fzQ6 BK234.out) | ((with_reducible refine gate_callee (f := 105) rfl ?_); refine goesL_ (some 6) rfl rfl Tryz.func105 (by kernel_rfl) rfl #[.string a0_0] rfl (by (try simp only [List.map_toArray, List.map_cons, List.map_nil]); try rfl) ?_; (with_reducible refine (pleatref03_Name.calls k a0_0 true _ A2.out).mono ?_); rintro e w' ⟨rfl, ⟨nd, rfl⟩⟩; refine ⟨_, rfl, ?_⟩))
        go_ret2
        exact ⟨by first | rfl | (simp [errW_none, errW_some] <;> rfl) | (simp [*, errW_none, errW_some] <;> rfl), by repeat with_reducible first | exact HB.out | apply pw_below_drewN | apply below_drew1 | refine below_set ?_ GE234.out⟩
       ·
        rw [if_neg c19] at H
        have c19b0 : decide ((wrap64 (4096 - a0_2)) < (l0_3.length : Int)) = false := decide_eq_false c19
        clear c19
        simp only [Option.some.injEq, Prod.mk.injEq] at H
        obtain ⟨rfl, rfl⟩ := H
        go_enter Tryz.func86, Tryz.ntmps86
        go_wp2_with (first | ((with_reducible refine gate_dst (N := 1) rfl ?_); (try (refine gate_guard (by rfl) ?_; dsimp only)); refine box_event ?hg (N := 1) ?hd (cs := #[.string a0_0, .slice A0_1 l0_1.length c0_1, .int .i64 a0_2, .slice A0_3 l0_3.length c0_3, .slice A0_4 l0_4.length c0_4, .slice A0_5 l0_5.length c0_5]) (t := 27) ?hr ?_; (case hd => rfl); (case hg => rfl); (case hr => go_simp; try rfl); intro gb234 hg w22 hbox hb; have BK234 := Aside0.mk (hbox); have GW234 := Aside0.mk (gwQ hg HB.out); have GE234 := Aside0.mk (gwQ hg HB.out); replace HB := Aside0.mk (bsQ hb HB.out); clear hb hbox hg; obtain ⟨hcz23_0, hcz23_1, hcz23_2, hcz23_3, hcz23_4, hcz23_5⟩ := bcQ6 BK234.out; obtain ⟨hfz23_0, hfz23_1, hfz23_2, hfz23_3, hfz23_4, hfz23_5⟩ := fzQ6 BK234.out) | ((with_reducible refine gate_callee (f := 105) rfl ?_); refine goesL_ (some 6) rfl rfl Tryz.func105 (by kernel_rfl) rfl #[.string a0_0] rfl (by (try simp only [List.map_toArray, List.map_cons, List.map_nil]); try rfl) ?_; (with_reducible refine (pleatref03_Name.calls k a0_0 true _ A2.out).mono ?_); rintro e w' ⟨rfl, ⟨nd, rfl⟩⟩; refine ⟨_, rfl, ?_⟩))
        go_ret2
        exact ⟨by first | rfl | (simp [errW_none, errW_some] <;> rfl) | (simp [*, errW_none, errW_some] <;> rfl), by repeat with_reducible first | exact HB.out | apply pw_below_drewN | apply below_drew1 | refine below_set ?_ GE234.out⟩
 ·
  replace c3 := Bool.eq_false_iff.mpr c3
  subst c3
  rw [if_neg Bool.false_ne_true] at H
  simp only [Option.some.injEq, Prod.mk.injEq] at H
  obtain ⟨rfl, rfl⟩ := H
  go_enter Tryz.func86, Tryz.ntmps86
  go_wp2_with (first | ((with_reducible refine gate_dst (N := 1) rfl ?_); (try (refine gate_guard (by rfl) ?_; dsimp only)); refine box_event ?hg (N := 1) ?hd (cs := #[.string a0_0, .slice A0_1 l0_1.length c0_1, .int .i64 a0_2, .slice A0_3 l0_3.length c0_3, .slice A0_4 l0_4.length c0_4, .slice A0_5 l0_5.length c0_5]) (t := 27) ?hr ?_; (case hd => rfl); (case hg => rfl); (case hr => go_simp; try rfl); intro gb234 hg w24 hbox hb; have BK234 := Aside0.mk (hbox); have GW234 := Aside0.mk (gwQ hg HB.out); have GE234 := Aside0.mk (gwQ hg HB.out); replace HB := Aside0.mk (bsQ hb HB.out); clear hb hbox hg; obtain ⟨hcz25_0, hcz25_1, hcz25_2, hcz25_3, hcz25_4, hcz25_5⟩ := bcQ6 BK234.out; obtain ⟨hfz25_0, hfz25_1, hfz25_2, hfz25_3, hfz25_4, hfz25_5⟩ := fzQ6 BK234.out) | ((with_reducible refine gate_callee (f := 105) rfl ?_); refine goesL_ (some 6) rfl rfl Tryz.func105 (by kernel_rfl) rfl #[.string a0_0] rfl (by (try simp only [List.map_toArray, List.map_cons, List.map_nil]); try rfl) ?_; (with_reducible refine (pleatref03_Name.calls k a0_0 false _ A2.out).mono ?_); rintro e w' ⟨rfl, ⟨nd, rfl⟩⟩; refine ⟨_, rfl, ?_⟩))
  go_ret2
  exact ⟨by first | rfl | (simp [errW_none, errW_some] <;> rfl) | (simp [*, errW_none, errW_some] <;> rfl), by repeat with_reducible first | exact HB.out | apply pw_below_drewN | apply below_drew1 | refine below_set ?_ GE234.out⟩


/-! ### pleatref03_Of: function 106 -/
def pleatref03_Of.l0 : Nat → ByteArray → Int → ByteArray → List Int → Int → List Int → List (S65) → List (S82) → Option (Int)
 | 0, _, _, _, _, _, _, _, _ => none
 | k + 1, x1, x5, x237000, x237001, x237002, x237003, x237004, x237005 => if x5 < (x237004.length : Int) then (if 0 ≤ x5 then (if ((rd_T65 x237004 x5).f0).toList = x1.toList then (some x5) else (pleatref03_Of.l0 k x1 (wrap64 (x5 + 1)) x237000 x237001 x237002 x237003 x237004 x237005)) else (none)) else (some (-1))
def pleatref03_Of.f (k : Nat) (a0_0 : ByteArray) (l0_1 : List Int) (a0_2 : Int) (l0_3 : List Int) (l0_4 : List (S65)) (l0_5 : List (S82)) (a1 : ByteArray) : Option (Int) := pleatref03_Of.l0 k a1 0 a0_0 l0_1 a0_2 l0_3 l0_4 l0_5
theorem pleatref03_Of.mono_l : ∀ k, (∀ y0 y1 y2 y3 y4 y5 y6 y7, LeO (pleatref03_Of.l0 k y0 y1 y2 y3 y4 y5 y6 y7) (pleatref03_Of.l0 (k + 1) y0 y1 y2 y3 y4 y5 y6 y7))
 | 0 => fun _ _ _ _ _ _ _ _ r h => by simp [pleatref03_Of.l0] at h
 | k + 1 => by
  have ih0 := pleatref03_Of.mono_l k
  ·
   intro y0 y1 y2 y3 y4 y5 y6 y7
   unfold pleatref03_Of.l0
   repeat' first
   | (with_reducible first | exact ih0 _ _ _ _ _ _ _ _ | exact LeO.refl _ | exact LeO.none _ | refine LeO.ite ?_ ?_ | refine LeO.bind ?_ (fun _ => ?_))
theorem pleatref03_Of.mono : ∀ a0 a1 a2 a3 a4 a5 a6 k, LeO (pleatref03_Of.f k a0 a1 a2 a3 a4 a5 a6) (pleatref03_Of.f (k + 1) a0 a1 a2 a3 a4 a5 a6) := by
 intro a0 a1 a2 a3 a4 a5 a6 k
 have ih0 := pleatref03_Of.mono_l k
 unfold pleatref03_Of.f
 repeat' first
   | (with_reducible first | exact ih0 _ _ _ _ _ _ _ _ | exact LeO.refl _ | exact LeO.none _ | refine LeO.ite ?_ ?_ | refine LeO.bind ?_ (fun _ => ?_))
set_option maxHeartbeats 8000000 in
set_option maxRecDepth 100000 in
theorem pleatref03_Of.calls (k : Nat) (a0_0 : ByteArray) (A0_1 : Option Addr) (c0_1 : Nat) (l0_1 : List Int) (a0_2 : Int) (A0_3 : Option Addr) (c0_3 : Nat) (l0_3 : List Int) (A0_4 : Option Addr) (c0_4 : Nat) (l0_4 : List (S65)) (A0_5 : Option Addr) (c0_5 : Nat) (l0_5 : List (S82)) (a1 : ByteArray) (r : Int) (w : World) (hr0_1 : Kd.C (Kd.int .u32) w A0_1 l0_1.length l0_1) (hc0_1 : l0_1.length ≤ c0_1) (hr0_3 : Kd.C (Kd.int .i64) w A0_3 l0_3.length l0_3) (hc0_3 : l0_3.length ≤ c0_3) (hr0_4 : Kd.C k65 w A0_4 l0_4.length l0_4) (hc0_4 : l0_4.length ≤ c0_4) (hr0_5 : Kd.C k82 w A0_5 l0_5.length l0_5) (hc0_5 : l0_5.length ≤ c0_5) (h : pleatref03_Of.f k a0_0 l0_1 a0_2 l0_3 l0_4 l0_5 a1 = some r) :
  Calls Tryz.prog 106 #[.agg #[.string a0_0, .slice A0_1 l0_1.length c0_1, .int .i64 a0_2, .slice A0_3 l0_3.length c0_3, .slice A0_4 l0_4.length c0_4, .slice A0_5 l0_5.length c0_5], .string a1] w fun e w' => e = .returned (.int .i64 r) ∧ Below w.heap.size w w' := by
 have hu27 := Tryz.underlying27
 have HR0_1 := Aside0.mk hr0_1
 have HC0_1 := Aside0.mk hc0_1
 clear hr0_1 hc0_1
 have HR0_3 := Aside0.mk hr0_3
 have HC0_3 := Aside0.mk hc0_3
 clear hr0_3 hc0_3
 have HR0_4 := Aside0.mk hr0_4
 have HC0_4 := Aside0.mk hc0_4
 clear hr0_4 hc0_4
 have HR0_5 := Aside0.mk hr0_5
 have HC0_5 := Aside0.mk hc0_5
 clear hr0_5 hc0_5
 have HB := Aside0.mk (Below.refl w.heap.size w)
 have H : (pleatref03_Of.l0 k a1 0 a0_0 l0_1 a0_2 l0_3 l0_4 l0_5) = some r := h
 clear h
 have H' := Aside0.mk H
 clear H
 go_enter Tryz.func106, Tryz.ntmps106
 go_wp2_with (first | ((with_reducible refine gate_dst (N := 2) rfl ?_); refine box_event ?hg (N := 2) ?hd (cs := #[.string a0_0, .slice A0_1 l0_1.length c0_1, .int .i64 a0_2, .slice A0_3 l0_3.length c0_3, .slice A0_4 l0_4.length c0_4, .slice A0_5 l0_5.length c0_5]) (t := 27) ?hr ?_; (case hd => rfl); (case hg => rfl); (case hr => go_simp; try rfl); intro gb236 hg w3 hbox hb; have BK236 := Aside0.mk (hbox); have GW236 := Aside0.mk (gwQ hg HB.out); have GE236 := Aside0.mk (gwQ hg HB.out); replace HB := Aside0.mk (bsQ hb HB.out); clear hb hbox hg))
 go_loopg [5] k (fun kq v5 w' => ∃ (x5_1 : Int), v5 = .int .i64 x5_1 ∧ Aside0 (pleatref03_Of.l0 kq a1 x5_1 a0_0 l0_1 a0_2 l0_3 l0_4 l0_5 = some r) ∧ Aside0 (kq ≤ k) ∧ Aside0 (w'.heap[gb236]? = some (.cells #[.string a0_0, (.slice A0_1 l0_1.length c0_1), .int .i64 a0_2, (.slice A0_3 l0_3.length c0_3), (.slice A0_4 l0_4.length c0_4), (.slice A0_5 l0_5.length c0_5)] 27 (0, 0))) ∧ Aside0 (Below w.heap.size w w'))
 case atStart => exact ⟨(0), (by first | rfl | (simp; done) | (simp [*]; done)), H', ⟨Nat.le_refl _⟩, ⟨by exact BK236.out⟩, ⟨by repeat with_reducible first | exact HB.out | apply pw_below_drewN | apply below_drew1 | refine below_set ?_ GE236.out⟩⟩
 case round =>
  clear H'
  try clear c1
  try clear p2
  obtain ⟨x5_1, rfl, HA, HK1, BK236, HB⟩ := hrel
  cases gk with
  | zero => exact absurd HA.out (by simp [pleatref03_Of.l0])
  | succ k1 =>
   have H := HA.out
   clear HA
   simp only [pleatref03_Of.l0] at H
   by_cases c4 : x5_1 < (l0_4.length : Int)
   ·
    rw [if_pos c4] at H
    have c4b0 : decide (x5_1 < (l0_4.length : Int)) = true := decide_eq_true c4
    clear c4
    by_cases c5 : 0 ≤ x5_1
    ·
     rw [if_pos c5] at H
     have c5b0 : decide (0 ≤ x5_1) = true := decide_eq_true c5
     clear c5
     by_cases c6 : ((rd_T65 l0_4 x5_1).f0).toList = a1.toList
     ·
      rw [if_pos c6] at H
      have c6b0 : (((rd_T65 l0_4 x5_1).f0).toList == a1.toList) = true := beq_iff_eq.mpr c6
      have c6b1 : (((rd_T65 l0_4 x5_1).f0).toList != a1.toList) = false := bne_eq_false_iff_eq.mpr c6
      clear c6
      obtain rfl := Option.some.inj H
      obtain ⟨hcz7_0, hcz7_1, hcz7_2, hcz7_3, hcz7_4, hcz7_5⟩ := bcQ6 BK236.out
      obtain ⟨hfz7_0, hfz7_1, hfz7_2, hfz7_3, hfz7_4, hfz7_5⟩ := fzQ6 BK236.out
      have p237 : 0 ≤ (x5_1 : Int) := of_decide_eq_true ‹_›
      have q237 : x5_1 < (l0_4.length : Int) := of_decide_eq_true ‹_›
      obtain ⟨ad237, e237, hx237_0, hx237_1, hx237_2⟩ := atQ65 HR0_4.out HB.out x5_1 p237 q237
      cases e237
      replace p237 := eq_true p237
      replace q237 := eq_true q237
      go_wp2
      go_ret
      exact ⟨by first | rfl | (simp [errW_none, errW_some] <;> rfl) | (simp [*, errW_none, errW_some] <;> rfl), by repeat with_reducible first | exact HB.out | apply pw_below_drewN | apply below_drew1 | refine below_set ?_ GE236.out⟩
     ·
      rw [if_neg c6] at H
      have c6b0 : (((rd_T65 l0_4 x5_1).f0).toList == a1.toList) = false := beq_eq_false_iff_ne.mpr c6
      have c6b1 : (((rd_T65 l0_4 x5_1).f0).toList != a1.toList) = true := bne_iff_ne.mpr c6
      have H' := Aside0.mk H
      clear H
      obtain ⟨hcz8_0, hcz8_1, hcz8_2, hcz8_3, hcz8_4, hcz8_5⟩ := bcQ6 BK236.out
      obtain ⟨hfz8_0, hfz8_1, hfz8_2, hfz8_3, hfz8_4, hfz8_5⟩ := fzQ6 BK236.out
      have p237 : 0 ≤ (x5_1 : Int) := of_decide_eq_true ‹_›
      have q237 : x5_1 < (l0_4.length : Int) := of_decide_eq_true ‹_›
      obtain ⟨ad237, e237, hx237_0, hx237_1, hx237_2⟩ := atQ65 HR0_4.out HB.out x5_1 p237 q237
      cases e237
      replace p237 := eq_true p237
      replace q237 := eq_true q237
      go_wp2
      go_roundg k1
      case measure => have := HK1.out; omega
      case rel => exact ⟨(wrap64 (x5_1 + 1)), (by first | rfl | (simp; done) | (simp [*]; done)), H', ⟨by have := HK1.out; omega⟩, ⟨by exact BK236.out⟩, ⟨by repeat with_reducible first | exact HB.out | apply pw_below_drewN | apply below_drew1 | refine below_set ?_ GE236.out⟩⟩
    ·
     rw [if_neg c5] at H
     exact absurd H (by simp)
   ·
    rw [if_neg c4] at H
    have c4b0 : decide (x5_1 < (l0_4.length : Int)) = false := decide_eq_false c4
    clear c4
    obtain rfl := Option.some.inj H
    obtain ⟨hcz9_0, hcz9_1, hcz9_2, hcz9_3, hcz9_4, hcz9_5⟩ := bcQ6 BK236.out
    obtain ⟨hfz9_0, hfz9_1, hfz9_2, hfz9_3, hfz9_4, hfz9_5⟩ := fzQ6 BK236.out
    go_wp2
    go_ret
    exact ⟨by first | rfl | (simp [errW_none, errW_some] <;> rfl) | (simp [*, errW_none, errW_some] <;> rfl), by repeat with_reducible first | exact HB.out | apply pw_below_drewN | apply below_drew1 | refine below_set ?_ GE236.out⟩
end Go.Proofs.YtiaohbbafaaibabGreatDoor.P

/- What the Go functions named below come to, as plain functions, each with its proof; written by this session's prt.py over the kit's print. -/
namespace Go.Proofs.YtiaohbbafaaibabGreatDoor.P
open Go.RowKit Go.Proofs.YtiaohbbafaaibabGreatDoorW.PrintWords Go.Proofs.YtiaohbbafaaibabGreatDoorW.PrintLast Go.Proofs.YtiaohbbafaaibabGreatDoorW.PrintMore
attribute [local go_sem] max2_int min2_int max_two min_two max_three min_three max_four min_four   -- for this text's walks alone
set_option linter.unusedVariables false
set_option linter.unusedSimpArgs false
/-! ### pleatref03_symbols: function 87 -/
mutual
def pleatref03_symbols.l0 : Nat → Int → ByteArray → List Int → Int → List Int → List (S65) → List (S82) → Option (Int × Int)
 | 0, _, _, _, _, _, _, _ => none
 | k + 1, x4, x239000, x239001, x239002, x239003, x239004, x239005 => if x4 < (x239004.length : Int) then (if 0 ≤ x4 then ((pleatref03_Name.f k ((rd_T65 x239004 x4).f0)).bind fun t241 => (if t241 = true then ((pleatref03_Of.f k x239000 x239001 x239002 x239003 x239004 x239005 ((rd_T65 x239004 x4).f0)).bind fun t242 => (if t242 = x4 then (if ((rd_T65 x239004 x4).f1) < 0 then (pleatref03_symbols.j1 k x4 true x239000 x239001 x239002 x239003 x239004 x239005 ((rd_T65 x239004 x4).f0) ((rd_T65 x239004 x4).f1) ((rd_T65 x239004 x4).f2)) else (pleatref03_symbols.j1 k x4 (decide (((rd_T65 x239004 x4).f1) > 3)) x239000 x239001 x239002 x239003 x239004 x239005 ((rd_T65 x239004 x4).f0) ((rd_T65 x239004 x4).f1) ((rd_T65 x239004 x4).f2))) else (some (26, x4)))) else (some (20, x4)))) else (none)) else (some (0, 0))
def pleatref03_symbols.j1 : Nat → Int → Bool → ByteArray → List Int → Int → List Int → List (S65) → List (S82) → ByteArray → Int → Int → Option (Int × Int)
 | 0, _, _, _, _, _, _, _, _, _, _, _ => none
 | k + 1, x4, x37, x239000, x239001, x239002, x239003, x239004, x239005, x241000, x241001, x241002 => if x37 = true then (some (23, x4)) else (if x241002 < 0 then (some (22, x4)) else (if x241002 > (x239001.length : Int) then (some (22, x4)) else (if x241001 = 3 then (if x241002 = 0 then (pleatref03_symbols.l0 k (wrap64 (x4 + 1)) x239000 x239001 x239002 x239003 x239004 x239005) else (some (22, x4))) else (pleatref03_symbols.l0 k (wrap64 (x4 + 1)) x239000 x239001 x239002 x239003 x239004 x239005))))
end
def pleatref03_symbols.f (k : Nat) (a0_0 : ByteArray) (l0_1 : List Int) (a0_2 : Int) (l0_3 : List Int) (l0_4 : List (S65)) (l0_5 : List (S82)) : Option (Int × Int) := pleatref03_symbols.l0 k 0 a0_0 l0_1 a0_2 l0_3 l0_4 l0_5
theorem pleatref03_symbols.mono_l : ∀ k, (∀ y0 y1 y2 y3 y4 y5 y6, LeO (pleatref03_symbols.l0 k y0 y1 y2 y3 y4 y5 y6) (pleatref03_symbols.l0 (k + 1) y0 y1 y2 y3 y4 y5 y6)) ∧ (∀ y0 y1 y2 y3 y4 y5 y6 y7 y8 y9 y10, LeO (pleatref03_symbols.j1 k y0 y1 y2 y3 y4 y5 y6 y7 y8 y9 y10) (pleatref03_symbols.j1 (k + 1) y0 y1 y2 y3 y4 y5 y6 y7 y8 y9 y10))
 | 0 => ⟨fun _ _ _ _ _ _ _ r h => by simp [pleatref03_symbols.l0] at h, fun _ _ _ _ _ _ _ _ _ _ _ r h => by simp [pleatref03_symbols.j1] at h⟩
 | k + 1 => by
  obtain ⟨ih0, ih1⟩ := pleatref03_symbols.mono_l k
  refine ⟨?_, ?_⟩
  ·
   intro y0 y1 y2 y3 y4 y5 y6
   unfold pleatref03_symbols.l0
   repeat' first
   | (with_reducible first | exact ih0 _ _ _ _ _ _ _ | exact ih1 _ _ _ _ _ _ _ _ _ _ _ | exact pleatref03_Name.mono _ _ | exact pleatref03_Of.mono _ _ _ _ _ _ _ _ | exact LeO.refl _ | exact LeO.none _ | refine LeO.ite ?_ ?_ | refine LeO.bind ?_ (fun _ => ?_))
  ·
   intro y0 y1 y2 y3 y4 y5 y6 y7 y8 y9 y10
   unfold pleatref03_symbols.j1
   repeat' first
   | (with_reducible first | exact ih0 _ _ _ _ _ _ _ | exact ih1 _ _ _ _ _ _ _ _ _ _ _ | exact pleatref03_Name.mono _ _ | exact pleatref03_Of.mono _ _ _ _ _ _ _ _ | exact LeO.refl _ | exact LeO.none _ | refine LeO.ite ?_ ?_ | refine LeO.bind ?_ (fun _ => ?_))
theorem pleatref03_symbols.mono : ∀ a0 a1 a2 a3 a4 a5 k, LeO (pleatref03_symbols.f k a0 a1 a2 a3 a4 a5) (pleatref03_symbols.f (k + 1) a0 a1 a2 a3 a4 a5) := by
 intro a0 a1 a2 a3 a4 a5 k
 obtain ⟨ih0, ih1⟩ := pleatref03_symbols.mono_l k
 unfold pleatref03_symbols.f
 repeat' first
   | (with_reducible first | exact ih0 _ _ _ _ _ _ _ | exact ih1 _ _ _ _ _ _ _ _ _ _ _ | exact pleatref03_Name.mono _ _ | exact pleatref03_Of.mono _ _ _ _ _ _ _ _ | exact LeO.refl _ | exact LeO.none _ | refine LeO.ite ?_ ?_ | refine LeO.bind ?_ (fun _ => ?_))
set_option maxHeartbeats 8000000 in
set_option maxRecDepth 100000 in
theorem pleatref03_symbols.calls (k : Nat) (a0_0 : ByteArray) (A0_1 : Option Addr) (c0_1 : Nat) (l0_1 : List Int) (a0_2 : Int) (A0_3 : Option Addr) (c0_3 : Nat) (l0_3 : List Int) (A0_4 : Option Addr) (c0_4 : Nat) (l0_4 : List (S65)) (A0_5 : Option Addr) (c0_5 : Nat) (l0_5 : List (S82)) (r1 : Int) (r2 : Int) (w : World) (hr0_1 : Kd.C (Kd.int .u32) w A0_1 l0_1.length l0_1) (hc0_1 : l0_1.length ≤ c0_1) (hr0_3 : Kd.C (Kd.int .i64) w A0_3 l0_3.length l0_3) (hc0_3 : l0_3.length ≤ c0_3) (hr0_4 : Kd.C k65 w A0_4 l0_4.length l0_4) (hc0_4 : l0_4.length ≤ c0_4) (hr0_5 : Kd.C k82 w A0_5 l0_5.length l0_5) (hc0_5 : l0_5.length ≤ c0_5) (h : pleatref03_symbols.f k a0_0 l0_1 a0_2 l0_3 l0_4 l0_5 = some (r1, r2)) :
  Calls Tryz.prog 87 #[.agg #[.string a0_0, .slice A0_1 l0_1.length c0_1, .int .i64 a0_2, .slice A0_3 l0_3.length c0_3, .slice A0_4 l0_4.length c0_4, .slice A0_5 l0_5.length c0_5]] w fun e w' => e = .returned (.tuple #[.int .i64 r1, .int .i64 r2]) ∧ Below w.heap.size w w' := by
 have hu27 := Tryz.underlying27
 have hu65 := Tryz.underlying65
 have HR0_1 := Aside0.mk hr0_1
 have HC0_1 := Aside0.mk hc0_1
 clear hr0_1 hc0_1
 have HR0_3 := Aside0.mk hr0_3
 have HC0_3 := Aside0.mk hc0_3
 clear hr0_3 hc0_3
 have HR0_4 := Aside0.mk hr0_4
 have HC0_4 := Aside0.mk hc0_4
 clear hr0_4 hc0_4
 have HR0_5 := Aside0.mk hr0_5
 have HC0_5 := Aside0.mk hc0_5
 clear hr0_5 hc0_5
 have HB := Aside0.mk (Below.refl w.heap.size w)
 have H : (pleatref03_symbols.l0 k 0 a0_0 l0_1 a0_2 l0_3 l0_4 l0_5) = some (r1, r2) := h
 clear h
 have H' := Aside0.mk H
 clear H
 go_enter Tryz.func87, Tryz.ntmps87
 go_wp2_with (first | ((with_reducible refine gate_dst (N := 1) rfl ?_); (try (refine gate_guard (by rfl) ?_; dsimp only)); refine box_event ?hg (N := 1) ?hd (cs := #[.string a0_0, .slice A0_1 l0_1.length c0_1, .int .i64 a0_2, .slice A0_3 l0_3.length c0_3, .slice A0_4 l0_4.length c0_4, .slice A0_5 l0_5.length c0_5]) (t := 27) ?hr ?_; (case hd => rfl); (case hg => rfl); (case hr => go_simp; try rfl); intro gb238 hg w2 hbox hb; have BK238 := Aside0.mk (hbox); have GW238 := Aside0.mk (gwQ hg HB.out); have GE238 := Aside0.mk (gwQ hg HB.out); replace HB := Aside0.mk (bsQ hb HB.out); clear hb hbox hg))
 go_loopg [4] k (fun kq v4 w' => ∃ (x4_1 : Int), v4 = .int .i64 x4_1 ∧ Aside0 (pleatref03_symbols.l0 kq x4_1 a0_0 l0_1 a0_2 l0_3 l0_4 l0_5 = some (r1, r2)) ∧ Aside0 (kq ≤ k) ∧ Aside0 (w'.heap[gb238]? = some (.cells #[.string a0_0, (.slice A0_1 l0_1.length c0_1), .int .i64 a0_2, (.slice A0_3 l0_3.length c0_3), (.slice A0_4 l0_4.length c0_4), (.slice A0_5 l0_5.length c0_5)] 27 (0, 0))) ∧ Aside0 (Below w.heap.size w w'))
 case atStart => exact ⟨(0), (by first | rfl | (simp; done) | (simp [*]; done)), H', ⟨Nat.le_refl _⟩, ⟨by exact BK238.out⟩, ⟨by repeat with_reducible first | exact HB.out | apply pw_below_drewN | apply below_drew1 | refine below_set ?_ GE238.out⟩⟩
 case round =>
  clear H'
  try clear p2
  obtain ⟨x4_1, rfl, HA, HK1, BK238, HB⟩ := hrel
  cases gk with
  | zero => exact absurd HA.out (by simp [pleatref03_symbols.l0])
  | succ k1 =>
   have H := HA.out
   clear HA
   simp only [pleatref03_symbols.l0] at H
   by_cases c3 : x4_1 < (l0_4.length : Int)
   ·
    rw [if_pos c3] at H
    have c3b0 : decide (x4_1 < (l0_4.length : Int)) = true := decide_eq_true c3
    clear c3
    by_cases c4 : 0 ≤ x4_1
    ·
     rw [if_pos c4] at H
     have c4b0 : decide (0 ≤ x4_1) = true := decide_eq_true c4
     clear c4
     replace H := Option.bind_eq_some_iff.mp H
     obtain ⟨t241, A50, H⟩ := H
     try dsimp only at H
     have A5 := Aside0.mk A50
     clear A50
     by_cases c6 : t241 = true
     ·
      subst c6
      rw [if_pos rfl] at H
      replace H := Option.bind_eq_some_iff.mp H
      obtain ⟨t242, A70, H⟩ := H
      try dsimp only at H
      have A7 := Aside0.mk A70
      clear A70
      by_cases c8 : t242 = x4_1
      ·
       rw [if_pos c8] at H
       have c8b0 : (t242 == x4_1) = true := beq_iff_eq.mpr c8
       have c8b1 : (t242 != x4_1) = false := bne_eq_false_iff_eq.mpr c8
       clear c8
       have HC9 := Aside0.mk H
       clear H
       obtain ⟨hcz10_0, hcz10_1, hcz10_2, hcz10_3, hcz10_4, hcz10_5⟩ := bcQ6 BK238.out
       obtain ⟨hfz10_0, hfz10_1, hfz10_2, hfz10_3, hfz10_4, hfz10_5⟩ := fzQ6 BK238.out
       have p239 : 0 ≤ (x4_1 : Int) := of_decide_eq_true ‹_›
       have q239 : x4_1 < (l0_4.length : Int) := of_decide_eq_true ‹_›
       obtain ⟨ad239, e239, hx239_0, hx239_1, hx239_2⟩ := atQ65 HR0_4.out HB.out x4_1 p239 q239
       cases e239
       replace p239 := eq_true p239
       replace q239 := eq_true q239
       go_upto_region 9 with (first | ((with_reducible refine gate_dst (N := 5) rfl ?_); (try (refine gate_guard (by rfl) ?_; dsimp only)); refine box_event ?hg (N := 5) ?hd (cs := #[.string (⟨#[]⟩ : ByteArray), .int .i8 0, .int .i64 0]) (t := 65) ?hr ?_; (case hd => rfl); (case hg => rfl); (case hr => go_simp; try rfl); intro gb240 hg w11 hbox hb; have n0_ := Aside0.mk (bbQ hb BK238.out); have n1_ := Aside0.mk (bs1Q hb (by repeat with_reducible first | exact HB.out | apply pw_below_drewN | apply below_drew1 | refine below_set ?_ GE238.out)); have n2_ := Aside0.mk (hbox); have n3_ := Aside0.mk (gw1Q hg (by repeat with_reducible first | exact HB.out | apply pw_below_drewN | apply below_drew1 | refine below_set ?_ GE238.out)); have n4_ := Aside0.mk (gw1Q hg (by repeat with_reducible first | exact HB.out | apply pw_below_drewN | apply below_drew1 | refine below_set ?_ GE238.out)); have n5_ := Aside0.mk ((by rw [hg]; exact Nat.ne_of_lt (blk_lt (g := gb238) (o := .cells #[.string a0_0, .slice A0_1 l0_1.length c0_1, .int .i64 a0_2, .slice A0_3 l0_3.length c0_3, .slice (some ad239) l0_4.length c0_4, .slice A0_5 l0_5.length c0_5] 27 (0, 0)) (by exact BK238.out)) : gb238 ≠ gb240)); have n6_ := Aside0.mk ((by rw [hg]; exact Nat.ne_of_gt (blk_lt (g := gb238) (o := .cells #[.string a0_0, .slice A0_1 l0_1.length c0_1, .int .i64 a0_2, .slice A0_3 l0_3.length c0_3, .slice (some ad239) l0_4.length c0_4, .slice A0_5 l0_5.length c0_5] 27 (0, 0)) (by exact BK238.out)) : gb240 ≠ gb238)); clear BK238; clear HB; have BK238 := n0_; have HB := n1_; have BK240 := n2_; have GW240 := n3_; have GE240 := n4_; have NB238_240 := n5_; have NB240_238 := n6_; clear n0_ n1_ n2_ n3_ n4_ n5_ n6_; clear hb hbox hg; have hnb12 := NB240_238.out; have hnc12 := NB238_240.out; obtain ⟨hcz13_0, hcz13_1, hcz13_2⟩ := bcQ3 BK240.out; obtain ⟨hfz13_0, hfz13_1, hfz13_2⟩ := fzQ3 BK240.out) | ((with_reducible refine gate_callee (f := 105) rfl ?_); refine goesL_ (some 20) rfl rfl Tryz.func105 (by kernel_rfl) rfl #[.string ((rd_T65 l0_4 x4_1).f0)] rfl (by (try simp only [List.map_toArray, List.map_cons, List.map_nil]); try rfl) ?_; (with_reducible refine (pleatref03_Name.calls k1 ((rd_T65 l0_4 x4_1).f0) true _ A5.out).mono ?_); rintro e w' ⟨rfl, ⟨nd, rfl⟩⟩; refine ⟨_, rfl, ?_⟩; obtain ⟨hcz14_0, hcz14_1, hcz14_2, hcz14_3, hcz14_4, hcz14_5⟩ := bcQ6 BK238.out; obtain ⟨hfz14_0, hfz14_1, hfz14_2, hfz14_3, hfz14_4, hfz14_5⟩ := fzQ6 BK238.out) | ((with_reducible refine gate_callee (f := 106) rfl ?_); refine goesL_ (some 26) rfl rfl Tryz.func106 (by kernel_rfl) rfl #[.agg #[.string a0_0, .slice A0_1 l0_1.length c0_1, .int .i64 a0_2, .slice A0_3 l0_3.length c0_3, .slice (some ad239) l0_4.length c0_4, .slice A0_5 l0_5.length c0_5], .string ((rd_T65 l0_4 x4_1).f0)] rfl (by (try simp only [List.map_toArray, List.map_cons, List.map_nil]); try rfl) ?_; (with_reducible refine (pleatref03_Of.calls k1 a0_0 _ _ l0_1 a0_2 _ _ l0_3 _ _ l0_4 _ _ l0_5 ((rd_T65 l0_4 x4_1).f0) t242 _ ?side1 ?side2 ?side3 ?side4 ?side5 ?side6 ?side7 ?side8 A7.out).mono ?_); (case side1 => exact Kd.C_below HR0_1.out (by repeat with_reducible first | exact HB.out | apply pw_below_drewN | apply below_drew1 | refine below_set ?_ GE238.out | refine below_set ?_ GE240.out)); (case side2 => exact HC0_1.out); (case side3 => exact Kd.C_below HR0_3.out (by repeat with_reducible first | exact HB.out | apply pw_below_drewN | apply below_drew1 | refine below_set ?_ GE238.out | refine below_set ?_ GE240.out)); (case side4 => exact HC0_3.out); (case side5 => exact Kd.C_below HR0_4.out (by repeat with_reducible first | exact HB.out | apply pw_below_drewN | apply below_drew1 | refine below_set ?_ GE238.out | refine below_set ?_ GE240.out)); (case side6 => exact HC0_4.out); (case side7 => exact Kd.C_below HR0_5.out (by repeat with_reducible first | exact HB.out | apply pw_below_drewN | apply below_drew1 | refine below_set ?_ GE238.out | refine below_set ?_ GE240.out)); (case side8 => exact HC0_5.out); rintro e w15 ⟨rfl, hb⟩; refine ⟨_, rfl, ?_⟩; have n0_ := Aside0.mk (blk_below (g := gb238) (o := .cells #[.string a0_0, .slice A0_1 l0_1.length c0_1, .int .i64 a0_2, .slice A0_3 l0_3.length c0_3, .slice (some ad239) l0_4.length c0_4, .slice A0_5 l0_5.length c0_5] 27 (0, 0)) (by refine blk_far ?_ NB238_240.out _; refine blk_far ?_ NB238_240.out _; refine blk_far ?_ NB238_240.out _; exact BK238.out) hb); have n1_ := Aside0.mk (blk_below (g := gb240) (o := .cells #[.string ((rd_T65 l0_4 x4_1).f0), .int .i8 ((rd_T65 l0_4 x4_1).f1), .int .i64 ((rd_T65 l0_4 x4_1).f2)] 65 (0, 0)) (by refine blk_put (cs := #[.string ((rd_T65 l0_4 x4_1).f0), .int .i8 ((rd_T65 l0_4 x4_1).f1), .int .i64 0]) ?_ 2 _ rfl; refine blk_put (cs := #[.string ((rd_T65 l0_4 x4_1).f0), .int .i8 0, .int .i64 0]) ?_ 1 _ rfl; refine blk_put (cs := #[.string (⟨#[]⟩ : ByteArray), .int .i8 0, .int .i64 0]) ?_ 0 _ rfl; exact BK240.out) hb); have n2_ := Aside0.mk (bs1Q hb (by repeat with_reducible first | exact HB.out | apply pw_below_drewN | apply below_drew1 | refine below_set ?_ GE238.out | refine below_set ?_ GE240.out)); clear BK238; clear BK240; clear HB; have BK238 := n0_; have BK240 := n1_; have HB := n2_; clear n0_ n1_ n2_; (try clear hb); (try clear hb2); (try clear hk); (try clear hi)))
       (try simp only [Act.put, List.setIfInBounds_toArray, List.set_cons_zero, List.set_cons_succ])
       go_cut [37] (fun v37 wc => ∃ (kq : Nat) (x37_8 : Bool), v37 = .bool x37_8 ∧ Aside0 (pleatref03_symbols.j1 kq x4_1 x37_8 a0_0 l0_1 a0_2 l0_3 l0_4 l0_5 ((rd_T65 l0_4 x4_1).f0) ((rd_T65 l0_4 x4_1).f1) ((rd_T65 l0_4 x4_1).f2) = some (r1, r2)) ∧ Aside0 (kq ≤ k1) ∧ Aside0 (wc.heap[gb238]? = some (.cells #[.string a0_0, (.slice A0_1 l0_1.length c0_1), .int .i64 a0_2, (.slice A0_3 l0_3.length c0_3), (.slice (some ad239) l0_4.length c0_4), (.slice A0_5 l0_5.length c0_5)] 27 (0, 0))) ∧ Aside0 (wc.heap[gb240]? = some (.cells #[.string ((rd_T65 l0_4 x4_1).f0), .int .i8 ((rd_T65 l0_4 x4_1).f1), .int .i64 ((rd_T65 l0_4 x4_1).f2)] 65 (0, 0))) ∧ Aside0 (Below w.heap.size w wc))
       case first =>
        have H := HC9.out
        clear HC9
        by_cases c16 : ((rd_T65 l0_4 x4_1).f1) < 0
        ·
         rw [if_pos c16] at H
         have c16b0 : decide (((rd_T65 l0_4 x4_1).f1) < 0) = true := decide_eq_true c16
         clear c16
         (first | rw [c16b0] | (simp only [i64_w, i32_w]; rw [c16b0]) | skip)
         have H' := Aside0.mk H
         clear H
         have hnb17 := NB240_238.out
         have hnc17 := NB238_240.out
         obtain ⟨hcz18_0, hcz18_1, hcz18_2⟩ := bcQ3 BK240.out
         obtain ⟨hfz18_0, hfz18_1, hfz18_2⟩ := fzQ3 BK240.out
         go_wp2
         go_meet
         case rel => exact ⟨_, (true), (by first | rfl | (simp; done) | (simp [*]; done)), H', ⟨by have := HK1.out; first | omega | exact Nat.le_refl _⟩, ⟨by exact BK238.out⟩, ⟨by exact BK240.out⟩, ⟨by repeat with_reducible first | exact HB.out | apply pw_below_drewN | apply below_drew1 | refine below_set ?_ GE238.out | refine below_set ?_ GE240.out⟩⟩
        ·
         rw [if_neg c16] at H
         have c16b0 : decide (((rd_T65 l0_4 x4_1).f1) < 0) = false := decide_eq_false c16
         clear c16
         (first | rw [c16b0] | (simp only [i64_w, i32_w]; rw [c16b0]) | skip)
         have H' := Aside0.mk H
         clear H
         have hnb19 := NB240_238.out
         have hnc19 := NB238_240.out
         obtain ⟨hcz20_0, hcz20_1, hcz20_2⟩ := bcQ3 BK240.out
         obtain ⟨hfz20_0, hfz20_1, hfz20_2⟩ := fzQ3 BK240.out
         go_wp2
         go_meet
         case rel => exact ⟨_, (decide (((rd_T65 l0_4 x4_1).f1) > 3)), (by first | rfl | (simp; done) | (simp [*]; done)), H', ⟨by have := HK1.out; first | omega | exact Nat.le_refl _⟩, ⟨by exact BK238.out⟩, ⟨by exact BK240.out⟩, ⟨by repeat with_reducible first | exact HB.out | apply pw_below_drewN | apply below_drew1 | refine below_set ?_ GE238.out | refine below_set ?_ GE240.out⟩⟩
       case rest =>
        clear HC9
        try clear c1
        try clear p2
        try clear q2
        try clear hx2
        try clear c3
        try clear c3b0
        try clear c4
        try clear c4b0
        try clear c6
        try clear c8
        try clear c8b0
        try clear c8b1
        try clear c10
        try clear c12
        try clear c16
        try clear c16b0
        try clear c17
        try clear c19
        try clear hcz10_0 hcz10_1 hcz10_2 hcz10_3 hcz10_4 hcz10_5
        try clear hcz13_0 hcz13_1 hcz13_2
        try clear hcz14_0 hcz14_1 hcz14_2 hcz14_3 hcz14_4 hcz14_5
        try clear hcz18_0 hcz18_1 hcz18_2
        try clear hcz20_0 hcz20_1 hcz20_2
        try clear hfz10_0 hfz10_1 hfz10_2 hfz10_3 hfz10_4 hfz10_5
        try clear hfz13_0 hfz13_1 hfz13_2
        try clear hfz14_0 hfz14_1 hfz14_2 hfz14_3 hfz14_4 hfz14_5
        try clear hfz18_0 hfz18_1 hfz18_2
        try clear hfz20_0 hfz20_1 hfz20_2
        try clear hx239_0
        try clear hx239_1
        try clear hx239_2
        try clear p2
        try clear p239
        try clear q239
        obtain ⟨kq, x37_8, rfl, HA, HJ8, BK238, BK240, HB⟩ := hcut
        cases kq with
        | zero => exact absurd HA.out (by simp [pleatref03_symbols.j1])
        | succ kj8 =>
         have H := HA.out
         clear HA
         simp only [pleatref03_symbols.j1] at H
         by_cases c21 : x37_8 = true
         ·
          subst c21
          rw [if_pos rfl] at H
          simp only [Option.some.injEq, Prod.mk.injEq] at H
          obtain ⟨rfl, rfl⟩ := H
          go_wp2
          go_ret2
          exact ⟨by first | rfl | (simp [errW_none, errW_some] <;> rfl) | (simp [*, errW_none, errW_some] <;> rfl), by repeat with_reducible first | exact HB.out | apply pw_below_drewN | apply below_drew1 | refine below_set ?_ GE238.out | refine below_set ?_ GE240.out⟩
         ·
          replace c21 := Bool.eq_false_iff.mpr c21
          subst c21
          rw [if_neg Bool.false_ne_true] at H
          by_cases c22 : ((rd_T65 l0_4 x4_1).f2) < 0
          ·
           rw [if_pos c22] at H
           have c22b0 : decide (((rd_T65 l0_4 x4_1).f2) < 0) = true := decide_eq_true c22
           clear c22
           simp only [Option.some.injEq, Prod.mk.injEq] at H
           obtain ⟨rfl, rfl⟩ := H
           have hnb23 := NB240_238.out
           have hnc23 := NB238_240.out
           obtain ⟨hcz24_0, hcz24_1, hcz24_2⟩ := bcQ3 BK240.out
           obtain ⟨hfz24_0, hfz24_1, hfz24_2⟩ := fzQ3 BK240.out
           go_wp2
           go_ret2
           exact ⟨by first | rfl | (simp [errW_none, errW_some] <;> rfl) | (simp [*, errW_none, errW_some] <;> rfl), by repeat with_reducible first | exact HB.out | apply pw_below_drewN | apply below_drew1 | refine below_set ?_ GE238.out | refine below_set ?_ GE240.out⟩
          ·
           rw [if_neg c22] at H
           have c22b0 : decide (((rd_T65 l0_4 x4_1).f2) < 0) = false := decide_eq_false c22
           clear c22
           by_cases c25 : ((rd_T65 l0_4 x4_1).f2) > (l0_1.length : Int)
           ·
            rw [if_pos c25] at H
            have c25b0 : decide ((l0_1.length : Int) < ((rd_T65 l0_4 x4_1).f2)) = true := decide_eq_true c25
            clear c25
            simp only [Option.some.injEq, Prod.mk.injEq] at H
            obtain ⟨rfl, rfl⟩ := H
            have hnb26 := NB240_238.out
            have hnc26 := NB238_240.out
            obtain ⟨hcz27_0, hcz27_1, hcz27_2⟩ := bcQ3 BK240.out
            obtain ⟨hfz27_0, hfz27_1, hfz27_2⟩ := fzQ3 BK240.out
            obtain ⟨hcz28_0, hcz28_1, hcz28_2, hcz28_3, hcz28_4, hcz28_5⟩ := bcQ6 BK238.out
            obtain ⟨hfz28_0, hfz28_1, hfz28_2, hfz28_3, hfz28_4, hfz28_5⟩ := fzQ6 BK238.out
            go_wp2
            go_ret2
            exact ⟨by first | rfl | (simp [errW_none, errW_some] <;> rfl) | (simp [*, errW_none, errW_some] <;> rfl), by repeat with_reducible first | exact HB.out | apply pw_below_drewN | apply below_drew1 | refine below_set ?_ GE238.out | refine below_set ?_ GE240.out⟩
           ·
            rw [if_neg c25] at H
            have c25b0 : decide ((l0_1.length : Int) < ((rd_T65 l0_4 x4_1).f2)) = false := decide_eq_false c25
            clear c25
            by_cases c29 : ((rd_T65 l0_4 x4_1).f1) = 3
            ·
             rw [if_pos c29] at H
             have c29b0 : (((rd_T65 l0_4 x4_1).f1) == 3) = true := beq_iff_eq.mpr c29
             have c29b1 : (((rd_T65 l0_4 x4_1).f1) != 3) = false := bne_eq_false_iff_eq.mpr c29
             clear c29
             by_cases c30 : ((rd_T65 l0_4 x4_1).f2) = 0
             ·
              rw [if_pos c30] at H
              have c30b0 : (((rd_T65 l0_4 x4_1).f2) == 0) = true := beq_iff_eq.mpr c30
              have c30b1 : (((rd_T65 l0_4 x4_1).f2) != 0) = false := bne_eq_false_iff_eq.mpr c30
              clear c30
              have H' := Aside0.mk H
              clear H
              have hnb31 := NB240_238.out
              have hnc31 := NB238_240.out
              obtain ⟨hcz32_0, hcz32_1, hcz32_2⟩ := bcQ3 BK240.out
              obtain ⟨hfz32_0, hfz32_1, hfz32_2⟩ := fzQ3 BK240.out
              obtain ⟨hcz33_0, hcz33_1, hcz33_2, hcz33_3, hcz33_4, hcz33_5⟩ := bcQ6 BK238.out
              obtain ⟨hfz33_0, hfz33_1, hfz33_2, hfz33_3, hfz33_4, hfz33_5⟩ := fzQ6 BK238.out
              go_wp2
              go_roundg kj8
              case measure => have := HK1.out; have := HJ8.out; omega
              case rel => exact ⟨(wrap64 (x4_1 + 1)), (by first | rfl | (simp; done) | (simp [*]; done)), H', ⟨by have := HK1.out; have := HJ8.out; omega⟩, ⟨by exact BK238.out⟩, ⟨by repeat with_reducible first | exact HB.out | apply pw_below_drewN | apply below_drew1 | refine below_set ?_ GE238.out | refine below_set ?_ GE240.out⟩⟩
             ·
              rw [if_neg c30] at H
              have c30b0 : (((rd_T65 l0_4 x4_1).f2) == 0) = false := beq_eq_false_iff_ne.mpr c30
              have c30b1 : (((rd_T65 l0_4 x4_1).f2) != 0) = true := bne_iff_ne.mpr c30
              simp only [Option.some.injEq, Prod.mk.injEq] at H
              obtain ⟨rfl, rfl⟩ := H
              have hnb34 := NB240_238.out
              have hnc34 := NB238_240.out
              obtain ⟨hcz35_0, hcz35_1, hcz35_2⟩ := bcQ3 BK240.out
              obtain ⟨hfz35_0, hfz35_1, hfz35_2⟩ := fzQ3 BK240.out
              obtain ⟨hcz36_0, hcz36_1, hcz36_2, hcz36_3, hcz36_4, hcz36_5⟩ := bcQ6 BK238.out
              obtain ⟨hfz36_0, hfz36_1, hfz36_2, hfz36_3, hfz36_4, hfz36_5⟩ := fzQ6 BK238.out
              go_wp2
              go_ret2
              exact ⟨by first | rfl | (simp [errW_none, errW_some] <;> rfl) | (simp [*, errW_none, errW_some] <;> rfl), by repeat with_reducible first | exact HB.out | apply pw_below_drewN | apply below_drew1 | refine below_set ?_ GE238.out | refine below_set ?_ GE240.out⟩
            ·
             rw [if_neg c29] at H
             have c29b0 : (((rd_T65 l0_4 x4_1).f1) == 3) = false := beq_eq_false_iff_ne.mpr c29
             have c29b1 : (((rd_T65 l0_4 x4_1).f1) != 3) = true := bne_iff_ne.mpr c29
             have H' := Aside0.mk H
             clear H
             have hnb37 := NB240_238.out
             have hnc37 := NB238_240.out
             obtain ⟨hcz38_0, hcz38_1, hcz38_2⟩ := bcQ3 BK240.out
             obtain ⟨hfz38_0, hfz38_1, hfz38_2⟩ := fzQ3 BK240.out
             obtain ⟨hcz39_0, hcz39_1, hcz39_2, hcz39_3, hcz39_4, hcz39_5⟩ := bcQ6 BK238.out
             obtain ⟨hfz39_0, hfz39_1, hfz39_2, hfz39_3, hfz39_4, hfz39_5⟩ := fzQ6 BK238.out
             go_wp2
             go_roundg kj8
             case measure => have := HK1.out; have := HJ8.out; omega
             case rel => exact ⟨(wrap64 (x4_1 + 1)), (by first | rfl | (simp; done) | (simp [*]; done)), H', ⟨by have := HK1.out; have := HJ8.out; omega⟩, ⟨by exact BK238.out⟩, ⟨by repeat with_reducible first | exact HB.out | apply pw_below_drewN | apply below_drew1 | refine below_set ?_ GE238.out | refine below_set ?_ GE240.out⟩⟩
      ·
       rw [if_neg c8] at H
       have c8b0 : (t242 == x4_1) = false := beq_eq_false_iff_ne.mpr c8
       have c8b1 : (t242 != x4_1) = true := bne_iff_ne.mpr c8
       simp only [Option.some.injEq, Prod.mk.injEq] at H
       obtain ⟨rfl, rfl⟩ := H
       obtain ⟨hcz40_0, hcz40_1, hcz40_2, hcz40_3, hcz40_4, hcz40_5⟩ := bcQ6 BK238.out
       obtain ⟨hfz40_0, hfz40_1, hfz40_2, hfz40_3, hfz40_4, hfz40_5⟩ := fzQ6 BK238.out
       have p239 : 0 ≤ (x4_1 : Int) := of_decide_eq_true ‹_›
       have q239 : x4_1 < (l0_4.length : Int) := of_decide_eq_true ‹_›
       obtain ⟨ad239, e239, hx239_0, hx239_1, hx239_2⟩ := atQ65 HR0_4.out HB.out x4_1 p239 q239
       cases e239
       replace p239 := eq_true p239
       replace q239 := eq_true q239
       go_wp2_with (first | ((with_reducible refine gate_dst (N := 5) rfl ?_); (try (refine gate_guard (by rfl) ?_; dsimp only)); refine box_event ?hg (N := 5) ?hd (cs := #[.string (⟨#[]⟩ : ByteArray), .int .i8 0, .int .i64 0]) (t := 65) ?hr ?_; (case hd => rfl); (case hg => rfl); (case hr => go_simp; try rfl); intro gb240 hg w41 hbox hb; have n0_ := Aside0.mk (bbQ hb BK238.out); have n1_ := Aside0.mk (bs1Q hb (by repeat with_reducible first | exact HB.out | apply pw_below_drewN | apply below_drew1 | refine below_set ?_ GE238.out)); have n2_ := Aside0.mk (hbox); have n3_ := Aside0.mk (gw1Q hg (by repeat with_reducible first | exact HB.out | apply pw_below_drewN | apply below_drew1 | refine below_set ?_ GE238.out)); have n4_ := Aside0.mk (gw1Q hg (by repeat with_reducible first | exact HB.out | apply pw_below_drewN | apply below_drew1 | refine below_set ?_ GE238.out)); have n5_ := Aside0.mk ((by rw [hg]; exact Nat.ne_of_lt (blk_lt (g := gb238) (o := .cells #[.string a0_0, .slice A0_1 l0_1.length c0_1, .int .i64 a0_2, .slice A0_3 l0_3.length c0_3, .slice (some ad239) l0_4.length c0_4, .slice A0_5 l0_5.length c0_5] 27 (0, 0)) (by exact BK238.out)) : gb238 ≠ gb240)); have n6_ := Aside0.mk ((by rw [hg]; exact Nat.ne_of_gt (blk_lt (g := gb238) (o := .cells #[.string a0_0, .slice A0_1 l0_1.length c0_1, .int .i64 a0_2, .slice A0_3 l0_3.length c0_3, .slice (some ad239) l0_4.length c0_4, .slice A0_5 l0_5.length c0_5] 27 (0, 0)) (by exact BK238.out)) : gb240 ≠ gb238)); clear BK238; clear HB; have BK238 := n0_; have HB := n1_; have BK240 := n2_; have GW240 := n3_; have GE240 := n4_; have NB238_240 := n5_; have NB240_238 := n6_; clear n0_ n1_ n2_ n3_ n4_ n5_ n6_; clear hb hbox hg; have hnb42 := NB240_238.out; have hnc42 := NB238_240.out; obtain ⟨hcz43_0, hcz43_1, hcz43_2⟩ := bcQ3 BK240.out; obtain ⟨hfz43_0, hfz43_1, hfz43_2⟩ := fzQ3 BK240.out) | ((with_reducible refine gate_callee (f := 105) rfl ?_); refine goesL_ (some 20) rfl rfl Tryz.func105 (by kernel_rfl) rfl #[.string ((rd_T65 l0_4 x4_1).f0)] rfl (by (try simp only [List.map_toArray, List.map_cons, List.map_nil]); try rfl) ?_; (with_reducible refine (pleatref03_Name.calls k1 ((rd_T65 l0_4 x4_1).f0) true _ A5.out).mono ?_); rintro e w' ⟨rfl, ⟨nd, rfl⟩⟩; refine ⟨_, rfl, ?_⟩; obtain ⟨hcz44_0, hcz44_1, hcz44_2, hcz44_3, hcz44_4, hcz44_5⟩ := bcQ6 BK238.out; obtain ⟨hfz44_0, hfz44_1, hfz44_2, hfz44_3, hfz44_4, hfz44_5⟩ := fzQ6 BK238.out) | ((with_reducible refine gate_callee (f := 106) rfl ?_); refine goesL_ (some 26) rfl rfl Tryz.func106 (by kernel_rfl) rfl #[.agg #[.string a0_0, .slice A0_1 l0_1.length c0_1, .int .i64 a0_2, .slice A0_3 l0_3.length c0_3, .slice (some ad239) l0_4.length c0_4, .slice A0_5 l0_5.length c0_5], .string ((rd_T65 l0_4 x4_1).f0)] rfl (by (try simp only [List.map_toArray, List.map_cons, List.map_nil]); try rfl) ?_; (with_reducible refine (pleatref03_Of.calls k1 a0_0 _ _ l0_1 a0_2 _ _ l0_3 _ _ l0_4 _ _ l0_5 ((rd_T65 l0_4 x4_1).f0) t242 _ ?side1 ?side2 ?side3 ?side4 ?side5 ?side6 ?side7 ?side8 A7.out).mono ?_); (case side1 => exact Kd.C_below HR0_1.out (by repeat with_reducible first | exact HB.out | apply pw_below_drewN | apply below_drew1 | refine below_set ?_ GE238.out | refine below_set ?_ GE240.out)); (case side2 => exact HC0_1.out); (case side3 => exact Kd.C_below HR0_3.out (by repeat with_reducible first | exact HB.out | apply pw_below_drewN | apply below_drew1 | refine below_set ?_ GE238.out | refine below_set ?_ GE240.out)); (case side4 => exact HC0_3.out); (case side5 => exact Kd.C_below HR0_4.out (by repeat with_reducible first | exact HB.out | apply pw_below_drewN | apply below_drew1 | refine below_set ?_ GE238.out | refine below_set ?_ GE240.out)); (case side6 => exact HC0_4.out); (case side7 => exact Kd.C_below HR0_5.out (by repeat with_reducible first | exact HB.out | apply pw_below_drewN | apply below_drew1 | refine below_set ?_ GE238.out | refine below_set ?_ GE240.out)); (case side8 => exact HC0_5.out); rintro e w45 ⟨rfl, hb⟩; refine ⟨_, rfl, ?_⟩; have n0_ := Aside0.mk (blk_below (g := gb238) (o := .cells #[.string a0_0, .slice A0_1 l0_1.length c0_1, .int .i64 a0_2, .slice A0_3 l0_3.length c0_3, .slice (some ad239) l0_4.length c0_4, .slice A0_5 l0_5.length c0_5] 27 (0, 0)) (by refine blk_far ?_ NB238_240.out _; refine blk_far ?_ NB238_240.out _; refine blk_far ?_ NB238_240.out _; exact BK238.out) hb); have n1_ := Aside0.mk (blk_below (g := gb240) (o := .cells #[.string ((rd_T65 l0_4 x4_1).f0), .int .i8 ((rd_T65 l0_4 x4_1).f1), .int .i64 ((rd_T65 l0_4 x4_1).f2)] 65 (0, 0)) (by refine blk_put (cs := #[.string ((rd_T65 l0_4 x4_1).f0), .int .i8 ((rd_T65 l0_4 x4_1).f1), .int .i64 0]) ?_ 2 _ rfl; refine blk_put (cs := #[.string ((rd_T65 l0_4 x4_1).f0), .int .i8 0, .int .i64 0]) ?_ 1 _ rfl; refine blk_put (cs := #[.string (⟨#[]⟩ : ByteArray), .int .i8 0, .int .i64 0]) ?_ 0 _ rfl; exact BK240.out) hb); have n2_ := Aside0.mk (bs1Q hb (by repeat with_reducible first | exact HB.out | apply pw_below_drewN | apply below_drew1 | refine below_set ?_ GE238.out | refine below_set ?_ GE240.out)); clear BK238; clear BK240; clear HB; have BK238 := n0_; have BK240 := n1_; have HB := n2_; clear n0_ n1_ n2_; (try clear hb); (try clear hb2); (try clear hk); (try clear hi)))
       go_ret2
       exact ⟨by first | rfl | (simp [errW_none, errW_some] <;> rfl) | (simp [*, errW_none, errW_some] <;> rfl), by repeat with_reducible first | exact HB.out | apply pw_below_drewN | apply below_drew1 | refine below_set ?_ GE238.out | refine below_set ?_ GE240.out⟩
     ·
      replace c6 := Bool.eq_false_iff.mpr c6
      subst c6
      rw [if_neg Bool.false_ne_true] at H
      simp only [Option.some.injEq, Prod.mk.injEq] at H
      obtain ⟨rfl, rfl⟩ := H
      obtain ⟨hcz46_0, hcz46_1, hcz46_2, hcz46_3, hcz46_4, hcz46_5⟩ := bcQ6 BK238.out
      obtain ⟨hfz46_0, hfz46_1, hfz46_2, hfz46_3, hfz46_4, hfz46_5⟩ := fzQ6 BK238.out
      have p239 : 0 ≤ (x4_1 : Int) := of_decide_eq_true ‹_›
      have q239 : x4_1 < (l0_4.length : Int) := of_decide_eq_true ‹_›
      obtain ⟨ad239, e239, hx239_0, hx239_1, hx239_2⟩ := atQ65 HR0_4.out HB.out x4_1 p239 q239
      cases e239
      replace p239 := eq_true p239
      replace q239 := eq_true q239
      go_wp2_with (first | ((with_reducible refine gate_dst (N := 5) rfl ?_); (try (refine gate_guard (by rfl) ?_; dsimp only)); refine box_event ?hg (N := 5) ?hd (cs := #[.string (⟨#[]⟩ : ByteArray), .int .i8 0, .int .i64 0]) (t := 65) ?hr ?_; (case hd => rfl); (case hg => rfl); (case hr => go_simp; try rfl); intro gb240 hg w47 hbox hb; have n0_ := Aside0.mk (bbQ hb BK238.out); have n1_ := Aside0.mk (bs1Q hb (by repeat with_reducible first | exact HB.out | apply pw_below_drewN | apply below_drew1 | refine below_set ?_ GE238.out)); have n2_ := Aside0.mk (hbox); have n3_ := Aside0.mk (gw1Q hg (by repeat with_reducible first | exact HB.out | apply pw_below_drewN | apply below_drew1 | refine below_set ?_ GE238.out)); have n4_ := Aside0.mk (gw1Q hg (by repeat with_reducible first | exact HB.out | apply pw_below_drewN | apply below_drew1 | refine below_set ?_ GE238.out)); have n5_ := Aside0.mk ((by rw [hg]; exact Nat.ne_of_lt (blk_lt (g := gb238) (o := .cells #[.string a0_0, .slice A0_1 l0_1.length c0_1, .int .i64 a0_2, .slice A0_3 l0_3.length c0_3, .slice (some ad239) l0_4.length c0_4, .slice A0_5 l0_5.length c0_5] 27 (0, 0)) (by exact BK238.out)) : gb238 ≠ gb240)); have n6_ := Aside0.mk ((by rw [hg]; exact Nat.ne_of_gt (blk_lt (g := gb238) (o := .cells #[.string a0_0, .slice A0_1 l0_1.length c0_1, .int .i64 a0_2, .slice A0_3 l0_3.length c0_3, .slice (some ad239) l0_4.length c0_4, .slice A0_5 l0_5.length c0_5] 27 (0, 0)) (by exact BK238.out)) : gb240 ≠ gb238)); clear BK238; clear HB; have BK238 := n0_; have HB := n1_; have BK240 := n2_; have GW240 := n3_; have GE240 := n4_; have NB238_240 := n5_; have NB240_238 := n6_; clear n0_ n1_ n2_ n3_ n4_ n5_ n6_; clear hb hbox hg; have hnb48 := NB240_238.out; have hnc48 := NB238_240.out; obtain ⟨hcz49_0, hcz49_1, hcz49_2⟩ := bcQ3 BK240.out; obtain ⟨hfz49_0, hfz49_1, hfz49_2⟩ := fzQ3 BK240.out) | ((with_reducible refine gate_callee (f := 105) rfl ?_); refine goesL_ (some 20) rfl rfl Tryz.func105 (by kernel_rfl) rfl #[.string ((rd_T65 l0_4 x4_1).f0)] rfl (by (try simp only [List.map_toArray, List.map_cons, List.map_nil]); try rfl) ?_; (with_reducible refine (pleatref03_Name.calls k1 ((rd_T65 l0_4 x4_1).f0) false _ A5.out).mono ?_); rintro e w' ⟨rfl, ⟨nd, rfl⟩⟩; refine ⟨_, rfl, ?_⟩))
      go_ret2
      exact ⟨by first | rfl | (simp [errW_none, errW_some] <;> rfl) | (simp [*, errW_none, errW_some] <;> rfl), by repeat with_reducible first | exact HB.out | apply pw_below_drewN | apply below_drew1 | refine below_set ?_ GE238.out | refine below_set ?_ GE240.out⟩
    ·
     rw [if_neg c4] at H
     exact absurd H (by simp)
   ·
    rw [if_neg c3] at H
    have c3b0 : decide (x4_1 < (l0_4.length : Int)) = false := decide_eq_false c3
    clear c3
    simp only [Option.some.injEq, Prod.mk.injEq] at H
    obtain ⟨rfl, rfl⟩ := H
    obtain ⟨hcz50_0, hcz50_1, hcz50_2, hcz50_3, hcz50_4, hcz50_5⟩ := bcQ6 BK238.out
    obtain ⟨hfz50_0, hfz50_1, hfz50_2, hfz50_3, hfz50_4, hfz50_5⟩ := fzQ6 BK238.out
    go_wp2
    go_ret2
    exact ⟨by first | rfl | (simp [errW_none, errW_some] <;> rfl) | (simp [*, errW_none, errW_some] <;> rfl), by repeat with_reducible first | exact HB.out | apply pw_below_drewN | apply below_drew1 | refine below_set ?_ GE238.out⟩
end Go.Proofs.YtiaohbbafaaibabGreatDoor.P
