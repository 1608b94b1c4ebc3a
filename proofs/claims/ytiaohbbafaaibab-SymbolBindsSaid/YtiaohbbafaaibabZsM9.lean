/- OWN TEXT and printed parts of this claim, laid together: P9, P3, HSymW. -/
import Derived.Test.YtiaohbbafaaibabZsM0
import Derived.Test.YtiaohbbafaaibabZsM6
import Derived.Test.YtiaohbbafaaibabZsM7
import Derived.WalkMore
/- What the Go functions named below come to, as plain functions, each with its proof; written by this session's prt.py over the kit's print. -/
namespace Go.Proofs.Ytiaohbbafaaibab.P
open Go.RowKit Go.Proofs.YtiaohbbafaaibabW.PrintWords Go.Proofs.YtiaohbbafaaibabW.PrintLast Go.Proofs.YtiaohbbafaaibabW.PrintMore
attribute [local go_sem] max2_int min2_int max_two min_two max_three min_three max_four min_four   -- for this text's walks alone
set_option linter.unusedVariables false
set_option linter.unusedSimpArgs false
/-! ### pleatref00_Long: function 35 -/
def pleatref00_Long.f (a0 : Int) : Option (Bool) := some (decide (a0 > 2147483647))
set_option maxHeartbeats 8000000 in
set_option maxRecDepth 100000 in
theorem pleatref00_Long.calls (a0 : Int) (r : Bool) (w : World) (h : pleatref00_Long.f a0 = some r) :
  Calls Try.prog 35 #[.int .i64 a0] w fun e w' => e = .returned (.bool r) ∧ Drawn0 w w' := by
 have H : (some (decide (a0 > 2147483647))) = some r := h
 clear h
 obtain rfl := Option.some.inj H
 go_enter Try.func35, Try.ntmps35
 go_wp2
 go_ret
 exact ⟨by first | rfl | (simp; done) | (simp [*]; done), by repeat (first | exact Drawn0.refl _ | apply Drawn0.step)⟩


/-! ### pleatref00_SizeObjects: function 36 -/
mutual
def pleatref00_SizeObjects.l0 : Nat → List (S27) → Int → Int → Option (Int)
 | 0, _, _, _ => none
 | k + 1, x0, x3, x4 => if x4 < (x0.length : Int) then (pleatref00_SizeObjects.j1 k x0 x3 x4 (decide (x3 ≤ 2147483647))) else (pleatref00_SizeObjects.j1 k x0 x3 x4 false)
def pleatref00_SizeObjects.j1 : Nat → List (S27) → Int → Int → Bool → Option (Int)
 | 0, _, _, _, _ => none
 | k + 1, x0, x3, x4, x15 => if x15 = true then (if 0 ≤ x4 then (if x4 < (x0.length : Int) then (pleatref00_SizeObjects.l1 k x0 (wrap64 ((wrap64 ((wrap64 ((wrap64 ((wrap64 (x3 + (((rd_T27 x0 x4).f0).size : Int))) + (wrap64 (4 * (((rd_T27 x0 x4).f1).length : Int))))) + (wrap64 (8 * (((rd_T27 x0 x4).f3).length : Int))))) + (((rd_T27 x0 x4).f5).length : Int))) + (((rd_T27 x0 x4).f4).length : Int))) x4 0) else (none)) else (none)) else (some x3)
def pleatref00_SizeObjects.l1 : Nat → List (S27) → Int → Int → Int → Option (Int)
 | 0, _, _, _, _ => none
 | k + 1, x0, x3, x4, x5 => if 0 ≤ x4 then (if x4 < (x0.length : Int) then (if x5 < (((rd_T27 x0 x4).f4).length : Int) then (if x3 ≤ 2147483647 then (if 0 ≤ x5 then (pleatref00_SizeObjects.l1 k x0 (wrap64 (x3 + (((rd_T37 ((rd_T27 x0 x4).f4) x5).f0).size : Int))) x4 (wrap64 (x5 + 1))) else (none)) else (pleatref00_SizeObjects.l0 k x0 x3 (wrap64 (x4 + 1)))) else (pleatref00_SizeObjects.l0 k x0 x3 (wrap64 (x4 + 1)))) else (none)) else (none)
end
def pleatref00_SizeObjects.f (k : Nat) (l0 : List (S27)) : Option (Int) := pleatref00_SizeObjects.l0 k l0 (l0.length : Int) 0
theorem pleatref00_SizeObjects.mono_l : ∀ k, (∀ y0 y1 y2, LeO (pleatref00_SizeObjects.l0 k y0 y1 y2) (pleatref00_SizeObjects.l0 (k + 1) y0 y1 y2)) ∧ (∀ y0 y1 y2 y3, LeO (pleatref00_SizeObjects.j1 k y0 y1 y2 y3) (pleatref00_SizeObjects.j1 (k + 1) y0 y1 y2 y3)) ∧ (∀ y0 y1 y2 y3, LeO (pleatref00_SizeObjects.l1 k y0 y1 y2 y3) (pleatref00_SizeObjects.l1 (k + 1) y0 y1 y2 y3))
 | 0 => ⟨fun _ _ _ r h => by simp [pleatref00_SizeObjects.l0] at h, fun _ _ _ _ r h => by simp [pleatref00_SizeObjects.j1] at h, fun _ _ _ _ r h => by simp [pleatref00_SizeObjects.l1] at h⟩
 | k + 1 => by
  obtain ⟨ih0, ih1, ih2⟩ := pleatref00_SizeObjects.mono_l k
  refine ⟨?_, ?_, ?_⟩
  ·
   intro y0 y1 y2
   unfold pleatref00_SizeObjects.l0
   repeat' first
   | (with_reducible exact ih0 _ _ _)
   | (with_reducible exact ih1 _ _ _ _)
   | (with_reducible exact ih2 _ _ _ _)
   | (with_reducible exact LeO.refl _)
   | (with_reducible exact LeO.none _)
   | (with_reducible refine LeO.ite ?_ ?_)
   | (with_reducible refine LeO.bind ?_ (fun _ => ?_))
   | exact ih0 _ _ _
   | exact ih1 _ _ _ _
   | exact ih2 _ _ _ _
   | exact LeO.none _
   | refine LeO.ite ?_ ?_
   | refine LeO.bind ?_ (fun _ => ?_)
  ·
   intro y0 y1 y2 y3
   unfold pleatref00_SizeObjects.j1
   repeat' first
   | (with_reducible exact ih0 _ _ _)
   | (with_reducible exact ih1 _ _ _ _)
   | (with_reducible exact ih2 _ _ _ _)
   | (with_reducible exact LeO.refl _)
   | (with_reducible exact LeO.none _)
   | (with_reducible refine LeO.ite ?_ ?_)
   | (with_reducible refine LeO.bind ?_ (fun _ => ?_))
   | exact ih0 _ _ _
   | exact ih1 _ _ _ _
   | exact ih2 _ _ _ _
   | exact LeO.none _
   | refine LeO.ite ?_ ?_
   | refine LeO.bind ?_ (fun _ => ?_)
  ·
   intro y0 y1 y2 y3
   unfold pleatref00_SizeObjects.l1
   repeat' first
   | (with_reducible exact ih0 _ _ _)
   | (with_reducible exact ih1 _ _ _ _)
   | (with_reducible exact ih2 _ _ _ _)
   | (with_reducible exact LeO.refl _)
   | (with_reducible exact LeO.none _)
   | (with_reducible refine LeO.ite ?_ ?_)
   | (with_reducible refine LeO.bind ?_ (fun _ => ?_))
   | exact ih0 _ _ _
   | exact ih1 _ _ _ _
   | exact ih2 _ _ _ _
   | exact LeO.none _
   | refine LeO.ite ?_ ?_
   | refine LeO.bind ?_ (fun _ => ?_)
theorem pleatref00_SizeObjects.mono : ∀ a0 k, LeO (pleatref00_SizeObjects.f k a0) (pleatref00_SizeObjects.f (k + 1) a0) := by
 intro a0 k
 obtain ⟨ih0, ih1, ih2⟩ := pleatref00_SizeObjects.mono_l k
 unfold pleatref00_SizeObjects.f
 repeat' first
   | (with_reducible exact ih0 _ _ _)
   | (with_reducible exact ih1 _ _ _ _)
   | (with_reducible exact ih2 _ _ _ _)
   | (with_reducible exact LeO.refl _)
   | (with_reducible exact LeO.none _)
   | (with_reducible refine LeO.ite ?_ ?_)
   | (with_reducible refine LeO.bind ?_ (fun _ => ?_))
   | exact ih0 _ _ _
   | exact ih1 _ _ _ _
   | exact ih2 _ _ _ _
   | exact LeO.none _
   | refine LeO.ite ?_ ?_
   | refine LeO.bind ?_ (fun _ => ?_)
set_option maxHeartbeats 8000000 in
set_option maxRecDepth 100000 in
theorem pleatref00_SizeObjects.calls (k : Nat) (A0 : Option Addr) (c0 : Nat) (l0 : List (S27)) (r : Int) (w : World) (hr0 : Kd.C k27 w A0 l0.length l0) (hc0 : l0.length ≤ c0) (h : pleatref00_SizeObjects.f k l0 = some r) :
  Calls Try.prog 36 #[.slice A0 l0.length c0] w fun e w' => e = .returned (.int .i64 r) ∧ Drawn0 w w' := by
 have HR0 := Aside0.mk hr0
 have HC0 := Aside0.mk hc0
 clear hr0 hc0
 have H : (pleatref00_SizeObjects.l0 k l0 (l0.length : Int) 0) = some r := h
 clear h
 have H' := Aside0.mk H
 clear H
 go_enter Try.func36, Try.ntmps36
 go_wp2
 repeat (go_quiet (fail); try go_wp2)
 go_loopg [3, 4] k (fun kq v3 v4 w' => ∃ (x3_1 : Int) (x4_1 : Int), v3 = .int .i64 x3_1 ∧ v4 = .int .i64 x4_1 ∧ Aside0 (pleatref00_SizeObjects.l0 kq l0 x3_1 x4_1 = some r) ∧ Aside0 (kq ≤ k) ∧ Drawn0 w w')
 case atStart => exact ⟨((l0.length : Int)), (0), (by first | rfl | (simp; done) | (simp [*]; done)), (by first | rfl | (simp; done) | (simp [*]; done)), H', ⟨Nat.le_refl _⟩, by repeat (first | exact Drawn0.refl _ | apply Drawn0.step)⟩
 case round =>
  clear H'
  obtain ⟨x3_1, x4_1, rfl, rfl, HA, HK1, ⟨m1, rfl⟩⟩ := hrel
  cases gk with
  | zero => exact absurd HA.out (by simp [pleatref00_SizeObjects.l0])
  | succ k1 =>
   have H := HA.out
   clear HA
   simp only [pleatref00_SizeObjects.l0] at H
   have HC2 := Aside0.mk H
   clear H
   go_upto_region 3 with (fail)
   repeat (go_quiet (fail); go_upto_region 3 with (fail))
   go_cut [15] (fun v15 wc => ∃ (kq : Nat) (x15_1 : Bool), v15 = .bool x15_1 ∧ Aside0 (pleatref00_SizeObjects.j1 kq l0 x3_1 x4_1 x15_1 = some r) ∧ Aside0 (kq ≤ k1) ∧ Drawn0 w wc)
   case first =>
    have H := HC2.out
    clear HC2
    by_cases c3 : x4_1 < (l0.length : Int)
    ·
     rw [if_pos c3] at H
     have c3b0 : decide (x4_1 < (l0.length : Int)) = true := decide_eq_true c3
     clear c3
     (first | rw [c3b0] | (simp only [i64_w, i32_w]; rw [c3b0]) | skip)
     have H' := Aside0.mk H
     clear H
     go_wp2
     repeat (go_quiet (fail); try go_wp2)
     go_meet
     case rel => exact ⟨_, (decide (x3_1 ≤ 2147483647)), (by first | rfl | (simp; done) | (simp [*]; done)), H', ⟨by have := HK1.out; first | omega | exact Nat.le_refl _⟩, by repeat (first | exact Drawn0.refl _ | apply Drawn0.step)⟩
    ·
     rw [if_neg c3] at H
     have c3b0 : decide (x4_1 < (l0.length : Int)) = false := decide_eq_false c3
     clear c3
     (first | rw [c3b0] | (simp only [i64_w, i32_w]; rw [c3b0]) | skip)
     have H' := Aside0.mk H
     clear H
     go_wp2
     repeat (go_quiet (fail); try go_wp2)
     go_meet
     case rel => exact ⟨_, (false), (by first | rfl | (simp; done) | (simp [*]; done)), H', ⟨by have := HK1.out; first | omega | exact Nat.le_refl _⟩, by repeat (first | exact Drawn0.refl _ | apply Drawn0.step)⟩
   case rest =>
    clear HC2
    try clear p2
    try clear c3
    try clear c3b0
    obtain ⟨kq, x15_1, rfl, HA, HJ1, ⟨mc1, rfl⟩⟩ := hcut
    cases kq with
    | zero => exact absurd HA.out (by simp [pleatref00_SizeObjects.j1])
    | succ kj1 =>
     have H := HA.out
     clear HA
     simp only [pleatref00_SizeObjects.j1] at H
     by_cases c4 : x15_1 = true
     ·
      subst c4
      have H1 : (if 0 ≤ x4_1 then (if x4_1 < (l0.length : Int) then (pleatref00_SizeObjects.l1 kj1 l0 (wrap64 ((wrap64 ((wrap64 ((wrap64 ((wrap64 (x3_1 + (((rd_T27 l0 x4_1).f0).size : Int))) + (wrap64 (4 * (((rd_T27 l0 x4_1).f1).length : Int))))) + (wrap64 (8 * (((rd_T27 l0 x4_1).f3).length : Int))))) + (((rd_T27 l0 x4_1).f5).length : Int))) + (((rd_T27 l0 x4_1).f4).length : Int))) x4_1 0) else (none)) else (none)) = some r := by rw [if_pos rfl] at H; exact H
      clear H
      have H := H1
      clear H1
      by_cases c5 : 0 ≤ x4_1
      ·
       rw [if_pos c5] at H
       have c5b0 : decide (0 ≤ x4_1) = true := decide_eq_true c5
       clear c5
       by_cases c6 : x4_1 < (l0.length : Int)
       ·
        rw [if_pos c6] at H
        have c6b0 : decide (x4_1 < (l0.length : Int)) = true := decide_eq_true c6
        clear c6
        have H' := Aside0.mk H
        clear H
        have p343 : 0 ≤ (x4_1 : Int) := of_decide_eq_true (by first | (with_reducible assumption) | assumption)
        have q343 : x4_1 < (l0.length : Int) := of_decide_eq_true (by first | (with_reducible assumption) | assumption)
        obtain ⟨ad343, A343_1, c343_1, A343_3, c343_3, A343_4, c343_4, A343_5, c343_5, e343, hx343_0, hx343_1, hx343_2, hx343_3, hx343_4, hx343_5, hl343_1, hi343_1, hl343_3, hi343_3, hl343_4, hi343_4, hl343_5, hi343_5⟩ := at_T27 HR0.out x4_1 p343 q343
        cases e343
        have HR343_1 := Aside0.mk hi343_1
        have HC343_1 := Aside0.mk hl343_1
        clear hi343_1 hl343_1
        have HR343_3 := Aside0.mk hi343_3
        have HC343_3 := Aside0.mk hl343_3
        clear hi343_3 hl343_3
        have HR343_4 := Aside0.mk hi343_4
        have HC343_4 := Aside0.mk hl343_4
        clear hi343_4 hl343_4
        have HR343_5 := Aside0.mk hi343_5
        have HC343_5 := Aside0.mk hl343_5
        clear hi343_5 hl343_5
        replace p343 := eq_true p343
        replace q343 := eq_true q343
        have p344 : 0 ≤ (x4_1 : Int) := of_decide_eq_true (by first | (with_reducible assumption) | assumption)
        have q344 : x4_1 < (l0.length : Int) := of_decide_eq_true (by first | (with_reducible assumption) | assumption)
        obtain ⟨ad344, A344_1, c344_1, A344_3, c344_3, A344_4, c344_4, A344_5, c344_5, e344, hx344_0, hx344_1, hx344_2, hx344_3, hx344_4, hx344_5, hl344_1, hi344_1, hl344_3, hi344_3, hl344_4, hi344_4, hl344_5, hi344_5⟩ := at_T27 HR0.out x4_1 p344 q344
        obtain rfl : ad343 = ad344 := (by injection e344)
        have HR344_1 := Aside0.mk hi344_1
        have HC344_1 := Aside0.mk hl344_1
        clear hi344_1 hl344_1
        have HR344_3 := Aside0.mk hi344_3
        have HC344_3 := Aside0.mk hl344_3
        clear hi344_3 hl344_3
        have HR344_4 := Aside0.mk hi344_4
        have HC344_4 := Aside0.mk hl344_4
        clear hi344_4 hl344_4
        have HR344_5 := Aside0.mk hi344_5
        have HC344_5 := Aside0.mk hl344_5
        clear hi344_5 hl344_5
        replace p344 := eq_true p344
        replace q344 := eq_true q344
        have ea_ := Option.some.inj (hx343_1.symm.trans hx344_1)
        injection ea_ with ea_ en_ ec_
        subst ea_
        subst ec_
        clear en_
        have ea_ := Option.some.inj (hx343_3.symm.trans hx344_3)
        injection ea_ with ea_ en_ ec_
        subst ea_
        subst ec_
        clear en_
        have ea_ := Option.some.inj (hx343_4.symm.trans hx344_4)
        injection ea_ with ea_ en_ ec_
        subst ea_
        subst ec_
        clear en_
        have ea_ := Option.some.inj (hx343_5.symm.trans hx344_5)
        injection ea_ with ea_ en_ ec_
        subst ea_
        subst ec_
        clear en_
        have p345 : 0 ≤ (x4_1 : Int) := of_decide_eq_true (by first | (with_reducible assumption) | assumption)
        have q345 : x4_1 < (l0.length : Int) := of_decide_eq_true (by first | (with_reducible assumption) | assumption)
        obtain ⟨ad345, A345_1, c345_1, A345_3, c345_3, A345_4, c345_4, A345_5, c345_5, e345, hx345_0, hx345_1, hx345_2, hx345_3, hx345_4, hx345_5, hl345_1, hi345_1, hl345_3, hi345_3, hl345_4, hi345_4, hl345_5, hi345_5⟩ := at_T27 HR0.out x4_1 p345 q345
        obtain rfl : ad343 = ad345 := (by injection e345)
        have HR345_1 := Aside0.mk hi345_1
        have HC345_1 := Aside0.mk hl345_1
        clear hi345_1 hl345_1
        have HR345_3 := Aside0.mk hi345_3
        have HC345_3 := Aside0.mk hl345_3
        clear hi345_3 hl345_3
        have HR345_4 := Aside0.mk hi345_4
        have HC345_4 := Aside0.mk hl345_4
        clear hi345_4 hl345_4
        have HR345_5 := Aside0.mk hi345_5
        have HC345_5 := Aside0.mk hl345_5
        clear hi345_5 hl345_5
        replace p345 := eq_true p345
        replace q345 := eq_true q345
        have ea_ := Option.some.inj (hx343_1.symm.trans hx345_1)
        injection ea_ with ea_ en_ ec_
        subst ea_
        subst ec_
        clear en_
        have ea_ := Option.some.inj (hx343_3.symm.trans hx345_3)
        injection ea_ with ea_ en_ ec_
        subst ea_
        subst ec_
        clear en_
        have ea_ := Option.some.inj (hx343_4.symm.trans hx345_4)
        injection ea_ with ea_ en_ ec_
        subst ea_
        subst ec_
        clear en_
        have ea_ := Option.some.inj (hx343_5.symm.trans hx345_5)
        injection ea_ with ea_ en_ ec_
        subst ea_
        subst ec_
        clear en_
        have p346 : 0 ≤ (x4_1 : Int) := of_decide_eq_true (by first | (with_reducible assumption) | assumption)
        have q346 : x4_1 < (l0.length : Int) := of_decide_eq_true (by first | (with_reducible assumption) | assumption)
        obtain ⟨ad346, A346_1, c346_1, A346_3, c346_3, A346_4, c346_4, A346_5, c346_5, e346, hx346_0, hx346_1, hx346_2, hx346_3, hx346_4, hx346_5, hl346_1, hi346_1, hl346_3, hi346_3, hl346_4, hi346_4, hl346_5, hi346_5⟩ := at_T27 HR0.out x4_1 p346 q346
        obtain rfl : ad343 = ad346 := (by injection e346)
        have HR346_1 := Aside0.mk hi346_1
        have HC346_1 := Aside0.mk hl346_1
        clear hi346_1 hl346_1
        have HR346_3 := Aside0.mk hi346_3
        have HC346_3 := Aside0.mk hl346_3
        clear hi346_3 hl346_3
        have HR346_4 := Aside0.mk hi346_4
        have HC346_4 := Aside0.mk hl346_4
        clear hi346_4 hl346_4
        have HR346_5 := Aside0.mk hi346_5
        have HC346_5 := Aside0.mk hl346_5
        clear hi346_5 hl346_5
        replace p346 := eq_true p346
        replace q346 := eq_true q346
        have ea_ := Option.some.inj (hx343_1.symm.trans hx346_1)
        injection ea_ with ea_ en_ ec_
        subst ea_
        subst ec_
        clear en_
        have ea_ := Option.some.inj (hx343_3.symm.trans hx346_3)
        injection ea_ with ea_ en_ ec_
        subst ea_
        subst ec_
        clear en_
        have ea_ := Option.some.inj (hx343_4.symm.trans hx346_4)
        injection ea_ with ea_ en_ ec_
        subst ea_
        subst ec_
        clear en_
        have ea_ := Option.some.inj (hx343_5.symm.trans hx346_5)
        injection ea_ with ea_ en_ ec_
        subst ea_
        subst ec_
        clear en_
        have p347 : 0 ≤ (x4_1 : Int) := of_decide_eq_true (by first | (with_reducible assumption) | assumption)
        have q347 : x4_1 < (l0.length : Int) := of_decide_eq_true (by first | (with_reducible assumption) | assumption)
        obtain ⟨ad347, A347_1, c347_1, A347_3, c347_3, A347_4, c347_4, A347_5, c347_5, e347, hx347_0, hx347_1, hx347_2, hx347_3, hx347_4, hx347_5, hl347_1, hi347_1, hl347_3, hi347_3, hl347_4, hi347_4, hl347_5, hi347_5⟩ := at_T27 HR0.out x4_1 p347 q347
        obtain rfl : ad343 = ad347 := (by injection e347)
        have HR347_1 := Aside0.mk hi347_1
        have HC347_1 := Aside0.mk hl347_1
        clear hi347_1 hl347_1
        have HR347_3 := Aside0.mk hi347_3
        have HC347_3 := Aside0.mk hl347_3
        clear hi347_3 hl347_3
        have HR347_4 := Aside0.mk hi347_4
        have HC347_4 := Aside0.mk hl347_4
        clear hi347_4 hl347_4
        have HR347_5 := Aside0.mk hi347_5
        have HC347_5 := Aside0.mk hl347_5
        clear hi347_5 hl347_5
        replace p347 := eq_true p347
        replace q347 := eq_true q347
        have ea_ := Option.some.inj (hx343_1.symm.trans hx347_1)
        injection ea_ with ea_ en_ ec_
        subst ea_
        subst ec_
        clear en_
        have ea_ := Option.some.inj (hx343_3.symm.trans hx347_3)
        injection ea_ with ea_ en_ ec_
        subst ea_
        subst ec_
        clear en_
        have ea_ := Option.some.inj (hx343_4.symm.trans hx347_4)
        injection ea_ with ea_ en_ ec_
        subst ea_
        subst ec_
        clear en_
        have ea_ := Option.some.inj (hx343_5.symm.trans hx347_5)
        injection ea_ with ea_ en_ ec_
        subst ea_
        subst ec_
        clear en_
        go_wp2
        repeat (go_quiet (fail); try go_wp2)
        go_loopg [3, 5] kj1 (fun kq v3 v5 w' => ∃ (x3_3 : Int) (x5_3 : Int), v3 = .int .i64 x3_3 ∧ v5 = .int .i64 x5_3 ∧ Aside0 (pleatref00_SizeObjects.l1 kq l0 x3_3 x4_1 x5_3 = some r) ∧ Aside0 (kq ≤ kj1) ∧ Drawn0 w w')
        case atStart => exact ⟨(wrap64 ((wrap64 ((wrap64 ((wrap64 ((wrap64 (x3_1 + (((rd_T27 l0 x4_1).f0).size : Int))) + (wrap64 (4 * (((rd_T27 l0 x4_1).f1).length : Int))))) + (wrap64 (8 * (((rd_T27 l0 x4_1).f3).length : Int))))) + (((rd_T27 l0 x4_1).f5).length : Int))) + (((rd_T27 l0 x4_1).f4).length : Int))), (0), (by first | rfl | (simp; done) | (simp [*]; done)), (by first | rfl | (simp; done) | (simp [*]; done)), H', ⟨Nat.le_refl _⟩, by repeat (first | exact Drawn0.refl _ | apply Drawn0.step)⟩
        case round =>
         clear H'
         try clear c1
         try clear p2
         try clear c3
         try clear c3b0
         try clear p3
         try clear q3
         try clear hx3
         try clear c4
         try clear c5
         try clear c5b0
         try clear c6
         try clear c6b0
         try clear p6
         try clear hx343_0
         try clear hx343_1
         try clear hx343_2
         try clear hx343_3
         try clear hx343_4
         try clear hx343_5
         try clear hx344_0
         try clear hx344_1
         try clear hx344_2
         try clear hx344_3
         try clear hx344_4
         try clear hx344_5
         try clear hx345_0
         try clear hx345_1
         try clear hx345_2
         try clear hx345_3
         try clear hx345_4
         try clear hx345_5
         try clear hx346_0
         try clear hx346_1
         try clear hx346_2
         try clear hx346_3
         try clear hx346_4
         try clear hx346_5
         try clear hx347_0
         try clear hx347_1
         try clear hx347_2
         try clear hx347_3
         try clear hx347_4
         try clear hx347_5
         try clear p2
         try clear p343
         try clear p344
         try clear p345
         try clear p346
         try clear p347
         try clear q343
         try clear q344
         try clear q345
         try clear q346
         try clear q347
         obtain ⟨x3_3, x5_3, rfl, rfl, HA, HK3, ⟨m3, rfl⟩⟩ := hrel
         cases gk with
         | zero => exact absurd HA.out (by simp [pleatref00_SizeObjects.l1])
         | succ k3 =>
          have H := HA.out
          clear HA
          simp only [pleatref00_SizeObjects.l1] at H
          by_cases c7 : 0 ≤ x4_1
          ·
           rw [if_pos c7] at H
           have c7b0 : decide (0 ≤ x4_1) = true := decide_eq_true c7
           clear c7
           by_cases c8 : x4_1 < (l0.length : Int)
           ·
            rw [if_pos c8] at H
            have c8b0 : decide (x4_1 < (l0.length : Int)) = true := decide_eq_true c8
            clear c8
            by_cases c9 : x5_3 < (((rd_T27 l0 x4_1).f4).length : Int)
            ·
             rw [if_pos c9] at H
             have c9b0 : decide (x5_3 < (((rd_T27 l0 x4_1).f4).length : Int)) = true := decide_eq_true c9
             clear c9
             by_cases c10 : x3_3 ≤ 2147483647
             ·
              rw [if_pos c10] at H
              have c10b0 : decide (x3_3 ≤ 2147483647) = true := decide_eq_true c10
              clear c10
              by_cases c11 : 0 ≤ x5_3
              ·
               rw [if_pos c11] at H
               have c11b0 : decide (0 ≤ x5_3) = true := decide_eq_true c11
               clear c11
               have H' := Aside0.mk H
               clear H
               have p348 : 0 ≤ (x4_1 : Int) := of_decide_eq_true (by first | (with_reducible assumption) | assumption)
               have q348 : x4_1 < (l0.length : Int) := of_decide_eq_true (by first | (with_reducible assumption) | assumption)
               obtain ⟨ad348, A348_1, c348_1, A348_3, c348_3, A348_4, c348_4, A348_5, c348_5, e348, hx348_0, hx348_1, hx348_2, hx348_3, hx348_4, hx348_5, hl348_1, hi348_1, hl348_3, hi348_3, hl348_4, hi348_4, hl348_5, hi348_5⟩ := at_T27 HR0.out x4_1 p348 q348
               obtain rfl : ad343 = ad348 := (by injection e348)
               have HR348_1 := Aside0.mk hi348_1
               have HC348_1 := Aside0.mk hl348_1
               clear hi348_1 hl348_1
               have HR348_3 := Aside0.mk hi348_3
               have HC348_3 := Aside0.mk hl348_3
               clear hi348_3 hl348_3
               have HR348_4 := Aside0.mk hi348_4
               have HC348_4 := Aside0.mk hl348_4
               clear hi348_4 hl348_4
               have HR348_5 := Aside0.mk hi348_5
               have HC348_5 := Aside0.mk hl348_5
               clear hi348_5 hl348_5
               replace p348 := eq_true p348
               replace q348 := eq_true q348
               have p349 : 0 ≤ (x4_1 : Int) := of_decide_eq_true (by first | (with_reducible assumption) | assumption)
               have q349 : x4_1 < (l0.length : Int) := of_decide_eq_true (by first | (with_reducible assumption) | assumption)
               obtain ⟨ad349, A349_1, c349_1, A349_3, c349_3, A349_4, c349_4, A349_5, c349_5, e349, hx349_0, hx349_1, hx349_2, hx349_3, hx349_4, hx349_5, hl349_1, hi349_1, hl349_3, hi349_3, hl349_4, hi349_4, hl349_5, hi349_5⟩ := at_T27 HR0.out x4_1 p349 q349
               obtain rfl : ad343 = ad349 := (by injection e349)
               have HR349_1 := Aside0.mk hi349_1
               have HC349_1 := Aside0.mk hl349_1
               clear hi349_1 hl349_1
               have HR349_3 := Aside0.mk hi349_3
               have HC349_3 := Aside0.mk hl349_3
               clear hi349_3 hl349_3
               have HR349_4 := Aside0.mk hi349_4
               have HC349_4 := Aside0.mk hl349_4
               clear hi349_4 hl349_4
               have HR349_5 := Aside0.mk hi349_5
               have HC349_5 := Aside0.mk hl349_5
               clear hi349_5 hl349_5
               replace p349 := eq_true p349
               replace q349 := eq_true q349
               have ea_ := Option.some.inj (hx348_1.symm.trans hx349_1)
               injection ea_ with ea_ en_ ec_
               subst ea_
               subst ec_
               clear en_
               have ea_ := Option.some.inj (hx348_3.symm.trans hx349_3)
               injection ea_ with ea_ en_ ec_
               subst ea_
               subst ec_
               clear en_
               have ea_ := Option.some.inj (hx348_4.symm.trans hx349_4)
               injection ea_ with ea_ en_ ec_
               subst ea_
               subst ec_
               clear en_
               have ea_ := Option.some.inj (hx348_5.symm.trans hx349_5)
               injection ea_ with ea_ en_ ec_
               subst ea_
               subst ec_
               clear en_
               have p350 : 0 ≤ (x5_3 : Int) := of_decide_eq_true (by first | (with_reducible assumption) | assumption)
               have q350 : x5_3 < (((rd_T27 l0 x4_1).f4).length : Int) := of_decide_eq_true (by first | (with_reducible assumption) | assumption)
               obtain ⟨ad350, e350, hx350_0, hx350_1, hx350_2⟩ := at_T37 HR349_4.out x5_3 p350 q350
               cases e350
               replace p350 := eq_true p350
               replace q350 := eq_true q350
               go_wp2
               repeat (go_quiet (fail); try go_wp2)
               go_roundg k3
               case measure => have := HK1.out; have := HJ1.out; have := HK3.out; omega
               case rel => exact ⟨(wrap64 (x3_3 + (((rd_T37 ((rd_T27 l0 x4_1).f4) x5_3).f0).size : Int))), (wrap64 (x5_3 + 1)), (by first | rfl | (simp; done) | (simp [*]; done)), (by first | rfl | (simp; done) | (simp [*]; done)), H', ⟨by have := HK1.out; have := HJ1.out; have := HK3.out; omega⟩, by repeat (first | exact Drawn0.refl _ | apply Drawn0.step)⟩
              ·
               rw [if_neg c11] at H
               exact absurd H (by simp)
             ·
              rw [if_neg c10] at H
              have c10b0 : decide (x3_3 ≤ 2147483647) = false := decide_eq_false c10
              clear c10
              have H' := Aside0.mk H
              clear H
              have p348 : 0 ≤ (x4_1 : Int) := of_decide_eq_true (by first | (with_reducible assumption) | assumption)
              have q348 : x4_1 < (l0.length : Int) := of_decide_eq_true (by first | (with_reducible assumption) | assumption)
              obtain ⟨ad348, A348_1, c348_1, A348_3, c348_3, A348_4, c348_4, A348_5, c348_5, e348, hx348_0, hx348_1, hx348_2, hx348_3, hx348_4, hx348_5, hl348_1, hi348_1, hl348_3, hi348_3, hl348_4, hi348_4, hl348_5, hi348_5⟩ := at_T27 HR0.out x4_1 p348 q348
              obtain rfl : ad343 = ad348 := (by injection e348)
              have HR348_1 := Aside0.mk hi348_1
              have HC348_1 := Aside0.mk hl348_1
              clear hi348_1 hl348_1
              have HR348_3 := Aside0.mk hi348_3
              have HC348_3 := Aside0.mk hl348_3
              clear hi348_3 hl348_3
              have HR348_4 := Aside0.mk hi348_4
              have HC348_4 := Aside0.mk hl348_4
              clear hi348_4 hl348_4
              have HR348_5 := Aside0.mk hi348_5
              have HC348_5 := Aside0.mk hl348_5
              clear hi348_5 hl348_5
              replace p348 := eq_true p348
              replace q348 := eq_true q348
              go_wp2
              repeat (go_quiet (fail); try go_wp2)
              go_roundg k3
              case measure => have := HK1.out; have := HJ1.out; have := HK3.out; omega
              case rel => exact ⟨(x3_3), (wrap64 (x4_1 + 1)), (by first | rfl | (simp; done) | (simp [*]; done)), (by first | rfl | (simp; done) | (simp [*]; done)), H', ⟨by have := HK1.out; have := HJ1.out; have := HK3.out; omega⟩, by repeat (first | exact Drawn0.refl _ | apply Drawn0.step)⟩
            ·
             rw [if_neg c9] at H
             have c9b0 : decide (x5_3 < (((rd_T27 l0 x4_1).f4).length : Int)) = false := decide_eq_false c9
             clear c9
             have H' := Aside0.mk H
             clear H
             have p348 : 0 ≤ (x4_1 : Int) := of_decide_eq_true (by first | (with_reducible assumption) | assumption)
             have q348 : x4_1 < (l0.length : Int) := of_decide_eq_true (by first | (with_reducible assumption) | assumption)
             obtain ⟨ad348, A348_1, c348_1, A348_3, c348_3, A348_4, c348_4, A348_5, c348_5, e348, hx348_0, hx348_1, hx348_2, hx348_3, hx348_4, hx348_5, hl348_1, hi348_1, hl348_3, hi348_3, hl348_4, hi348_4, hl348_5, hi348_5⟩ := at_T27 HR0.out x4_1 p348 q348
             obtain rfl : ad343 = ad348 := (by injection e348)
             have HR348_1 := Aside0.mk hi348_1
             have HC348_1 := Aside0.mk hl348_1
             clear hi348_1 hl348_1
             have HR348_3 := Aside0.mk hi348_3
             have HC348_3 := Aside0.mk hl348_3
             clear hi348_3 hl348_3
             have HR348_4 := Aside0.mk hi348_4
             have HC348_4 := Aside0.mk hl348_4
             clear hi348_4 hl348_4
             have HR348_5 := Aside0.mk hi348_5
             have HC348_5 := Aside0.mk hl348_5
             clear hi348_5 hl348_5
             replace p348 := eq_true p348
             replace q348 := eq_true q348
             go_wp2
             repeat (go_quiet (fail); try go_wp2)
             go_roundg k3
             case measure => have := HK1.out; have := HJ1.out; have := HK3.out; omega
             case rel => exact ⟨(x3_3), (wrap64 (x4_1 + 1)), (by first | rfl | (simp; done) | (simp [*]; done)), (by first | rfl | (simp; done) | (simp [*]; done)), H', ⟨by have := HK1.out; have := HJ1.out; have := HK3.out; omega⟩, by repeat (first | exact Drawn0.refl _ | apply Drawn0.step)⟩
           ·
            rw [if_neg c8] at H
            exact absurd H (by simp)
          ·
           rw [if_neg c7] at H
           exact absurd H (by simp)
       ·
        rw [if_neg c6] at H
        exact absurd H (by simp)
      ·
       rw [if_neg c5] at H
       exact absurd H (by simp)
     ·
      replace c4 := Bool.eq_false_iff.mpr c4
      subst c4
      have H1 : (some x3_1) = some r := by rw [if_neg (show ¬ (false = true) by decide)] at H; exact H
      clear H
      have H := H1
      clear H1
      obtain rfl := Option.some.inj H
      go_wp2
      repeat (go_quiet (fail); try go_wp2)
      go_ret
      exact ⟨by first | rfl | (simp; done) | (simp [*]; done), by repeat (first | exact Drawn0.refl _ | apply Drawn0.step)⟩


/-! ### pleatlaw08_heavy: function 13 -/
def pleatlaw08_heavy.f (k : Nat) (l0 : List (S27)) : Option (Bool) := if (l0.length : Int) > 64 then (some true) else ((pleatref00_SizeObjects.f k l0).bind fun t351 => ((pleatref00_Long.f t351).bind fun t352 => (if t352 = true then (some true) else ((pleatref00_SizeObjects.f k l0).bind fun t353 => (some (decide (t353 > 524288)))))))
theorem pleatlaw08_heavy.mono : ∀ a0 k, LeO (pleatlaw08_heavy.f k a0) (pleatlaw08_heavy.f (k + 1) a0) := by
 intro a0 k
 unfold pleatlaw08_heavy.f
 repeat' first
   | (with_reducible exact pleatref00_SizeObjects.mono _ _)
   | (with_reducible exact LeO.refl _)
   | (with_reducible exact LeO.none _)
   | (with_reducible refine LeO.ite ?_ ?_)
   | (with_reducible refine LeO.bind ?_ (fun _ => ?_))
   | exact pleatref00_SizeObjects.mono _ _
   | exact LeO.none _
   | refine LeO.ite ?_ ?_
   | refine LeO.bind ?_ (fun _ => ?_)
set_option maxHeartbeats 8000000 in
set_option maxRecDepth 100000 in
theorem pleatlaw08_heavy.calls (k : Nat) (A0 : Option Addr) (c0 : Nat) (l0 : List (S27)) (r : Bool) (w : World) (hr0 : Kd.C k27 w A0 l0.length l0) (hc0 : l0.length ≤ c0) (h : pleatlaw08_heavy.f k l0 = some r) :
  Calls Try.prog 13 #[.slice A0 l0.length c0] w fun e w' => e = .returned (.bool r) ∧ Drawn0 w w' := by
 have HR0 := Aside0.mk hr0
 have HC0 := Aside0.mk hc0
 clear hr0 hc0
 have H : (if (l0.length : Int) > 64 then (some true) else ((pleatref00_SizeObjects.f k l0).bind fun t351 => ((pleatref00_Long.f t351).bind fun t352 => (if t352 = true then (some true) else ((pleatref00_SizeObjects.f k l0).bind fun t353 => (some (decide (t353 > 524288)))))))) = some r := h
 clear h
 by_cases c2 : (l0.length : Int) > 64
 ·
  rw [if_pos c2] at H
  have c2b0 : decide (64 < (l0.length : Int)) = true := decide_eq_true c2
  have c2b1 : decide (64 < l0.length) = true := decide_eq_true (by omega)
  clear c2
  obtain rfl := Option.some.inj H
  go_enter Try.func13, Try.ntmps13
  go_wp2
  go_ret
  exact ⟨by first | rfl | (simp; done) | (simp [*]; done), by repeat (first | exact Drawn0.refl _ | apply Drawn0.step)⟩
 ·
  rw [if_neg c2] at H
  have c2b0 : decide (64 < (l0.length : Int)) = false := decide_eq_false c2
  have c2b1 : decide (64 < l0.length) = false := decide_eq_false (by omega)
  clear c2
  replace H := Option.bind_eq_some_iff.mp H
  obtain ⟨t351, A30, H⟩ := H
  try dsimp only at H
  have A3 := Aside0.mk A30
  clear A30
  replace H := Option.bind_eq_some_iff.mp H
  obtain ⟨t352, A40, H⟩ := H
  try dsimp only at H
  have A4 := Aside0.mk A40
  clear A40
  by_cases c5 : t352 = true
  ·
   subst c5
   have H1 : (some true) = some r := by rw [if_pos rfl] at H; exact H
   clear H
   have H := H1
   clear H1
   obtain rfl := Option.some.inj H
   go_enter Try.func13, Try.ntmps13
   go_wp2_with (first | (go_at_call 36; (with_reducible refine (pleatref00_SizeObjects.calls k _ _ l0 t351 _ ?side1 ?side2 A3.out).mono ?_); (case side1 => repeat (first | exact HR0.out | (with_reducible refine Kd.C_alloc ?_ _) | (with_reducible refine Kd.C_drewN ?_ _) | (with_reducible refine Kd.C_drew ?_))); (case side2 => exact HC0.out); rintro e w' ⟨rfl, ⟨nd, rfl⟩⟩) | (go_at_call 35; (with_reducible refine (pleatref00_Long.calls t351 true _ A4.out).mono ?_); rintro e w' ⟨rfl, ⟨nd, rfl⟩⟩))
   go_ret
   exact ⟨by first | rfl | (simp; done) | (simp [*]; done), by repeat (first | exact Drawn0.refl _ | apply Drawn0.step)⟩
  ·
   replace c5 := Bool.eq_false_iff.mpr c5
   subst c5
   have H1 : ((pleatref00_SizeObjects.f k l0).bind fun t353 => (some (decide (t353 > 524288)))) = some r := by rw [if_neg (show ¬ (false = true) by decide)] at H; exact H
   clear H
   have H := H1
   clear H1
   replace H := Option.bind_eq_some_iff.mp H
   obtain ⟨t353, A60, H⟩ := H
   try dsimp only at H
   have A6 := Aside0.mk A60
   clear A60
   obtain rfl := Option.some.inj H
   go_enter Try.func13, Try.ntmps13
   go_wp2_with (first | (go_at_call 36; (with_reducible refine (pleatref00_SizeObjects.calls k _ _ l0 t351 _ ?side1 ?side2 A3.out).mono ?_); (case side1 => repeat (first | exact HR0.out | (with_reducible refine Kd.C_alloc ?_ _) | (with_reducible refine Kd.C_drewN ?_ _) | (with_reducible refine Kd.C_drew ?_))); (case side2 => exact HC0.out); rintro e w' ⟨rfl, ⟨nd, rfl⟩⟩) | (go_at_call 35; (with_reducible refine (pleatref00_Long.calls t351 false _ A4.out).mono ?_); rintro e w' ⟨rfl, ⟨nd, rfl⟩⟩) | (go_at_call 36; (with_reducible refine (pleatref00_SizeObjects.calls k _ _ l0 t353 _ ?side1 ?side2 A6.out).mono ?_); (case side1 => repeat (first | exact HR0.out | (with_reducible refine Kd.C_alloc ?_ _) | (with_reducible refine Kd.C_drewN ?_ _) | (with_reducible refine Kd.C_drew ?_))); (case side2 => exact HC0.out); rintro e w' ⟨rfl, ⟨nd, rfl⟩⟩))
   have hq_ : t353 = t351 := Option.some.inj (A6.out.symm.trans A3.out)
   go_ret
   exact ⟨by first | rfl | (simp; done) | (simp [*]; done), by repeat (first | exact Drawn0.refl _ | apply Drawn0.step)⟩
end Go.Proofs.Ytiaohbbafaaibab.P

/- What the Go functions named below come to, as plain functions, each with its proof; written by this session's prt.py over the kit's print. -/
namespace Go.Proofs.Ytiaohbbafaaibab.P
open Go.RowKit Go.Proofs.YtiaohbbafaaibabW.PrintWords Go.Proofs.YtiaohbbafaaibabW.PrintLast Go.Proofs.YtiaohbbafaaibabW.PrintMore
attribute [local go_sem] max2_int min2_int max_two min_two max_three min_three max_four min_four   -- for this text's walks alone
set_option linter.unusedVariables false
set_option linter.unusedSimpArgs false

theorem eqA54 (d : Nat) (w : World) (x0 y0 : Int) (x1 y1 : Int) :
    (Op.equalIn (d + 2) 54 (.agg #[.int .i64 x0, .int .i64 x1]) (.agg #[.int .i64 y0, .int .i64 y1])).run Try.prog w = .ok (x0 == y0 && (x1 == y1)) w := by
  refine eqA_of Try.underlying54 (by kernel_rfl) ?_
  refine eqf_cons (by rfl) (by go_simp; rfl) (by go_simp; rfl) (by go_simp) ?_
  exact eqf_last (by rfl) (by go_simp; rfl) (by go_simp; rfl) (by go_simp)
end Go.Proofs.Ytiaohbbafaaibab.P

/- OWN TEXT: symbol.Resolve, walked: the objects' own checks and names, the names gathered, each symbol bound. -/
namespace Go.Proofs.Ytiaohbbafaaibab.P
open Go.RowKit Go.Maps Go.Proofs.YtiaohbbafaaibabW.PrintWords Go.Proofs.YtiaohbbafaaibabW.PrintLast Go.Proofs.YtiaohbbafaaibabW.PrintMore Go.Proofs.Ytiaohbbafaaibab.Arr Go.Proofs.Ytiaohbbafaaibab.MapB Go.Proofs.Ytiaohbbafaaibab.SymM
set_option linter.unusedVariables false
set_option linter.unusedSimpArgs false
theorem chk_named {nm : ByteArray} {code : List Int} {dat : Int} {data : List Int} {syms : List Sym} {rels : List Rel} {n : Int} (h : object_Check.f nm code dat data syms rels = some (0, n)) : nameS nm = true := by
  unfold object_Check.f at h
  split at h
  · have h := Option.some.inj h
    unfold chkO at h
    cases hn : nameS nm with
    | true => rfl
    | false =>
      have : sizeS nm code dat data syms.length rels.length = (20, -1) := by unfold sizeS; rw [hn, if_neg (by decide)]
      rw [this, if_neg (by decide)] at h
      injection h with h
      exact absurd h (by decide)
  · cases h
theorem results_tmp4 {fn : Func} {t u v x : Tmp} (h : fn.results = #[.tmp t, .tmp u, .tmp v, .tmp x]) (tmps : Array Value) (P : Program) (w : World) :
    (results fn tmps).run P w = .ok (.tuple #[tmps.getD t undef, tmps.getD u undef, tmps.getD v undef, tmps.getD x undef]) w := by
  simp [results, h]
theorem info_def : (Try.prog.info? 54).map (fun i => (i.zero, i.size, i.bytes)) = some (some (.agg #[.int .i64 0, .int .i64 0]), 2, 16) := by kernel_rfl
theorem info_row : (Try.prog.info? 61).map (fun i => (i.zero, i.size, i.bytes)) = some (some (.slice none 0 0), 1, 24) := by kernel_rfl
set_option maxHeartbeats 8000000 in
set_option maxRecDepth 100000 in
theorem symRes.calls (A0 : Option Addr) (c0 : Nat) (l0 : List ObjT) (w : World) (d : List (List DefT)) (r2 r3 r4 : Int) (hr0 : Kd.C k27 w A0 l0.length l0) (hsy : ∀ i, i < l0.length → (ob l0 i).f4.length ≤ 1000000000) (h : resolveR l0 = some (d, r2, r3, r4)) :
    Calls Try.prog 16 #[.slice A0 l0.length c0] w fun e w' => ∃ v0_ : Value, e = .returned (.tuple #[v0_, .int .i64 r2, .int .i64 r3, .int .i64 r4]) ∧ RowsIs w' w.heap.size (fun _ => True) v0_ d ∧ Below w.heap.size w w' := by
  have hu1 := Try.underlying37
  have hu2 := Try.underlying27
  have hu3 := Try.underlying54
  have hu4 := Try.underlying80
  have HR := Aside0.mk hr0
  have HSY := Aside0.mk hsy
  clear hr0 hsy
  unfold resolveR at h
  by_cases c : (l0.length : Int) > 32
  · rw [if_pos c] at h
    simp only [Option.some.injEq, Prod.mk.injEq] at h
    obtain ⟨rfl, rfl, rfl, rfl⟩ := h
    have cb : decide ((l0.length : Int) > 32) = true := decide_eq_true c
    clear c
    go_enter Try.func16, Try.ntmps16
    go_wp2_with (first | ((with_reducible refine gate_dst (N := 1) rfl ?_); refine box_event ?hg (N := 1) ?hd (cs := #[.slice A0 l0.length c0]) (t := 44) ?hr ?_; (case hd => rfl); (case hg => rfl); (case hr => first | (go_simp; done) | (go_simp; rfl)); intro gl hgl w1 BK1 hb1; have BL := Aside0.mk BK1; have hcl : w1.cell? ⟨gl, 0, none⟩ = some (.slice A0 l0.length c0) := (blk_cell BK1 0).trans rfl; have GL := Aside0.mk (show w.heap.size ≤ gl by rw [hgl]; exact Nat.le_refl _); have HB := Aside0.mk hb1; clear BK1 hb1 hgl))
    go_step3
    go_wp2
    (try rw [Exit.noGoto_ret])
    (try simp only [Exit.inBlock, Exit.then])
    refine bodyPost_ret (results_tmp4 rfl _ _ _) rfl ?_
    exact ⟨_, rfl, Kd.S_nil _ _ _ _ _, HB.out⟩
  · rw [if_neg c] at h
    have HN := Aside0.mk (show chkR l0 l0.length ≠ none from fun e => by rw [e] at h; cases h)
    have HH := Aside0.mk h
    have H32 := Aside0.mk (show l0.length ≤ 32 by omega)
    have cb : decide ((l0.length : Int) > 32) = false := decide_eq_false c
    clear c h
    go_enter Try.func16, Try.ntmps16
    go_wp2_with (first | ((with_reducible refine gate_dst (N := 1) rfl ?_); refine box_event ?hg (N := 1) ?hd (cs := #[.slice A0 l0.length c0]) (t := 44) ?hr ?_; (case hd => rfl); (case hg => rfl); (case hr => first | (go_simp; done) | (go_simp; rfl)); intro gl hgl w1 BK1 hb1; have BL := Aside0.mk BK1; have hcl : w1.cell? ⟨gl, 0, none⟩ = some (.slice A0 l0.length c0) := (blk_cell BK1 0).trans rfl; have GL := Aside0.mk (show w.heap.size ≤ gl by rw [hgl]; exact Nat.le_refl _); have HB := Aside0.mk hb1; clear BK1 hb1 hgl))
    go_step3
    go_wp2_with (first | ((with_reducible refine gate_dst (N := 22) rfl ?_); refine wpList_make_map (P := Try.prog) (k := 9) (e := 4) (t := 79) ?hg (N := 22) ?hd ?ho ?hr ?_; (case hd => rfl); (case hg => rfl); (case ho => rfl); (case hr => first | (go_simp; done) | (go_simp; rfl)); intro b hgb w2 hs0 hb; have HO := Aside0.mk (show R1 w w2 gl b 0 (lCell A0 l0.length c0) (fun _ => false) from ⟨below_then HB.out HB.out.size hb, blk_below BL.out hb, hs0, by rw [hgb]; exact Nat.ne_of_lt (blk_lt BL.out), GL.out, by rw [hgb]; exact HB.out.size⟩); clear HB BL GL hcl hs0 hb hgb; have hcl : w2.cell? ⟨gl, 0, none⟩ = some (.slice A0 l0.length c0) := (blk_cell HO.out.hl 0).trans rfl))
    go_loopw [3, 25] (fun u3 u25 wr => u3 = .int .i64 0 ∧ ∃ i : Nat, u25 = .int .i64 (i : Int) ∧ i ≤ l0.length ∧ Aside0 (chkR l0 i = some none) ∧ Aside0 (R1 w wr gl b i (lCell A0 l0.length c0) (objSeen l0 i))) (fun u3 u25 _ => l0.length - (intOf u25).toNat)
    case atStart => exact ⟨rfl, 0, rfl, Nat.zero_le _, ⟨rfl⟩, HO⟩
    case round =>
      clear HO hcl
      obtain ⟨rfl, i, rfl, hile, HF, HO⟩ := hrel
      by_cases hlt : i < l0.length
      · obtain ⟨e, n, hck, hways⟩ := chkR_round l0 i hlt HF.out HN.out
        have p0 : (0 : Int) ≤ (i : Int) := by omega
        have q0 : (i : Int) < (l0.length : Int) := by omega
        obtain ⟨ad, A1, c1, A3, c3, A4, c4, A5, c5, eA, hx0, hx1, hx2, hx3, hx4, hx5, hL1, hC1, hL3, hC3, hL4, hC4, hL5, hC5⟩ := at_T27 HR.out (i : Int) p0 q0
        subst eA
        rw [show ((i : Int)).toNat = i by omega] at hx0 hx1 hx2 hx3 hx4 hx5
        rw [show rd_T27 l0 (i : Int) = ob l0 i from rfl] at hx0 hx1 hx2 hx3 hx4 hx5 hL1 hC1 hL3 hC3 hL4 hC4 hL5 hC5
        have hy0 := pw_cell_below HO.out.low hx0
        have hy1 := pw_cell_below HO.out.low hx1
        have hy2 := pw_cell_below HO.out.low hx2
        have hy3 := pw_cell_below HO.out.low hx3
        have hy4 := pw_cell_below HO.out.low hx4
        have hy5 := pw_cell_below HO.out.low hx5
        clear hx0 hx1 hx2 hx3 hx4 hx5
        have hos : objSeen l0 (i + 1) = addS (objSeen l0 i) (keyN (ob l0 i).f0) := rfl
        obtain ⟨x, hx⟩ : ∃ x, ob l0 i = x := ⟨_, rfl⟩
        rw [hx] at hy0 hy1 hy2 hy3 hy4 hy5 hL1 hC1 hL3 hC3 hL4 hC4 hL5 hC5 hck hways hos
        obtain ⟨x0, x1, x2, x3, x4, x5⟩ := x
        simp only at hy0 hy1 hy2 hy3 hy4 hy5 hL1 hC1 hL3 hC3 hL4 hC4 hL5 hC5 hck hways hos
        clear hx
        have HOS := Aside0.mk hos
        have HCK := Aside0.mk hck
        have C1 := Aside0.mk (And.intro hL1 hC1)
        have C3 := Aside0.mk (And.intro hL3 hC3)
        have C4 := Aside0.mk (And.intro hL4 hC4)
        have C5 := Aside0.mk (And.intro hL5 hC5)
        clear hos hck hL1 hC1 hL3 hC3 hL4 hC4 hL5 hC5
        have HLT := Aside0.mk hlt
        have hltb : decide ((i : Int) < (l0.length : Int)) = true := decide_eq_true (by omega)
        have HWR := Aside0.mk (show wrap64 ((i : Int) + 1) = ((i + 1 : Nat) : Int) by rw [wrap64_id (by have := H32.out; omega) (by have := H32.out; omega)]; rfl)
        replace p0 := eq_true p0
        replace q0 := eq_true q0
        rcases hways with ⟨he, hfin⟩ | ⟨he, hm, hfin⟩ | ⟨he, hm, hnext⟩
        · have cne : (e != 0) = true := bne_iff_ne.mpr he
          clear he
          have h := HH.out
          rw [hfin] at h
          simp only [Option.some.injEq, Prod.mk.injEq] at h
          obtain ⟨rfl, rfl, rfl, rfl⟩ := h
          clear hfin
          clear HH
          go_wp2_with (first | ((with_reducible refine gate_dst (N := 8) rfl ?_); refine box_event ?hg (N := 8) ?hd (cs := #[.string (⟨#[]⟩ : ByteArray), .slice none 0 0, .int .i64 0, .slice none 0 0, .slice none 0 0, .slice none 0 0]) (t := 27) ?hr ?_; (case hd => rfl); (case hg => rfl); (case hr => first | (go_simp; done) | (go_simp; rfl)); intro go hgo w3 BK3 hb3; have BO := Aside0.mk BK3; have GO := Aside0.mk (show w.heap.size ≤ go by rw [hgo]; exact HO.out.low.size); have NO := Aside0.mk (show gl < go ∧ b < go by rw [hgo]; exact ⟨blk_lt HO.out.hl, HO.out.seen.lt⟩); have HOn := Aside0.mk (HO.out.below hb3); clear HO BK3 hb3 hgo; have HO := HOn; clear HOn) | ((with_reducible refine gate_store (t := 27) rfl ?_); refine wpList_store_whole rfl rfl rfl go _ #[.string x0, .slice A1 x1.length c1, .int .i64 x2, .slice A3 x3.length c3, .slice A4 x4.length c4, .slice A5 x5.length c5] _ rfl rfl BO.out (by kernel_rfl) rfl (obj_oneS _ _ _ _ _ _ _ _ _ _ _ _ _ _) ?_; intro w4 hp; have HOn := Aside0.mk (HO.out.put hp GO.out (by have := NO.out; omega) (by have := NO.out; omega)); have BOn := Aside0.mk hp.blk; clear HO BO hp; have HO := HOn; have BO := BOn; clear HOn BOn; have ho0 := blk_cell BO.out 0; have ho1 := blk_cell BO.out 1; have ho2 := blk_cell BO.out 2; have ho3 := blk_cell BO.out 3; have ho4 := blk_cell BO.out 4; have ho5 := blk_cell BO.out 5) | (go_at_call 8; refine (object_Check.calls x0 A1 c1 x1 x2 A3 c3 x3 A4 c4 x4 A5 c5 x5 e n _ (Kd.C_below C1.out.2 HO.out.low) C1.out.1 (Kd.C_below C3.out.2 HO.out.low) C3.out.1 (Kd.C_below C4.out.2 HO.out.low) C4.out.1 (Kd.C_below C5.out.2 HO.out.low) C5.out.1 HCK.out).mono ?_; rintro e_ w7 ⟨rfl, hb⟩; have HOn := Aside0.mk (HO.out.below hb); have BOn := Aside0.mk (blk_below BO.out hb); clear HO BO hb ho0 ho1 ho2 ho3 ho4 ho5; have HO := HOn; have BO := BOn; clear HOn BOn; have ho0 := blk_cell BO.out 0; have ho1 := blk_cell BO.out 1; have ho2 := blk_cell BO.out 2; have ho3 := blk_cell BO.out 3; have ho4 := blk_cell BO.out 4; have ho5 := blk_cell BO.out 5))
          (try rw [Exit.noGoto_ret])
          (try simp only [Exit.inBlock, Exit.then])
          refine bodyPost_ret (results_tmp4 rfl _ _ _) rfl ?_
          exact ⟨_, rfl, Kd.S_nil _ _ _ _ _, HO.out.low⟩
        · subst he
          have HM := Aside0.mk hm
          clear hm
          have h := HH.out
          rw [hfin] at h
          simp only [Option.some.injEq, Prod.mk.injEq] at h
          obtain ⟨rfl, rfl, rfl, rfl⟩ := h
          clear hfin
          clear HH
          have HKY := Aside0.mk (show keyOf Try.prog 9 (.string x0) = some (keyN x0) from Go.WideMaps.keyOf_string_mk Try.underlying9 (by have := nameS_len (chk_named HCK.out); unfold maxLen; omega))
          go_wp2_with (first | ((with_reducible refine gate_dst (N := 8) rfl ?_); refine box_event ?hg (N := 8) ?hd (cs := #[.string (⟨#[]⟩ : ByteArray), .slice none 0 0, .int .i64 0, .slice none 0 0, .slice none 0 0, .slice none 0 0]) (t := 27) ?hr ?_; (case hd => rfl); (case hg => rfl); (case hr => first | (go_simp; done) | (go_simp; rfl)); intro go hgo w3 BK3 hb3; have BO := Aside0.mk BK3; have GO := Aside0.mk (show w.heap.size ≤ go by rw [hgo]; exact HO.out.low.size); have NO := Aside0.mk (show gl < go ∧ b < go by rw [hgo]; exact ⟨blk_lt HO.out.hl, HO.out.seen.lt⟩); have HOn := Aside0.mk (HO.out.below hb3); clear HO BK3 hb3 hgo; have HO := HOn; clear HOn) | ((with_reducible refine gate_store (t := 27) rfl ?_); refine wpList_store_whole rfl rfl rfl go _ #[.string x0, .slice A1 x1.length c1, .int .i64 x2, .slice A3 x3.length c3, .slice A4 x4.length c4, .slice A5 x5.length c5] _ rfl rfl BO.out (by kernel_rfl) rfl (obj_oneS _ _ _ _ _ _ _ _ _ _ _ _ _ _) ?_; intro w4 hp; have HOn := Aside0.mk (HO.out.put hp GO.out (by have := NO.out; omega) (by have := NO.out; omega)); have BOn := Aside0.mk hp.blk; clear HO BO hp; have HO := HOn; have BO := BOn; clear HOn BOn; have ho0 := blk_cell BO.out 0; have ho1 := blk_cell BO.out 1; have ho2 := blk_cell BO.out 2; have ho3 := blk_cell BO.out 3; have ho4 := blk_cell BO.out 4; have ho5 := blk_cell BO.out 5) | (go_at_call 8; refine (object_Check.calls x0 A1 c1 x1 x2 A3 c3 x3 A4 c4 x4 A5 c5 x5 0 n _ (Kd.C_below C1.out.2 HO.out.low) C1.out.1 (Kd.C_below C3.out.2 HO.out.low) C3.out.1 (Kd.C_below C4.out.2 HO.out.low) C4.out.1 (Kd.C_below C5.out.2 HO.out.low) C5.out.1 HCK.out).mono ?_; rintro e_ w7 ⟨rfl, hb⟩; have HOn := Aside0.mk (HO.out.below hb); have BOn := Aside0.mk (blk_below BO.out hb); clear HO BO hb ho0 ho1 ho2 ho3 ho4 ho5; have HO := HOn; have BO := BOn; clear HOn BOn; have ho0 := blk_cell BO.out 0; have ho1 := blk_cell BO.out 1; have ho2 := blk_cell BO.out 2; have ho3 := blk_cell BO.out 3; have ho4 := blk_cell BO.out 4; have ho5 := blk_cell BO.out 5) | (at_lookup; refine wpList_lookup_seen rfl _ _ 79 rfl 9 4 lawN Try.underlying79 Try.underlying4 (zeroBN _) b _ _ rfl HO.out.seen _ _ rfl HKY.out trivial ?_; rw [HM.out]))
          (try rw [Exit.noGoto_ret])
          (try simp only [Exit.inBlock, Exit.then])
          refine bodyPost_ret (results_tmp4 rfl _ _ _) rfl ?_
          exact ⟨_, rfl, Kd.S_nil _ _ _ _ _, HO.out.low⟩
        · subst he
          have HM := Aside0.mk hm
          have HNX := Aside0.mk hnext
          clear hm hnext
          have HKY := Aside0.mk (show keyOf Try.prog 9 (.string x0) = some (keyN x0) from Go.WideMaps.keyOf_string_mk Try.underlying9 (by have := nameS_len (chk_named HCK.out); unfold maxLen; omega))
          go_wp2_with (first | ((with_reducible refine gate_dst (N := 8) rfl ?_); refine box_event ?hg (N := 8) ?hd (cs := #[.string (⟨#[]⟩ : ByteArray), .slice none 0 0, .int .i64 0, .slice none 0 0, .slice none 0 0, .slice none 0 0]) (t := 27) ?hr ?_; (case hd => rfl); (case hg => rfl); (case hr => first | (go_simp; done) | (go_simp; rfl)); intro go hgo w3 BK3 hb3; have BO := Aside0.mk BK3; have GO := Aside0.mk (show w.heap.size ≤ go by rw [hgo]; exact HO.out.low.size); have NO := Aside0.mk (show gl < go ∧ b < go by rw [hgo]; exact ⟨blk_lt HO.out.hl, HO.out.seen.lt⟩); have HOn := Aside0.mk (HO.out.below hb3); clear HO BK3 hb3 hgo; have HO := HOn; clear HOn) | ((with_reducible refine gate_store (t := 27) rfl ?_); refine wpList_store_whole rfl rfl rfl go _ #[.string x0, .slice A1 x1.length c1, .int .i64 x2, .slice A3 x3.length c3, .slice A4 x4.length c4, .slice A5 x5.length c5] _ rfl rfl BO.out (by kernel_rfl) rfl (obj_oneS _ _ _ _ _ _ _ _ _ _ _ _ _ _) ?_; intro w4 hp; have HOn := Aside0.mk (HO.out.put hp GO.out (by have := NO.out; omega) (by have := NO.out; omega)); have BOn := Aside0.mk hp.blk; clear HO BO hp; have HO := HOn; have BO := BOn; clear HOn BOn; have ho0 := blk_cell BO.out 0; have ho1 := blk_cell BO.out 1; have ho2 := blk_cell BO.out 2; have ho3 := blk_cell BO.out 3; have ho4 := blk_cell BO.out 4; have ho5 := blk_cell BO.out 5) | (go_at_call 8; refine (object_Check.calls x0 A1 c1 x1 x2 A3 c3 x3 A4 c4 x4 A5 c5 x5 0 n _ (Kd.C_below C1.out.2 HO.out.low) C1.out.1 (Kd.C_below C3.out.2 HO.out.low) C3.out.1 (Kd.C_below C4.out.2 HO.out.low) C4.out.1 (Kd.C_below C5.out.2 HO.out.low) C5.out.1 HCK.out).mono ?_; rintro e_ w7 ⟨rfl, hb⟩; have HOn := Aside0.mk (HO.out.below hb); have BOn := Aside0.mk (blk_below BO.out hb); clear HO BO hb ho0 ho1 ho2 ho3 ho4 ho5; have HO := HOn; have BO := BOn; clear HOn BOn; have ho0 := blk_cell BO.out 0; have ho1 := blk_cell BO.out 1; have ho2 := blk_cell BO.out 2; have ho3 := blk_cell BO.out 3; have ho4 := blk_cell BO.out 4; have ho5 := blk_cell BO.out 5) | (at_lookup; refine wpList_lookup_seen rfl _ _ 79 rfl 9 4 lawN Try.underlying79 Try.underlying4 (zeroBN _) b _ _ rfl HO.out.seen _ _ rfl HKY.out trivial ?_; rw [HM.out]) | (at_mapUpdate; refine wpList_update_seen rfl _ _ _ 79 rfl 9 4 lawN Try.underlying79 Try.underlying4 b _ _ rfl HO.out.seen (by have := H32.out; have := HLT.out; unfold maxLen; omega) _ _ rfl rfl HKY.out trivial ?_; intro w8 hs8 hg8; have HOn := Aside0.mk (HO.out.add hg8 hs8); clear HO hs8 hg8; have HO := HOn; clear HOn))
          go_roundw
          case measure => have hq := HLT.out; (try rw [HWR.out]); simp only [intOf]; omega
          case rel => exact ⟨rfl, i + 1, by first | rfl | (rw [HWR.out]; done), by have := HLT.out; omega, HNX, ⟨by rw [HOS.out]; exact HO.out⟩⟩
      · have hi0 : i = l0.length := by omega
        subst hi0
        have h := HH.out
        rw [HF.out] at h
        simp only at h
        clear HH
        have HH := Aside0.mk h
        clear h HF HN hlt hile
        have hltb : decide ((l0.length : Int) < (l0.length : Int)) = false := by simp
        have hcl : wr.cell? ⟨gl, 0, none⟩ = some (.slice A0 l0.length c0) := (blk_cell HO.out.hl 0).trans rfl
        obtain ⟨at_, hat_⟩ : ∃ at_, aObj l0 l0.length = at_ := ⟨_, rfl⟩
        have h := HH.out
        rw [hat_] at h
        clear HH
        have HAT := Aside0.mk hat_
        clear hat_
        obtain ⟨a0, a1⟩ := at_
        simp only at h
        by_cases ca : 0 ≤ a0
        · have cab : decide (a0 ≥ 0) = true := decide_eq_true ca
          rw [if_pos ca] at h
          simp only [Option.some.injEq, Prod.mk.injEq] at h
          obtain ⟨rfl, rfl, rfl, rfl⟩ := h
          clear ca
          go_wp2_with (first | ((with_reducible refine gate_dst (N := 11) rfl ?_); refine box_event ?hg (N := 11) ?hd (cs := #[.int .i64 0, .int .i64 0]) (t := 80) ?hr ?_; (case hd => rfl); (case hg => rfl); (case hr => first | (go_simp; done) | (go_simp; rfl)); intro ga hga w9 BK9 hb9; have BA := Aside0.mk BK9; have GA := Aside0.mk (show w.heap.size ≤ ga by rw [hga]; exact HO.out.low.size); have NA := Aside0.mk (show gl < ga ∧ b < ga by rw [hga]; exact ⟨blk_lt HO.out.hl, HO.out.seen.lt⟩); have HOn := Aside0.mk (HO.out.below hb9); clear HO BK9 hb9 hga hcl; have HO := HOn; clear HOn; have hcl : w9.cell? ⟨gl, 0, none⟩ = some (.slice A0 l0.length c0) := (blk_cell HO.out.hl 0).trans rfl) | ((with_reducible refine gate_store (t := 80) rfl ?_); refine wpList_store_whole rfl rfl rfl ga _ #[.int .i64 (-1), .int .i64 (-1)] _ rfl rfl BA.out (by kernel_rfl) rfl (at_one _ _) ?_; intro w10 hp; have HOn := Aside0.mk (HO.out.put hp GA.out (by have := NA.out; omega) (by have := NA.out; omega)); have BAn := Aside0.mk (show w10.heap[ga]? = some (atCell (-1) (-1)) from hp.blk); clear HO BA hp hcl; have HO := HOn; have BA := BAn; clear HOn BAn; have hcl : w10.cell? ⟨gl, 0, none⟩ = some (.slice A0 l0.length c0) := (blk_cell HO.out.hl 0).trans rfl) | (go_at_call 40; refine (gatherB.calls w ga gl A0 c0 l0 _ HR.out HO.out.low BA.out HO.out.hl GA.out (by have := NA.out; omega) (by have := H32.out; omega) HSY.out).mono ?_; rintro e_ w11 ⟨bm, rfl, hgb⟩; rw [HAT.out] at hgb; have HG := Aside0.mk hgb; clear HO BA hgb hcl; have hcl : w11.cell? ⟨gl, 0, none⟩ = some (.slice A0 l0.length c0) := (blk_cell HG.out.hl 0).trans rfl; have hat0 := blk_cell HG.out.hat 0; have hat1 := blk_cell HG.out.hat 1))
          repeat (go_quiet (fail); try go_wp2)
          (try rw [Exit.noGoto_ret])
          (try simp only [Exit.inBlock, Exit.then])
          refine bodyPost_ret (results_tmp4 rfl _ _ _) rfl ?_
          exact ⟨_, rfl, Kd.S_nil _ _ _ _ _, pw_below_drewN HG.out.low _⟩
        · have cab : decide (a0 ≥ 0) = false := decide_eq_false ca
          rw [if_neg ca] at h
          have HH := Aside0.mk h
          have HCA := Aside0.mk ca
          clear h ca
          go_wp2_with (first | ((with_reducible refine gate_dst (N := 11) rfl ?_); refine box_event ?hg (N := 11) ?hd (cs := #[.int .i64 0, .int .i64 0]) (t := 80) ?hr ?_; (case hd => rfl); (case hg => rfl); (case hr => first | (go_simp; done) | (go_simp; rfl)); intro ga hga w9 BK9 hb9; have BA := Aside0.mk BK9; have GA := Aside0.mk (show w.heap.size ≤ ga by rw [hga]; exact HO.out.low.size); have NA := Aside0.mk (show gl < ga ∧ b < ga by rw [hga]; exact ⟨blk_lt HO.out.hl, HO.out.seen.lt⟩); have HOn := Aside0.mk (HO.out.below hb9); clear HO BK9 hb9 hga hcl; have HO := HOn; clear HOn; have hcl : w9.cell? ⟨gl, 0, none⟩ = some (.slice A0 l0.length c0) := (blk_cell HO.out.hl 0).trans rfl) | ((with_reducible refine gate_store (t := 80) rfl ?_); refine wpList_store_whole rfl rfl rfl ga _ #[.int .i64 (-1), .int .i64 (-1)] _ rfl rfl BA.out (by kernel_rfl) rfl (at_one _ _) ?_; intro w10 hp; have HOn := Aside0.mk (HO.out.put hp GA.out (by have := NA.out; omega) (by have := NA.out; omega)); have BAn := Aside0.mk (show w10.heap[ga]? = some (atCell (-1) (-1)) from hp.blk); clear HO BA hp hcl; have HO := HOn; have BA := BAn; clear HOn BAn; have hcl : w10.cell? ⟨gl, 0, none⟩ = some (.slice A0 l0.length c0) := (blk_cell HO.out.hl 0).trans rfl) | (go_at_call 40; refine (gatherB.calls w ga gl A0 c0 l0 _ HR.out HO.out.low BA.out HO.out.hl GA.out (by have := NA.out; omega) (by have := H32.out; omega) HSY.out).mono ?_; rintro e_ w11 ⟨bm, rfl, hgb⟩; rw [HAT.out] at hgb; have HG := Aside0.mk hgb; clear HO BA hgb hcl; have hcl : w11.cell? ⟨gl, 0, none⟩ = some (.slice A0 l0.length c0) := (blk_cell HG.out.hl 0).trans rfl; have hat0 := blk_cell HG.out.hat 0; have hat1 := blk_cell HG.out.hat 1) | ((with_reducible refine gate_dst (N := 62) rfl ?_); refine Kd.S_make (Kd.slice 54 k54) _ 61 rfl (N := 62) rfl 47 _ _ rfl (l0.length : Int) rfl rfl Try.underlying47 (.slice none 0 0) 24 info_row rfl (by decide) (by omega) [] (ok := fun _ => True) (okp := fun _ => True) (Kd.M_row (Kd.R_nil _ _ _ _ _)) (fun _ hk => hk) trivial (by omega) (by have := H32.out; omega) (Below.refl _ _) (Nat.le_refl _) ?_; intro v1 w12 ho6 hb hg_ hnew_; clear hg_; rw [show ((l0.length : Int)).toNat = l0.length by omega] at ho6; obtain ⟨A2, c2, ev⟩ := Kd.S_slice ho6; obtain ⟨gd, hgd, _⟩ := hnew_; subst ev; obtain ⟨g2, rfl⟩ : ∃ g2, A2 = some g2 := (by cases A2 with | none => (simp [Value.ownBlock] at hgd) | some g2 => exact ⟨g2, rfl⟩); obtain ⟨g3, rfl⟩ := Kd.R_head (Kd.S_R ho6); rw [List.length_replicate] at ho6; have H2 := Aside0.mk (show R2 w w12 ga gl bm (a0, a1) (lCell A0 l0.length c0) (gObj l0 l0.length) (fun _ => True) (.slice (some ⟨g3, 0, none⟩) l0.length c2) (List.replicate l0.length []) from ⟨below_then HG.out.low HG.out.low.size hb, HG.out.nm.below hb, blk_below HG.out.hat hb, blk_below HG.out.hl hb, Kd.S_lower ho6 HG.out.low.size, HG.out.oa⟩); clear HG hb ho6 hgd hcl hat0 hat1; have hcl : w12.cell? ⟨gl, 0, none⟩ = some (.slice A0 l0.length c0) := (blk_cell H2.out.hl 0).trans rfl))
          go_step3
          go_wp2
          obtain ⟨L, hL⟩ : ∃ L, gObj l0 l0.length = L := ⟨_, rfl⟩
          have h2 := H2.out
          have h := HH.out
          rw [hL] at h2 h
          clear H2 HH
          have H2 := Aside0.mk h2
          have HH := Aside0.mk h
          clear h2 h hL cb hltb
          go_loopw [3, 65] (fun u3 u65 wr => u3 = .int .i64 0 ∧ ∃ i : Nat, u65 = .int .i64 (i : Int) ∧ i ≤ l0.length ∧ Aside0 ((rowsX L l0 i).2 = none) ∧ Aside0 (R2 w wr ga gl bm (a0, a1) (lCell A0 l0.length c0) L (fun _ => True) (.slice (some ⟨g3, 0, none⟩) l0.length c2) ((rowsX L l0 i).1 ++ List.replicate (l0.length - i) []))) (fun u3 u65 _ => l0.length - (intOf u65).toNat)
          case atStart => exact ⟨rfl, 0, rfl, Nat.zero_le _, ⟨rfl⟩, H2⟩
          case round =>
            clear H2 hcl
            obtain ⟨rfl, i, rfl, hile, HF, H2⟩ := hrel
            by_cases hlt : i < l0.length
            · have hsl := HSY.out i hlt
              have p0 : (0 : Int) ≤ (i : Int) := by omega
              have q0 : (i : Int) < (l0.length : Int) := by omega
              obtain ⟨ad, A1, c1, A3, c3, A4, c4, A5, c5, eA, hx0, hx1, hx2, hx3, hx4, hx5, hL1, hC1, hL3, hC3, hL4, hC4, hL5, hC5⟩ := at_T27 HR.out (i : Int) p0 q0
              subst eA
              rw [show ((i : Int)).toNat = i by omega] at hx0 hx1 hx2 hx3 hx4 hx5
              rw [show rd_T27 l0 (i : Int) = ob l0 i from rfl] at hx0 hx1 hx2 hx3 hx4 hx5 hL1 hC1 hL3 hC3 hL4 hC4 hL5 hC5
              have hy0 := pw_cell_below H2.out.low hx0
              have hy1 := pw_cell_below H2.out.low hx1
              have hy2 := pw_cell_below H2.out.low hx2
              have hy3 := pw_cell_below H2.out.low hx3
              have hy4 := pw_cell_below H2.out.low hx4
              have hy5 := pw_cell_below H2.out.low hx5
              clear hx0 hx1 hx2 hx3 hx4 hx5
              have h2 := H2.out
              rw [rep_step _ _ _ hlt] at h2
              clear H2
              have H2 := Aside0.mk h2
              clear h2
              have HST := Aside0.mk (fun (h : (rowX L (ob l0 i).f4 (i : Int) (ob l0 i).f4.length).2 = none) => rowsX_step HF.out h)
              have HSP := Aside0.mk (fun (j : Nat) (h2 : (rowX L (ob l0 i).f4 (i : Int) j).2 = none) (h3 : symX L (i : Int) (sy (ob l0 i).f4 j) = none) (hj : j < (ob l0 i).f4.length) => rowsX_stop HF.out h2 h3 hlt hj)
              have HRL := Aside0.mk (rowsX_length L l0 i HF.out)
              obtain ⟨x, hx⟩ : ∃ x, ob l0 i = x := ⟨_, rfl⟩
              rw [hx] at hy0 hy1 hy2 hy3 hy4 hy5 hC4 hsl HST HSP
              clear hL1 hC1 hL3 hC3 hL4 hL5 hC5 hx
              obtain ⟨x0, x1, x2, x3, x4, x5⟩ := x
              simp only at hy0 hy1 hy2 hy3 hy4 hy5 hC4 hsl HST HSP
              have HSL := Aside0.mk hsl
              have HC4 := Aside0.mk hC4
              clear hsl hC4
              have HLT := Aside0.mk hlt
              have hltb : decide ((i : Int) < (l0.length : Int)) = true := decide_eq_true (by omega)
              have HWR := Aside0.mk (show wrap64 ((i : Int) + 1) = ((i + 1 : Nat) : Int) by rw [wrap64_id (by have := H32.out; omega) (by have := H32.out; omega)]; rfl)
              replace p0 := eq_true p0
              replace q0 := eq_true q0
              go_wp2_with (first | ((with_reducible refine gate_dst (N := 14) rfl ?_); refine box_event ?hg (N := 14) ?hd (cs := #[.string (⟨#[]⟩ : ByteArray), .slice none 0 0, .int .i64 0, .slice none 0 0, .slice none 0 0, .slice none 0 0]) (t := 27) ?hr ?_; (case hd => rfl); (case hg => rfl); (case hr => first | (go_simp; done) | (go_simp; rfl)); intro go hgo w13 BK3 hb3; have BO := Aside0.mk BK3; have GO := Aside0.mk (show w.heap.size ≤ go by rw [hgo]; exact H2.out.low.size); have NO := Aside0.mk (show ga < go ∧ gl < go ∧ bm < go by rw [hgo]; exact ⟨blk_lt H2.out.hat, blk_lt H2.out.hl, H2.out.nm.lt⟩); have H2n := Aside0.mk (H2.out.box hb3 (show _ ≤ go by rw [hgo]; exact Nat.le_refl _)); clear H2 BK3 hb3 hgo; have H2 := H2n; clear H2n) | ((with_reducible refine gate_store (t := 27) rfl ?_); refine wpList_store_whole rfl rfl rfl go _ #[.string x0, .slice A1 x1.length c1, .int .i64 x2, .slice A3 x3.length c3, .slice A4 x4.length c4, .slice A5 x5.length c5] _ rfl rfl BO.out (by kernel_rfl) rfl (obj_oneS _ _ _ _ _ _ _ _ _ _ _ _ _ _) ?_; intro w14 hp; have H2n := Aside0.mk (H2.out.put hp GO.out (by have := NO.out; omega) (by have := NO.out; omega) (by have := NO.out; omega) (fun k hk => hk.2)); have BOn := Aside0.mk hp.blk; clear H2 BO hp; have H2 := H2n; have BO := BOn; clear H2n BOn; have ho0 := blk_cell BO.out 0; have ho4 := blk_cell BO.out 4))
              have h2 := H2.out.mono (ok' := fun _ => True) (fun _ _ => trivial)
              clear H2
              have H2 := Aside0.mk h2
              clear h2
              go_loopw [3, 73] (fun u3 u73 wr => u3 = .int .i64 0 ∧ ∃ j : Nat, u73 = .int .i64 (j : Int) ∧ j ≤ x4.length ∧ Aside0 ((rowX L x4 (i : Int) j).2 = none) ∧ Aside0 (R2 w wr ga gl bm (a0, a1) (lCell (some ad) l0.length c0) L (fun _ => True) (.slice (some ⟨g3, 0, none⟩) l0.length c2) ((rowsX L l0 i).1 ++ (rowX L x4 (i : Int) j).1 :: List.replicate (l0.length - (i + 1)) []))) (fun u3 u73 _ => x4.length - (intOf u73).toNat)
              case atStart => exact ⟨rfl, 0, rfl, Nat.zero_le _, ⟨rfl⟩, H2⟩
              case round =>
                clear H2 ho0 ho4 BO GO NO hy0 hy1 hy2 hy3 hy4 hy5
                obtain ⟨rfl, j, rfl, hjle, HFR, H2⟩ := hrel
                by_cases hlt2 : j < x4.length
                · have p1 : (0 : Int) ≤ (j : Int) := by omega
                  have q1 : (j : Int) < (x4.length : Int) := by omega
                  obtain ⟨as_, eS, hz0, hz1, hz2⟩ := at_T37 HC4.out (j : Int) p1 q1
                  subst eS
                  rw [show ((j : Int)).toNat = j by omega] at hz0 hz1 hz2
                  rw [show rd_T37 x4 (j : Int) = sy x4 j from rfl] at hz0 hz1 hz2
                  have hw0 := pw_cell_below H2.out.low hz0
                  have hw1 := pw_cell_below H2.out.low hz1
                  have hw2 := pw_cell_below H2.out.low hz2
                  clear hz0 hz1 hz2
                  have HXS := Aside0.mk (fun (x : DefT) (hx : symX L (i : Int) (sy x4 j) = some x) => rowX_step HFR.out hx)
                  have HXP := Aside0.mk (fun (hx : symX L (i : Int) (sy x4 j) = none) => HSP.out j HFR.out hx hlt2)
                  have HRN := Aside0.mk (rowX_length L x4 (i : Int) j HFR.out)
                  obtain ⟨sv, hsv⟩ : ∃ sv, sy x4 j = sv := ⟨_, rfl⟩
                  rw [hsv] at hw0 hw1 hw2 HXS HXP
                  clear hsv
                  obtain ⟨sn, sk, sa⟩ := sv
                  simp only at hw0 hw1 hw2
                  obtain ⟨fr, hfr⟩ : ∃ fr, findR L sn = fr := ⟨_, rfl⟩
                  obtain ⟨f0, f1, f2⟩ := fr
                  have HFD := Aside0.mk hfr
                  clear hfr
                  have hltb2 : decide ((j : Int) < (x4.length : Int)) = true := decide_eq_true (by omega)
                  have HWR2 := Aside0.mk (show wrap64 ((j : Int) + 1) = ((j + 1 : Nat) : Int) by rw [wrap64_id (by have := HSL.out; omega) (by have := HSL.out; omega)]; rfl)
                  replace p1 := eq_true p1
                  replace q1 := eq_true q1
                  have HL2 := Aside0.mk hlt2
                  obtain ⟨RW, hrw⟩ : ∃ RW, (rowX L x4 (i : Int) j).1 = RW := ⟨_, rfl⟩
                  obtain ⟨RS, hrs⟩ : ∃ RS, (rowsX L l0 i).1 = RS := ⟨_, rfl⟩
                  have h2 := H2.out
                  have hrn := HRN.out
                  have hrl := HRL.out
                  rw [hrw] at h2 hrn HXS
                  rw [hrs] at h2 hrl
                  have HRS := Aside0.mk hrs
                  clear H2 HRN hrs hrw
                  have H2 := Aside0.mk h2
                  have HRN := Aside0.mk hrn
                  have HRL2 := Aside0.mk hrl
                  clear h2 hrn hrl
                  by_cases ck : sk = 0
                  · subst ck
                    have HXE := Aside0.mk (HXS.out ⟨(i : Int), sa⟩ (by unfold symX; rw [if_pos rfl]))
                    clear HXS HXP
                    go_wp2_with (first | ((with_reducible refine gate_dst (N := 16) rfl ?_); refine box_event ?hg (N := 16) ?hd (cs := #[.string (⟨#[]⟩ : ByteArray), .int .i8 0, .int .i64 0]) (t := 37) ?hr ?_; (case hd => rfl); (case hg => rfl); (case hr => first | (go_simp; done) | (go_simp; rfl)); intro gs hgs w15 BK4 hb4; have BS := Aside0.mk BK4; have GS := Aside0.mk (show w.heap.size ≤ gs by rw [hgs]; exact H2.out.low.size); have NS := Aside0.mk (show ga < gs ∧ gl < gs ∧ bm < gs by rw [hgs]; exact ⟨blk_lt H2.out.hat, blk_lt H2.out.hl, H2.out.nm.lt⟩); have H2n := Aside0.mk (H2.out.box hb4 (show _ ≤ gs by rw [hgs]; exact Nat.le_refl _)); clear H2 BK4 hb4 hgs; have H2 := H2n; clear H2n) | ((with_reducible refine gate_store (t := 37) rfl ?_); refine wpList_store_whole rfl rfl rfl gs _ #[.string sn, .int .i8 0, .int .i64 sa] _ rfl rfl BS.out (by kernel_rfl) rfl (sym_one _ _ _) ?_; intro w16 hp; have H2n := Aside0.mk (H2.out.put hp GS.out (by have := NS.out; omega) (by have := NS.out; omega) (by have := NS.out; omega) (fun k hk => hk.2)); have BSn := Aside0.mk hp.blk; clear H2 BS hp; have H2 := H2n; have BS := BSn; clear H2n BSn; have hs0 := blk_cell BS.out 0; have hs1 := blk_cell BS.out 1; have hs2 := blk_cell BS.out 2) | (go_at_call 42; refine (find.calls sn _ bm L H2.out.nm).mono ?_; rw [HFD.out]; rintro e_ w17 ⟨rfl, hb5⟩; have H2n := Aside0.mk (H2.out.below hb5); have BSn := Aside0.mk (blk_below BS.out hb5); clear H2 BS hb5 hs0 hs1 hs2; have H2 := H2n; have BS := BSn; clear H2n BSn; have hs0 := blk_cell BS.out 0; have hs1 := blk_cell BS.out 1; have hs2 := blk_cell BS.out 2) | ((with_reducible refine gate_dst (N := 17) rfl ?_); refine box_event ?hg (N := 17) ?hd (cs := #[.int .i64 0, .int .i64 0]) (t := 54) ?hr ?_; (case hd => rfl); (case hg => rfl); (case hr => first | (go_simp; done) | (go_simp; rfl)); intro gx hgx w18 BK6 hb6; have BX := Aside0.mk BK6; have GX := Aside0.mk (show w.heap.size ≤ gx by rw [hgx]; exact H2.out.low.size); have NX := Aside0.mk (show ga < gx ∧ gl < gx ∧ bm < gx ∧ gs < gx by rw [hgx]; exact ⟨blk_lt H2.out.hat, blk_lt H2.out.hl, H2.out.nm.lt, blk_lt BS.out⟩); have H2n := Aside0.mk (H2.out.box hb6 (show _ ≤ gx by rw [hgx]; exact Nat.le_refl _)); have BSn := Aside0.mk (blk_below BS.out hb6); clear H2 BS BK6 hb6 hgx hs0 hs1 hs2; have H2 := H2n; have BS := BSn; clear H2n BSn; have hs0 := blk_cell BS.out 0; have hs1 := blk_cell BS.out 1; have hs2 := blk_cell BS.out 2) | ((with_reducible refine gate_store (t := 54) rfl ?_); refine wpList_store_whole rfl rfl rfl gx _ #[.int .i64 f0, .int .i64 f1] _ rfl rfl BX.out (by kernel_rfl) rfl (def_one _ _) ?_; intro w20 hp; have H2n := Aside0.mk (H2.out.put hp GX.out (by have := NX.out; omega) (by have := NX.out; omega) (by have := NX.out; omega) (fun k hk => hk.2)); have BSn := Aside0.mk (blk_grown BS.out (put_grownN hp) (fun e => by have := NX.out; have := Option.some.inj e; omega)); have BXn := Aside0.mk hp.blk; clear H2 BS BX hp; (try clear hs0 hs1 hs2); (try clear hk0 hk1); have H2 := H2n; have BS := BSn; have BX := BXn; clear H2n BSn BXn; have hs0 := blk_cell BS.out 0; have hs1 := blk_cell BS.out 1; have hs2 := blk_cell BS.out 2; have hk0 := blk_cell BX.out 0; have hk1 := blk_cell BX.out 1) | ((with_reducible refine gate_store (t := 54) rfl ?_); refine wpList_store_whole rfl rfl rfl gx _ #[.int .i64 (i : Int), .int .i64 sa] _ rfl rfl BX.out (by kernel_rfl) rfl (def_one _ _) ?_; intro w21 hp; have H2n := Aside0.mk (H2.out.put hp GX.out (by have := NX.out; omega) (by have := NX.out; omega) (by have := NX.out; omega) (fun k hk => hk.2)); have BSn := Aside0.mk (blk_grown BS.out (put_grownN hp) (fun e => by have := NX.out; have := Option.some.inj e; omega)); have BXn := Aside0.mk hp.blk; clear H2 BS BX hp; (try clear hs0 hs1 hs2); (try clear hk0 hk1); have H2 := H2n; have BS := BSn; have BX := BXn; clear H2n BSn BXn; have hs0 := blk_cell BS.out 0; have hs1 := blk_cell BS.out 1; have hs2 := blk_cell BS.out 2; have hk0 := blk_cell BX.out 0; have hk1 := blk_cell BX.out 1))
                    have h2 := H2.out.below (below_drew (Below.refl _ _))
                    have bs := blk_below BS.out (below_drew (Below.refl _ _))
                    have bx := blk_below BX.out (below_drew (Below.refl _ _))
                    have bsl := blk_lt bs
                    have bxl := blk_lt bx
                    have hgm := (set_mid RS RW (RW ++ [(⟨(i : Int), sa⟩ : DefT)]) [] (List.replicate (l0.length - (i + 1)) []) i HRL2.out)
                    obtain ⟨vi, okA, hci, hgd, hrow, hfr, hoka, hback⟩ := h2.row (i := i) HLT.out (fun k hk => ⟨⟨trivial, by omega⟩, by omega⟩) (⟨(i : Int), sa⟩ : DefT)
                    rw [hgm.2] at hrow hback
                    rw [hgm.1] at hback
                    have HBK := Aside0.mk hback
                    have HROW := Aside0.mk hrow
                    have HFRS := Aside0.mk hfr
                    have HOKA := Aside0.mk hoka
                    have HLOW := Aside0.mk h2.low
                    have BX2 := Aside0.mk bx
                    have hcx0 := blk_cell BX2.out 0
                    have hcx1 := blk_cell BX2.out 1
                    obtain ⟨Av, cv, ev⟩ := Kd.R_slice HROW.out
                    subst ev
                    clear hback hrow hfr hoka h2 bs bx bsl bxl hgm hs0 hs1 hs2 hk0 hk1 BS BX H2 hw0 hw1 hw2
                    refine start_ (n := 11) (S := fun w' => w'.cell? ⟨g3, i, none⟩ = some (.slice Av RW.length cv) ∧ w'.cell? ⟨gx, 0, none⟩ = some (.int .i64 (i : Int)) ∧ w'.cell? ⟨gx, 1, none⟩ = some (.int .i64 sa)) (ds := [10]) #[false, false, false, false, false, false, false, false, false, false, false] (by kernel_rfl) rfl rfl ⟨hci, hcx0, hcx1⟩ (fun hHeld => ?_)
                    generalize w21.drew = wd at HBK HROW HFRS HLOW BX2 hci hgd hcx0 hcx1 hHeld ⊢
                    refine pure_ (i := 0) (N := some 99) (v := ?_) (a' := ?_) #[true, false, false, false, false, false, false, false, false, false, false] rfl rfl (by kernel_rfl) (fun _ _ _ h => h) (Or.inl ⟨by rfl, ?_⟩) ?_ ?_
                    rotate_left
                    ·
                      intro w'
                      go_simp
                      with_reducible rfl
                    rotate_left
                    ·
                      simp only [Act.put, List.setIfInBounds_toArray, List.set_cons_zero, List.set_cons_succ, i64_w, i32_w]
                      rfl
                    refine pure_ (i := 1) (N := some 100) (v := ?_) (a' := ?_) #[true, true, false, false, false, false, false, false, false, false, false] rfl rfl (by kernel_rfl) (fun _ _ _ h => h) (Or.inl ⟨by rfl, ?_⟩) ?_ ?_
                    rotate_left
                    ·
                      intro w'
                      go_simp
                      with_reducible rfl
                    rotate_left
                    ·
                      simp only [Act.put, List.setIfInBounds_toArray, List.set_cons_zero, List.set_cons_succ, i64_w, i32_w]
                      rfl
                    refine pure_ (i := 2) (N := some 101) (v := ?_) (a' := ?_) #[true, true, true, false, false, false, false, false, false, false, false] rfl rfl (by kernel_rfl) (fun _ _ _ h => h) (Or.inl ⟨by rfl, ?_⟩) ?_ ?_
                    rotate_left
                    ·
                      intro w'
                      go_simp
                      with_reducible rfl
                    rotate_left
                    ·
                      simp only [Act.put, List.setIfInBounds_toArray, List.set_cons_zero, List.set_cons_succ, i64_w, i32_w]
                      rfl
                    refine pure_ (i := 3) (N := some 102) (v := ?_) (a' := ?_) #[true, true, true, true, false, false, false, false, false, false, false] rfl rfl (by kernel_rfl) (fun _ _ _ h => h) (Or.inl ⟨by rfl, ?_⟩) ?_ ?_
                    rotate_left
                    ·
                      intro w'
                      go_simp
                      with_reducible rfl
                    rotate_left
                    ·
                      simp only [Act.put, List.setIfInBounds_toArray, List.set_cons_zero, List.set_cons_succ, i64_w, i32_w]
                      rfl
                    refine pure_ (i := 4) (N := some 103) (v := ?_) (a' := ?_) #[true, true, true, true, true, false, false, false, false, false, false] rfl rfl (by kernel_rfl) (fun _ _ _ h => h) (Or.inl ⟨by rfl, ?_⟩) ?_ ?_
                    rotate_left
                    ·
                      intro w'
                      go_simp
                      with_reducible rfl
                    rotate_left
                    ·
                      simp only [Act.put, List.setIfInBounds_toArray, List.set_cons_zero, List.set_cons_succ, i64_w, i32_w]
                      rfl
                    refine take_ (i := 5) (N := some 104) (v := ?_) (a' := ?_) #[true, true, true, true, true, true, false, false, false, false, false] rfl rfl (by kernel_rfl) (fun _ _ _ h => h) (Or.inl ⟨by rfl, ?_⟩) hHeld ?_ ?_
                    rotate_left
                    ·
                      rintro w' ⟨s0, s1, s2⟩
                      go_simp
                      with_reducible rfl
                    rotate_left
                    ·
                      simp only [Act.put, List.setIfInBounds_toArray, List.set_cons_zero, List.set_cons_succ, i64_w, i32_w]
                      rfl
                    refine take_ (i := 6) (N := some 105) (v := ?_) (a' := ?_) #[true, true, true, true, true, true, true, false, false, false, false] rfl rfl (by kernel_rfl) (fun _ _ _ h => h) (Or.inl ⟨by rfl, ?_⟩) hHeld ?_ ?_
                    rotate_left
                    ·
                      rintro w' ⟨s0, s1, s2⟩
                      go_simp
                      with_reducible rfl
                    rotate_left
                    ·
                      simp only [Act.put, List.setIfInBounds_toArray, List.set_cons_zero, List.set_cons_succ, i64_w, i32_w]
                      rfl
                    refine one_ (i := 7) (N := some 106) #[true, true, true, true, true, true, true, true, false, false, false] rfl rfl (by kernel_rfl) (by decide) (fun K hK => ?_)
                    refine value_ (w1 := ?_) (v := ?_) (by rfl) rfl ?_ ?_
                    rotate_left 2
                    ·
                      go_simp
                      constructor
                      ·
                        rfl
                      ·
                        rfl
                    refine hK.out _ _ ⟨(World.cell?_alloc_lt _ _ _ (World.block_lt_of_cell? _ _ hci)).trans hci, (World.cell?_alloc_lt _ _ _ (World.block_lt_of_cell? _ _ hcx0)).trans hcx0, (World.cell?_alloc_lt _ _ _ (World.block_lt_of_cell? _ _ hcx1)).trans hcx1⟩ (fun hHeld => ?_)
                    clear hK K
                    refine norm_ (a' := ?_) ?_ ?_
                    rotate_left
                    ·
                      show Act.put _ (some 106) _ = _
                      simp only [Act.put, List.setIfInBounds_toArray, List.set_cons_zero, List.set_cons_succ, i64_w, i32_w]
                      rfl
                    refine one_ (i := 8) (N := some 107) #[true, true, true, true, true, true, true, true, true, false, false] rfl rfl (by kernel_rfl) (by decide) (fun K hK => ?_)
                    refine Kd.R_append_step k54 (w0 := w) w.heap.size (by rfl) (.tmp 104) (.tmp 106) 61 54 (.agg #[.int .i64 0, .int .i64 0]) 16 rfl Try.underlying61 info_def rfl (by decide) (by omega) (.slice Av RW.length cv) RW (⟨(i : Int), sa⟩ : DefT) [.int .i64 (i : Int), .int .i64 sa] okA (fun _ => False) rfl rfl ?aP (fun _ hk => hk.elim) ?aF ?aO ?aB ?aS ?aL ?_
                    (case aP => exact k54_mkM _ _ _ (⟨(i : Int), sa⟩ : DefT))
                    (case aB => exact HLOW.out)
                    (case aF => exact HFRS.out)
                    (case aO => exact HROW.out)
                    (case aS => exact HLOW.out.size)
                    (case aL => have := HRN.out; have := HL2.out; have := HSL.out; omega)
                    intro v19 w19 ho19 hb19 hg19 hat19
                    obtain ⟨hc19, hf19, hr19⟩ := HBK.out v19 w19 ho19 hb19 hg19
                    have hne : some gx ≠ (Value.slice Av RW.length cv).ownBlock := fun e => (HOKA.out gx (HROW.out.1 gx e.symm)).2 rfl
                    have bx19 := blk_grown BX2.out hg19 hne
                    have HR19 := Aside0.mk hr19
                    obtain ⟨Ao, co, eo⟩ := Kd.R_slice ho19
                    subst eo
                    refine hK.out _ _ ⟨hc19, blk_cell bx19 0, blk_cell bx19 1⟩ (fun hHeld => ?_)
                    clear hr19 hci hcx0 hcx1
                    clear hK K
                    refine norm_ (a' := ?_) ?_ ?_
                    rotate_left
                    ·
                      show Act.put _ (some 107) _ = _
                      simp only [Act.put, List.setIfInBounds_toArray, List.set_cons_zero, List.set_cons_succ, i64_w, i32_w]
                      rfl
                    refine pure_ (i := 9) (N := some 108) (v := ?_) (a' := ?_) #[true, true, true, true, true, true, true, true, true, true, false] rfl rfl (by kernel_rfl) (fun _ _ _ h => h) (Or.inl ⟨by rfl, ?_⟩) ?_ ?_
                    rotate_left
                    ·
                      intro w'
                      go_simp
                      with_reducible rfl
                    rotate_left
                    ·
                      simp only [Act.put, List.setIfInBounds_toArray, List.set_cons_zero, List.set_cons_succ, i64_w, i32_w]
                      rfl
                    refine last_ (i := 10) (N := none) #[true, true, true, true, true, true, true, true, true, true, true] rfl rfl (by kernel_rfl) (by decide) (fun K hK => ?_)
                    refine skip_ (w1 := ?_) (by rfl) rfl ?_ ?_
                    rotate_left
                    ·
                      go_simp
                      rfl
                    refine hK.out _ _ ?_
                    clear hK K
                    refine done_ (by kernel_rfl) ?_
                    have h2 := HR19.out.mono (ok' := fun _ => True) (fun _ _ => trivial)
                    rw [show (RW ++ [(⟨(i : Int), sa⟩ : DefT)]).length = RW.length + 1 from (by rw [List.length_append]; rfl)] at h2
                    clear HR19 ho19 hb19 hg19 hat19 hHeld hne bx19
                    have H2 := Aside0.mk h2
                    clear h2 hc19 hf19
                    go_wp2
                    go_roundw
                    case measure => have hq := HL2.out; (try rw [HWR2.out]); simp only [intOf]; omega
                    case rel => exact ⟨rfl, j + 1, by first | rfl | (rw [HWR2.out]; done), by have := HL2.out; omega, ⟨by rw [HXE.out]⟩, ⟨by rw [HXE.out, HRS.out]; exact H2.out⟩⟩
                  · have ckb : (sk == 0) = false := beq_eq_false_iff_ne.mpr ck
                    cases f2 with
                    | true =>
                      have HXE := Aside0.mk (HXS.out ⟨f0, f1⟩ (by unfold symX; rw [if_neg ck, HFD.out, if_pos rfl]))
                      clear ck HXS HXP
                      go_wp2_with (first | ((with_reducible refine gate_dst (N := 16) rfl ?_); refine box_event ?hg (N := 16) ?hd (cs := #[.string (⟨#[]⟩ : ByteArray), .int .i8 0, .int .i64 0]) (t := 37) ?hr ?_; (case hd => rfl); (case hg => rfl); (case hr => first | (go_simp; done) | (go_simp; rfl)); intro gs hgs w15 BK4 hb4; have BS := Aside0.mk BK4; have GS := Aside0.mk (show w.heap.size ≤ gs by rw [hgs]; exact H2.out.low.size); have NS := Aside0.mk (show ga < gs ∧ gl < gs ∧ bm < gs by rw [hgs]; exact ⟨blk_lt H2.out.hat, blk_lt H2.out.hl, H2.out.nm.lt⟩); have H2n := Aside0.mk (H2.out.box hb4 (show _ ≤ gs by rw [hgs]; exact Nat.le_refl _)); clear H2 BK4 hb4 hgs; have H2 := H2n; clear H2n) | ((with_reducible refine gate_store (t := 37) rfl ?_); refine wpList_store_whole rfl rfl rfl gs _ #[.string sn, .int .i8 sk, .int .i64 sa] _ rfl rfl BS.out (by kernel_rfl) rfl (sym_one _ _ _) ?_; intro w16 hp; have H2n := Aside0.mk (H2.out.put hp GS.out (by have := NS.out; omega) (by have := NS.out; omega) (by have := NS.out; omega) (fun k hk => hk.2)); have BSn := Aside0.mk hp.blk; clear H2 BS hp; have H2 := H2n; have BS := BSn; clear H2n BSn; have hs0 := blk_cell BS.out 0; have hs1 := blk_cell BS.out 1; have hs2 := blk_cell BS.out 2) | (go_at_call 42; refine (find.calls sn _ bm L H2.out.nm).mono ?_; rw [HFD.out]; rintro e_ w17 ⟨rfl, hb5⟩; have H2n := Aside0.mk (H2.out.below hb5); have BSn := Aside0.mk (blk_below BS.out hb5); clear H2 BS hb5 hs0 hs1 hs2; have H2 := H2n; have BS := BSn; clear H2n BSn; have hs0 := blk_cell BS.out 0; have hs1 := blk_cell BS.out 1; have hs2 := blk_cell BS.out 2) | ((with_reducible refine gate_dst (N := 17) rfl ?_); refine box_event ?hg (N := 17) ?hd (cs := #[.int .i64 0, .int .i64 0]) (t := 54) ?hr ?_; (case hd => rfl); (case hg => rfl); (case hr => first | (go_simp; done) | (go_simp; rfl)); intro gx hgx w18 BK6 hb6; have BX := Aside0.mk BK6; have GX := Aside0.mk (show w.heap.size ≤ gx by rw [hgx]; exact H2.out.low.size); have NX := Aside0.mk (show ga < gx ∧ gl < gx ∧ bm < gx ∧ gs < gx by rw [hgx]; exact ⟨blk_lt H2.out.hat, blk_lt H2.out.hl, H2.out.nm.lt, blk_lt BS.out⟩); have H2n := Aside0.mk (H2.out.box hb6 (show _ ≤ gx by rw [hgx]; exact Nat.le_refl _)); have BSn := Aside0.mk (blk_below BS.out hb6); clear H2 BS BK6 hb6 hgx hs0 hs1 hs2; have H2 := H2n; have BS := BSn; clear H2n BSn; have hs0 := blk_cell BS.out 0; have hs1 := blk_cell BS.out 1; have hs2 := blk_cell BS.out 2) | ((with_reducible refine gate_store (t := 54) rfl ?_); refine wpList_store_whole rfl rfl rfl gx _ #[.int .i64 f0, .int .i64 f1] _ rfl rfl BX.out (by kernel_rfl) rfl (def_one _ _) ?_; intro w20 hp; have H2n := Aside0.mk (H2.out.put hp GX.out (by have := NX.out; omega) (by have := NX.out; omega) (by have := NX.out; omega) (fun k hk => hk.2)); have BSn := Aside0.mk (blk_grown BS.out (put_grownN hp) (fun e => by have := NX.out; have := Option.some.inj e; omega)); have BXn := Aside0.mk hp.blk; clear H2 BS BX hp; (try clear hs0 hs1 hs2); (try clear hk0 hk1); have H2 := H2n; have BS := BSn; have BX := BXn; clear H2n BSn BXn; have hs0 := blk_cell BS.out 0; have hs1 := blk_cell BS.out 1; have hs2 := blk_cell BS.out 2; have hk0 := blk_cell BX.out 0; have hk1 := blk_cell BX.out 1))
                      have h2 := H2.out.below (below_drew (Below.refl _ _))
                      have bs := blk_below BS.out (below_drew (Below.refl _ _))
                      have bx := blk_below BX.out (below_drew (Below.refl _ _))
                      have bsl := blk_lt bs
                      have bxl := blk_lt bx
                      have hgm := (set_mid RS RW (RW ++ [(⟨f0, f1⟩ : DefT)]) [] (List.replicate (l0.length - (i + 1)) []) i HRL2.out)
                      obtain ⟨vi, okA, hci, hgd, hrow, hfr, hoka, hback⟩ := h2.row (i := i) HLT.out (fun k hk => ⟨⟨trivial, by omega⟩, by omega⟩) (⟨f0, f1⟩ : DefT)
                      rw [hgm.2] at hrow hback
                      rw [hgm.1] at hback
                      have HBK := Aside0.mk hback
                      have HROW := Aside0.mk hrow
                      have HFRS := Aside0.mk hfr
                      have HOKA := Aside0.mk hoka
                      have HLOW := Aside0.mk h2.low
                      have BX2 := Aside0.mk bx
                      have hcx0 := blk_cell BX2.out 0
                      have hcx1 := blk_cell BX2.out 1
                      obtain ⟨Av, cv, ev⟩ := Kd.R_slice HROW.out
                      subst ev
                      clear hback hrow hfr hoka h2 bs bx bsl bxl hgm hs0 hs1 hs2 hk0 hk1 BS BX H2 hw0 hw1 hw2
                      refine start_ (n := 11) (S := fun w' => w'.cell? ⟨g3, i, none⟩ = some (.slice Av RW.length cv) ∧ w'.cell? ⟨gx, 0, none⟩ = some (.int .i64 f0) ∧ w'.cell? ⟨gx, 1, none⟩ = some (.int .i64 f1)) (ds := [10]) #[false, false, false, false, false, false, false, false, false, false, false] (by kernel_rfl) rfl rfl ⟨hci, hcx0, hcx1⟩ (fun hHeld => ?_)
                      generalize w20.drew = wd at HBK HROW HFRS HLOW BX2 hci hgd hcx0 hcx1 hHeld ⊢
                      refine pure_ (i := 0) (N := some 99) (v := ?_) (a' := ?_) #[true, false, false, false, false, false, false, false, false, false, false] rfl rfl (by kernel_rfl) (fun _ _ _ h => h) (Or.inl ⟨by rfl, ?_⟩) ?_ ?_
                      rotate_left
                      ·
                        intro w'
                        go_simp
                        with_reducible rfl
                      rotate_left
                      ·
                        simp only [Act.put, List.setIfInBounds_toArray, List.set_cons_zero, List.set_cons_succ, i64_w, i32_w]
                        rfl
                      refine pure_ (i := 1) (N := some 100) (v := ?_) (a' := ?_) #[true, true, false, false, false, false, false, false, false, false, false] rfl rfl (by kernel_rfl) (fun _ _ _ h => h) (Or.inl ⟨by rfl, ?_⟩) ?_ ?_
                      rotate_left
                      ·
                        intro w'
                        go_simp
                        with_reducible rfl
                      rotate_left
                      ·
                        simp only [Act.put, List.setIfInBounds_toArray, List.set_cons_zero, List.set_cons_succ, i64_w, i32_w]
                        rfl
                      refine pure_ (i := 2) (N := some 101) (v := ?_) (a' := ?_) #[true, true, true, false, false, false, false, false, false, false, false] rfl rfl (by kernel_rfl) (fun _ _ _ h => h) (Or.inl ⟨by rfl, ?_⟩) ?_ ?_
                      rotate_left
                      ·
                        intro w'
                        go_simp
                        with_reducible rfl
                      rotate_left
                      ·
                        simp only [Act.put, List.setIfInBounds_toArray, List.set_cons_zero, List.set_cons_succ, i64_w, i32_w]
                        rfl
                      refine pure_ (i := 3) (N := some 102) (v := ?_) (a' := ?_) #[true, true, true, true, false, false, false, false, false, false, false] rfl rfl (by kernel_rfl) (fun _ _ _ h => h) (Or.inl ⟨by rfl, ?_⟩) ?_ ?_
                      rotate_left
                      ·
                        intro w'
                        go_simp
                        with_reducible rfl
                      rotate_left
                      ·
                        simp only [Act.put, List.setIfInBounds_toArray, List.set_cons_zero, List.set_cons_succ, i64_w, i32_w]
                        rfl
                      refine pure_ (i := 4) (N := some 103) (v := ?_) (a' := ?_) #[true, true, true, true, true, false, false, false, false, false, false] rfl rfl (by kernel_rfl) (fun _ _ _ h => h) (Or.inl ⟨by rfl, ?_⟩) ?_ ?_
                      rotate_left
                      ·
                        intro w'
                        go_simp
                        with_reducible rfl
                      rotate_left
                      ·
                        simp only [Act.put, List.setIfInBounds_toArray, List.set_cons_zero, List.set_cons_succ, i64_w, i32_w]
                        rfl
                      refine take_ (i := 5) (N := some 104) (v := ?_) (a' := ?_) #[true, true, true, true, true, true, false, false, false, false, false] rfl rfl (by kernel_rfl) (fun _ _ _ h => h) (Or.inl ⟨by rfl, ?_⟩) hHeld ?_ ?_
                      rotate_left
                      ·
                        rintro w' ⟨s0, s1, s2⟩
                        go_simp
                        with_reducible rfl
                      rotate_left
                      ·
                        simp only [Act.put, List.setIfInBounds_toArray, List.set_cons_zero, List.set_cons_succ, i64_w, i32_w]
                        rfl
                      refine take_ (i := 6) (N := some 105) (v := ?_) (a' := ?_) #[true, true, true, true, true, true, true, false, false, false, false] rfl rfl (by kernel_rfl) (fun _ _ _ h => h) (Or.inl ⟨by rfl, ?_⟩) hHeld ?_ ?_
                      rotate_left
                      ·
                        rintro w' ⟨s0, s1, s2⟩
                        go_simp
                        with_reducible rfl
                      rotate_left
                      ·
                        simp only [Act.put, List.setIfInBounds_toArray, List.set_cons_zero, List.set_cons_succ, i64_w, i32_w]
                        rfl
                      refine one_ (i := 7) (N := some 106) #[true, true, true, true, true, true, true, true, false, false, false] rfl rfl (by kernel_rfl) (by decide) (fun K hK => ?_)
                      refine value_ (w1 := ?_) (v := ?_) (by rfl) rfl ?_ ?_
                      rotate_left 2
                      ·
                        go_simp
                        constructor
                        ·
                          rfl
                        ·
                          rfl
                      refine hK.out _ _ ⟨(World.cell?_alloc_lt _ _ _ (World.block_lt_of_cell? _ _ hci)).trans hci, (World.cell?_alloc_lt _ _ _ (World.block_lt_of_cell? _ _ hcx0)).trans hcx0, (World.cell?_alloc_lt _ _ _ (World.block_lt_of_cell? _ _ hcx1)).trans hcx1⟩ (fun hHeld => ?_)
                      clear hK K
                      refine norm_ (a' := ?_) ?_ ?_
                      rotate_left
                      ·
                        show Act.put _ (some 106) _ = _
                        simp only [Act.put, List.setIfInBounds_toArray, List.set_cons_zero, List.set_cons_succ, i64_w, i32_w]
                        rfl
                      refine one_ (i := 8) (N := some 107) #[true, true, true, true, true, true, true, true, true, false, false] rfl rfl (by kernel_rfl) (by decide) (fun K hK => ?_)
                      refine Kd.R_append_step k54 (w0 := w) w.heap.size (by rfl) (.tmp 104) (.tmp 106) 61 54 (.agg #[.int .i64 0, .int .i64 0]) 16 rfl Try.underlying61 info_def rfl (by decide) (by omega) (.slice Av RW.length cv) RW (⟨f0, f1⟩ : DefT) [.int .i64 f0, .int .i64 f1] okA (fun _ => False) rfl rfl ?aP (fun _ hk => hk.elim) ?aF ?aO ?aB ?aS ?aL ?_
                      (case aP => exact k54_mkM _ _ _ (⟨f0, f1⟩ : DefT))
                      (case aB => exact HLOW.out)
                      (case aF => exact HFRS.out)
                      (case aO => exact HROW.out)
                      (case aS => exact HLOW.out.size)
                      (case aL => have := HRN.out; have := HL2.out; have := HSL.out; omega)
                      intro v19 w19 ho19 hb19 hg19 hat19
                      obtain ⟨hc19, hf19, hr19⟩ := HBK.out v19 w19 ho19 hb19 hg19
                      have hne : some gx ≠ (Value.slice Av RW.length cv).ownBlock := fun e => (HOKA.out gx (HROW.out.1 gx e.symm)).2 rfl
                      have bx19 := blk_grown BX2.out hg19 hne
                      have HR19 := Aside0.mk hr19
                      obtain ⟨Ao, co, eo⟩ := Kd.R_slice ho19
                      subst eo
                      refine hK.out _ _ ⟨hc19, blk_cell bx19 0, blk_cell bx19 1⟩ (fun hHeld => ?_)
                      clear hr19 hci hcx0 hcx1
                      clear hK K
                      refine norm_ (a' := ?_) ?_ ?_
                      rotate_left
                      ·
                        show Act.put _ (some 107) _ = _
                        simp only [Act.put, List.setIfInBounds_toArray, List.set_cons_zero, List.set_cons_succ, i64_w, i32_w]
                        rfl
                      refine pure_ (i := 9) (N := some 108) (v := ?_) (a' := ?_) #[true, true, true, true, true, true, true, true, true, true, false] rfl rfl (by kernel_rfl) (fun _ _ _ h => h) (Or.inl ⟨by rfl, ?_⟩) ?_ ?_
                      rotate_left
                      ·
                        intro w'
                        go_simp
                        with_reducible rfl
                      rotate_left
                      ·
                        simp only [Act.put, List.setIfInBounds_toArray, List.set_cons_zero, List.set_cons_succ, i64_w, i32_w]
                        rfl
                      refine last_ (i := 10) (N := none) #[true, true, true, true, true, true, true, true, true, true, true] rfl rfl (by kernel_rfl) (by decide) (fun K hK => ?_)
                      refine skip_ (w1 := ?_) (by rfl) rfl ?_ ?_
                      rotate_left
                      ·
                        go_simp
                        rfl
                      refine hK.out _ _ ?_
                      clear hK K
                      refine done_ (by kernel_rfl) ?_
                      have h2 := HR19.out.mono (ok' := fun _ => True) (fun _ _ => trivial)
                      rw [show (RW ++ [(⟨f0, f1⟩ : DefT)]).length = RW.length + 1 from (by rw [List.length_append]; rfl)] at h2
                      clear HR19 ho19 hb19 hg19 hat19 hHeld hne bx19
                      have H2 := Aside0.mk h2
                      clear h2 hc19 hf19
                      go_wp2
                      go_roundw
                      case measure => have hq := HL2.out; (try rw [HWR2.out]); simp only [intOf]; omega
                      case rel => exact ⟨rfl, j + 1, by first | rfl | (rw [HWR2.out]; done), by have := HL2.out; omega, ⟨by rw [HXE.out]⟩, ⟨by rw [HXE.out, HRS.out]; exact H2.out⟩⟩
                    | false =>
                      obtain ⟨dd, hdd⟩ := HXP.out (by unfold symX; rw [if_neg ck, HFD.out]; exact if_neg (show ¬ (false = true) by decide))
                      clear ck HXS HXP
                      have h := HH.out
                      rw [hdd] at h
                      simp only [Option.some.injEq, Prod.mk.injEq] at h
                      obtain ⟨rfl, rfl, rfl, rfl⟩ := h
                      clear hdd HH
                      go_wp2_with (first | ((with_reducible refine gate_dst (N := 16) rfl ?_); refine box_event ?hg (N := 16) ?hd (cs := #[.string (⟨#[]⟩ : ByteArray), .int .i8 0, .int .i64 0]) (t := 37) ?hr ?_; (case hd => rfl); (case hg => rfl); (case hr => first | (go_simp; done) | (go_simp; rfl)); intro gs hgs w15 BK4 hb4; have BS := Aside0.mk BK4; have GS := Aside0.mk (show w.heap.size ≤ gs by rw [hgs]; exact H2.out.low.size); have NS := Aside0.mk (show ga < gs ∧ gl < gs ∧ bm < gs by rw [hgs]; exact ⟨blk_lt H2.out.hat, blk_lt H2.out.hl, H2.out.nm.lt⟩); have H2n := Aside0.mk (H2.out.box hb4 (show _ ≤ gs by rw [hgs]; exact Nat.le_refl _)); clear H2 BK4 hb4 hgs; have H2 := H2n; clear H2n) | ((with_reducible refine gate_store (t := 37) rfl ?_); refine wpList_store_whole rfl rfl rfl gs _ #[.string sn, .int .i8 sk, .int .i64 sa] _ rfl rfl BS.out (by kernel_rfl) rfl (sym_one _ _ _) ?_; intro w16 hp; have H2n := Aside0.mk (H2.out.put hp GS.out (by have := NS.out; omega) (by have := NS.out; omega) (by have := NS.out; omega) (fun k hk => hk.2)); have BSn := Aside0.mk hp.blk; clear H2 BS hp; have H2 := H2n; have BS := BSn; clear H2n BSn; have hs0 := blk_cell BS.out 0; have hs1 := blk_cell BS.out 1; have hs2 := blk_cell BS.out 2) | (go_at_call 42; refine (find.calls sn _ bm L H2.out.nm).mono ?_; rw [HFD.out]; rintro e_ w17 ⟨rfl, hb5⟩; have H2n := Aside0.mk (H2.out.below hb5); have BSn := Aside0.mk (blk_below BS.out hb5); clear H2 BS hb5 hs0 hs1 hs2; have H2 := H2n; have BS := BSn; clear H2n BSn; have hs0 := blk_cell BS.out 0; have hs1 := blk_cell BS.out 1; have hs2 := blk_cell BS.out 2) | ((with_reducible refine gate_dst (N := 17) rfl ?_); refine box_event ?hg (N := 17) ?hd (cs := #[.int .i64 0, .int .i64 0]) (t := 54) ?hr ?_; (case hd => rfl); (case hg => rfl); (case hr => first | (go_simp; done) | (go_simp; rfl)); intro gx hgx w18 BK6 hb6; have BX := Aside0.mk BK6; have GX := Aside0.mk (show w.heap.size ≤ gx by rw [hgx]; exact H2.out.low.size); have NX := Aside0.mk (show ga < gx ∧ gl < gx ∧ bm < gx ∧ gs < gx by rw [hgx]; exact ⟨blk_lt H2.out.hat, blk_lt H2.out.hl, H2.out.nm.lt, blk_lt BS.out⟩); have H2n := Aside0.mk (H2.out.box hb6 (show _ ≤ gx by rw [hgx]; exact Nat.le_refl _)); have BSn := Aside0.mk (blk_below BS.out hb6); clear H2 BS BK6 hb6 hgx hs0 hs1 hs2; have H2 := H2n; have BS := BSn; clear H2n BSn; have hs0 := blk_cell BS.out 0; have hs1 := blk_cell BS.out 1; have hs2 := blk_cell BS.out 2) | ((with_reducible refine gate_store (t := 54) rfl ?_); refine wpList_store_whole rfl rfl rfl gx _ #[.int .i64 f0, .int .i64 f1] _ rfl rfl BX.out (by kernel_rfl) rfl (def_one _ _) ?_; intro w20 hp; have H2n := Aside0.mk (H2.out.put hp GX.out (by have := NX.out; omega) (by have := NX.out; omega) (by have := NX.out; omega) (fun k hk => hk.2)); have BSn := Aside0.mk (blk_grown BS.out (put_grownN hp) (fun e => by have := NX.out; have := Option.some.inj e; omega)); have BXn := Aside0.mk hp.blk; clear H2 BS BX hp; (try clear hs0 hs1 hs2); (try clear hk0 hk1); have H2 := H2n; have BS := BSn; have BX := BXn; clear H2n BSn BXn; have hs0 := blk_cell BS.out 0; have hs1 := blk_cell BS.out 1; have hs2 := blk_cell BS.out 2; have hk0 := blk_cell BX.out 0; have hk1 := blk_cell BX.out 1) | ((with_reducible refine gate_store (t := 80) rfl ?_); refine wpList_store_whole rfl rfl rfl ga _ #[.int .i64 (i : Int), .int .i64 (j : Int)] _ rfl rfl H2.out.hat (by kernel_rfl) rfl (at_one _ _) ?_; intro w22 hp; have HE := Aside0.mk (hp.below H2.out.low H2.out.ba); have BA := Aside0.mk hp.blk; clear hp H2 BS BX hs0 hs1 hs2 hk0 hk1; have hat0 := blk_cell BA.out 0; have hat1 := blk_cell BA.out 1))
                      repeat (go_quiet (fail); try go_wp2)
                      (try rw [Exit.noGoto_ret])
                      (try simp only [Exit.inBlock, Exit.then])
                      refine bodyPost_ret (results_tmp4 rfl _ _ _) rfl ?_
                      exact ⟨_, rfl, Kd.S_nil _ _ _ _ _, pw_below_drewN HE.out _⟩
                · have hj0 : j = x4.length := by omega
                  subst hj0
                  have hltb2 : decide ((x4.length : Int) < (x4.length : Int)) = false := by simp
                  have h2 := H2.out
                  have hst := HST.out HFR.out
                  rw [show ∀ (A : List (List DefT)) (r : List DefT) (B : List (List DefT)), A ++ r :: B = (A ++ [r]) ++ B from fun A r B => by simp] at h2
                  clear H2 hlt2 hjle
                  have H2 := Aside0.mk h2
                  have HS2 := Aside0.mk hst
                  clear h2 hst
                  go_wp2
                  go_roundw
                  case measure => have hq := HLT.out; (try rw [HWR.out]); simp only [intOf]; omega
                  case rel => exact ⟨rfl, i + 1, by first | rfl | (rw [HWR.out]; done), by have := HLT.out; omega, ⟨by rw [HS2.out]⟩, ⟨by rw [HS2.out]; exact H2.out⟩⟩
            · have hi0 : i = l0.length := by omega
              subst hi0
              have hltb : decide ((l0.length : Int) < (l0.length : Int)) = false := by simp
              have h := HH.out
              have h2 := H2.out
              have hf := HF.out
              obtain ⟨dd, oo, hdd⟩ : ∃ dd oo, rowsX L l0 l0.length = (dd, oo) := ⟨_, _, rfl⟩
              rw [hdd] at h h2 hf
              simp only at hf h2
              subst hf
              simp only [Option.some.injEq, Prod.mk.injEq] at h
              obtain ⟨rfl, rfl, rfl, rfl⟩ := h
              rw [Nat.sub_self, List.replicate_zero, List.append_nil] at h2
              clear HH H2 HF hdd hlt hile
              have H2 := Aside0.mk h2
              clear h2
              go_wp2
              (try rw [Exit.noGoto_ret])
              (try simp only [Exit.inBlock, Exit.then])
              refine bodyPost_ret (results_tmp4 rfl _ _ _) rfl ?_
              exact ⟨_, rfl, H2.out.own, H2.out.low⟩
theorem symbol_Resolve.calls (A0 : Option Addr) (c0 : Nat) (l0 : List ObjT) (r1 : List (List DefT)) (r2 : Int) (r3 : Int) (r4 : Int) (w : World) (hr0 : Kd.C k27 w A0 l0.length l0) (hc0 : l0.length ≤ c0) (h : symbol_Resolve.f l0 = some (r1, r2, r3, r4)) :
    Calls Try.prog 16 #[.slice A0 l0.length c0] w fun e w' => ∃ v0_ : Value, e = .returned (.tuple #[v0_, .int .i64 r2, .int .i64 r3, .int .i64 r4]) ∧ Kd.S (Kd.slice 54 k54) 61 w' w.heap.size (fun _ => True) v0_ r1 ∧ Below w.heap.size w w' := by
  unfold symbol_Resolve.f at h
  split at h
  · next hb =>
    rw [Bool.and_eq_true, decide_eq_true_eq, List.all_eq_true] at hb
    exact symRes.calls A0 c0 l0 w r1 r2 r3 r4 hr0 (fun i hi => of_decide_eq_true (hb.2 i (List.mem_range.mpr hi))) h
  · cases h
end Go.Proofs.Ytiaohbbafaaibab.P
