/- OWN TEXT and printed parts of this claim, laid together: P18, HWideO, HSpareO, ObjL, ObjF, P3, WireE. -/
import Derived.Test.YtiaohbbafaaibabGreatDoorZxM0
import Derived.Test.YtiaohbbafaaibabGreatDoorZxM6
import Derived.Test.YtiaohbbafaaibabGreatDoorZxM7
import Derived.Test.YtiaohbbafaaibabGreatDoorZxM9
import Derived.Test.YtiaohbbafaaibabGreatDoorZxM4
/- What the Go functions named below come to, as plain functions, each with its proof; written by this session's prt.py over the kit's print. -/
namespace Go.Proofs.YtiaohbbafaaibabGreatDoor.P
open Go.RowKit Go.Proofs.YtiaohbbafaaibabGreatDoorW.PrintWords Go.Proofs.YtiaohbbafaaibabGreatDoorW.PrintLast Go.Proofs.YtiaohbbafaaibabGreatDoorW.PrintMore
attribute [local go_sem] max2_int min2_int max_two min_two max_three min_three max_four min_four   -- for this text's walks alone
set_option linter.unusedVariables false
set_option linter.unusedSimpArgs false

attribute [local go_sem high] eqA65 eqA82
/-! ### pleatref00_EqBytes: function 10 -/
def pleatref00_EqBytes.l0 : Nat → List Int → List Int → Int → Option (Bool)
 | 0, _, _, _ => none
 | k + 1, x0, x1, x5 => if x5 < (x0.length : Int) then (if 0 ≤ x5 then (if x5 < (x1.length : Int) then (if (rd x0 x5) = (rd x1 x5) then (pleatref00_EqBytes.l0 k x0 x1 (wrap64 (x5 + 1))) else (some false)) else (none)) else (none)) else (some true)
def pleatref00_EqBytes.f (k : Nat) (l0 : List Int) (l1 : List Int) : Option (Bool) := if (l0.length : Int) = (l1.length : Int) then (pleatref00_EqBytes.l0 k l0 l1 0) else (some false)
theorem pleatref00_EqBytes.mono_l : ∀ k, (∀ y0 y1 y2, LeO (pleatref00_EqBytes.l0 k y0 y1 y2) (pleatref00_EqBytes.l0 (k + 1) y0 y1 y2))
 | 0 => fun _ _ _ r h => by simp [pleatref00_EqBytes.l0] at h
 | k + 1 => by
  have ih0 := pleatref00_EqBytes.mono_l k
  ·
   intro y0 y1 y2
   unfold pleatref00_EqBytes.l0
   repeat' first
   | (with_reducible first | exact ih0 _ _ _ | exact LeO.refl _ | exact LeO.none _ | refine LeO.ite ?_ ?_ | refine LeO.bind ?_ (fun _ => ?_))
theorem pleatref00_EqBytes.mono : ∀ a0 a1 k, LeO (pleatref00_EqBytes.f k a0 a1) (pleatref00_EqBytes.f (k + 1) a0 a1) := by
 intro a0 a1 k
 have ih0 := pleatref00_EqBytes.mono_l k
 unfold pleatref00_EqBytes.f
 repeat' first
   | (with_reducible first | exact ih0 _ _ _ | exact LeO.refl _ | exact LeO.none _ | refine LeO.ite ?_ ?_ | refine LeO.bind ?_ (fun _ => ?_))
set_option maxHeartbeats 8000000 in
set_option maxRecDepth 100000 in
theorem pleatref00_EqBytes.calls (k : Nat) (A0 : Option Addr) (c0 : Nat) (l0 : List Int) (A1 : Option Addr) (c1 : Nat) (l1 : List Int) (r : Bool) (w : World) (hr0 : Kd.C (Kd.int .u8) w A0 l0.length l0) (hc0 : l0.length ≤ c0) (hr1 : Kd.C (Kd.int .u8) w A1 l1.length l1) (hc1 : l1.length ≤ c1) (h : pleatref00_EqBytes.f k l0 l1 = some r) :
  Calls Tryz.prog 10 #[.slice A0 l0.length c0, .slice A1 l1.length c1] w fun e w' => e = .returned (.bool r) ∧ Drawn0 w w' := by
 have HR0 := Aside0.mk hr0
 have HC0 := Aside0.mk hc0
 clear hr0 hc0
 have HR1 := Aside0.mk hr1
 have HC1 := Aside0.mk hc1
 clear hr1 hc1
 have H : (if (l0.length : Int) = (l1.length : Int) then (pleatref00_EqBytes.l0 k l0 l1 0) else (some false)) = some r := h
 clear h
 by_cases c3 : (l0.length : Int) = (l1.length : Int)
 ·
  rw [if_pos c3] at H
  have c3b0 : ((l0.length : Int) == (l1.length : Int)) = true := beq_iff_eq.mpr c3
  have c3b1 : ((l0.length : Int) != (l1.length : Int)) = false := bne_eq_false_iff_eq.mpr c3
  have c3b2 : (l0.length == l1.length) = true := by first | simpa using c3 | (simp at c3 ⊢; omega)
  clear c3
  have H' := Aside0.mk H
  clear H
  go_enter Tryz.func10, Tryz.ntmps10
  go_wp2
  repeat (go_quiet (fail); try go_wp2)
  go_loopg [5] k (fun kq v5 w' => ∃ (x5_1 : Int), v5 = .int .i64 x5_1 ∧ Aside0 (pleatref00_EqBytes.l0 kq l0 l1 x5_1 = some r) ∧ Aside0 (kq ≤ k) ∧ Drawn0 w w')
  case atStart => exact ⟨(0), (by first | rfl | (simp; done) | (simp [*]; done)), H', ⟨Nat.le_refl _⟩, by repeat (first | exact Drawn0.refl _ | apply Drawn0.step)⟩
  case round =>
   clear H'
   try clear c1
   try clear p2
   try clear c3
   try clear c3b0
   try clear c3b1
   try clear c3b2
   obtain ⟨x5_1, rfl, HA, HK1, ⟨m1, rfl⟩⟩ := hrel
   cases gk with
   | zero => exact absurd HA.out (by simp [pleatref00_EqBytes.l0])
   | succ k1 =>
    have H := HA.out
    clear HA
    simp only [pleatref00_EqBytes.l0] at H
    by_cases c4 : x5_1 < (l0.length : Int)
    ·
     rw [if_pos c4] at H
     have c4b0 : decide (x5_1 < (l0.length : Int)) = true := decide_eq_true c4
     clear c4
     by_cases c5 : 0 ≤ x5_1
     ·
      rw [if_pos c5] at H
      have c5b0 : decide (0 ≤ x5_1) = true := decide_eq_true c5
      clear c5
      by_cases c6 : x5_1 < (l1.length : Int)
      ·
       rw [if_pos c6] at H
       have c6b0 : decide (x5_1 < (l1.length : Int)) = true := decide_eq_true c6
       clear c6
       by_cases c7 : (rd l0 x5_1) = (rd l1 x5_1)
       ·
        rw [if_pos c7] at H
        have c7b0 : ((rd l0 x5_1) == (rd l1 x5_1)) = true := beq_iff_eq.mpr c7
        have c7b1 : ((rd l0 x5_1) != (rd l1 x5_1)) = false := bne_eq_false_iff_eq.mpr c7
        clear c7
        have H' := Aside0.mk H
        clear H
        have p426 : 0 ≤ (x5_1 : Int) := of_decide_eq_true ‹_›
        have q426 : x5_1 < (l0.length : Int) := of_decide_eq_true ‹_›
        obtain ⟨ad426, e426, hx426_0⟩ := Kd.at_int HR0.out x5_1 p426 q426
        cases e426
        replace p426 := eq_true p426
        replace q426 := eq_true q426
        have p427 : 0 ≤ (x5_1 : Int) := of_decide_eq_true ‹_›
        have q427 : x5_1 < (l1.length : Int) := of_decide_eq_true ‹_›
        obtain ⟨ad427, e427, hx427_0⟩ := Kd.at_int HR1.out x5_1 p427 q427
        cases e427
        replace p427 := eq_true p427
        replace q427 := eq_true q427
        go_wp2
        repeat (go_quiet (fail); try go_wp2)
        go_roundg k1
        case measure => have := HK1.out; omega
        case rel => exact ⟨(wrap64 (x5_1 + 1)), (by first | rfl | (simp; done) | (simp [*]; done)), H', ⟨by have := HK1.out; omega⟩, by repeat (first | exact Drawn0.refl _ | apply Drawn0.step)⟩
       ·
        rw [if_neg c7] at H
        have c7b0 : ((rd l0 x5_1) == (rd l1 x5_1)) = false := beq_eq_false_iff_ne.mpr c7
        have c7b1 : ((rd l0 x5_1) != (rd l1 x5_1)) = true := bne_iff_ne.mpr c7
        obtain rfl := Option.some.inj H
        have p426 : 0 ≤ (x5_1 : Int) := of_decide_eq_true ‹_›
        have q426 : x5_1 < (l0.length : Int) := of_decide_eq_true ‹_›
        obtain ⟨ad426, e426, hx426_0⟩ := Kd.at_int HR0.out x5_1 p426 q426
        cases e426
        replace p426 := eq_true p426
        replace q426 := eq_true q426
        have p427 : 0 ≤ (x5_1 : Int) := of_decide_eq_true ‹_›
        have q427 : x5_1 < (l1.length : Int) := of_decide_eq_true ‹_›
        obtain ⟨ad427, e427, hx427_0⟩ := Kd.at_int HR1.out x5_1 p427 q427
        cases e427
        replace p427 := eq_true p427
        replace q427 := eq_true q427
        go_wp2
        repeat (go_quiet (fail); try go_wp2)
        go_ret
        exact ⟨by first | rfl | (simp; done) | (simp [*]; done), by repeat (first | exact Drawn0.refl _ | apply Drawn0.step)⟩
      ·
       rw [if_neg c6] at H
       exact absurd H (by simp)
     ·
      rw [if_neg c5] at H
      exact absurd H (by simp)
    ·
     rw [if_neg c4] at H
     have c4b0 : decide (x5_1 < (l0.length : Int)) = false := decide_eq_false c4
     clear c4
     obtain rfl := Option.some.inj H
     go_wp2
     repeat (go_quiet (fail); try go_wp2)
     go_ret
     exact ⟨by first | rfl | (simp; done) | (simp [*]; done), by repeat (first | exact Drawn0.refl _ | apply Drawn0.step)⟩
 ·
  rw [if_neg c3] at H
  have c3b0 : ((l0.length : Int) == (l1.length : Int)) = false := beq_eq_false_iff_ne.mpr c3
  have c3b1 : ((l0.length : Int) != (l1.length : Int)) = true := bne_iff_ne.mpr c3
  have c3b2 : (l0.length == l1.length) = false := by first | simpa using c3 | (simp at c3 ⊢; omega)
  obtain rfl := Option.some.inj H
  go_enter Tryz.func10, Tryz.ntmps10
  go_wp2
  repeat (go_quiet (fail); try go_wp2)
  go_ret
  exact ⟨by first | rfl | (simp; done) | (simp [*]; done), by repeat (first | exact Drawn0.refl _ | apply Drawn0.step)⟩


/-! ### pleatref00_SpareWords: function 36 -/
def pleatref00_SpareWords.l0 : Nat → List Int → Int → Option (Bool)
 | 0, _, _ => none
 | k + 1, x3, x4 => if x4 < (x3.length : Int) then (if 0 ≤ x4 then ((pleatref00_num.f 9 x4).bind fun t430 => (if ((rd x3 x4) = ((t430) % 4294967296)) then (pleatref00_SpareWords.l0 k x3 (wrap64 (x4 + 1))) else (some false))) else (none)) else (some true)
def pleatref00_SpareWords.f (k : Nat) (l0 : List Int) : Option (Bool) := if 0 ≤ (wrap64 ((l0.length : Int) + 64)) then (if (wrap64 ((l0.length : Int) + 64)) ≤ (l0.length : Int) then (pleatref00_SpareWords.l0 k (l0.take ((wrap64 ((l0.length : Int) + 64)) : Int).toNat) (l0.length : Int)) else (none)) else (none)
theorem pleatref00_SpareWords.mono_l : ∀ k, (∀ y0 y1, LeO (pleatref00_SpareWords.l0 k y0 y1) (pleatref00_SpareWords.l0 (k + 1) y0 y1))
 | 0 => fun _ _ r h => by simp [pleatref00_SpareWords.l0] at h
 | k + 1 => by
  have ih0 := pleatref00_SpareWords.mono_l k
  ·
   intro y0 y1
   unfold pleatref00_SpareWords.l0
   repeat' first
   | (with_reducible first | exact ih0 _ _ | exact LeO.refl _ | exact LeO.none _ | refine LeO.ite ?_ ?_ | refine LeO.bind ?_ (fun _ => ?_))
theorem pleatref00_SpareWords.mono : ∀ a0 k, LeO (pleatref00_SpareWords.f k a0) (pleatref00_SpareWords.f (k + 1) a0) := by
 intro a0 k
 have ih0 := pleatref00_SpareWords.mono_l k
 unfold pleatref00_SpareWords.f
 repeat' first
   | (with_reducible first | exact ih0 _ _ | exact LeO.refl _ | exact LeO.none _ | refine LeO.ite ?_ ?_ | refine LeO.bind ?_ (fun _ => ?_))
set_option maxHeartbeats 8000000 in
set_option maxRecDepth 100000 in
theorem pleatref00_SpareWords.callsS (k : Nat) (A0 : Option Addr) (c0 n0 : Nat) (y_0 : List Int) (r : Bool) (w : World) (hr0 : Kd.C (Kd.int .u32) w A0 y_0.length y_0) (hn : y_0.length = n0 + 64) (hn2 : n0 ≤ 1000000000000000) (hc0 : n0 + 64 ≤ c0) (h : pleatref00_SpareWords.l0 k y_0 (n0 : Int) = some r) (hrt : r = true) :
  Calls Tryz.prog 36 #[.slice A0 n0 c0] w fun e w' => e = .returned (.bool r) ∧ Drawn0 w w' := by
 have HRT := Aside0.mk hrt
 have HR428 := Aside0.mk hr0
 have H' := Aside0.mk h
 have HB := Aside0.mk (Below.refl w.heap.size w)
 obtain ⟨ji2, hji2⟩ : ∃ j_ : Int, (wrap64 ((n0 : Int) + 64)) = j_ := ⟨_, rfl⟩
 have hjv : ji2 = (y_0.length : Int) := by rw [← hji2, wrap64_id (by omega) (by omega), hn]; omega
 have hji2w : (IntKind.i64.wrap ((n0 : Int) + 64)) = ji2 := (i64_w _).trans hji2
 have c3b0 := eq_true (show 0 ≤ ji2 by omega)
 obtain ⟨i0_, hi05, _, _, _⟩ := info_parts info78
 have hcut5 := cut_wide (P := Tryz.prog) 22 78 .i64 Tryz.underlying22 hi05 A0 n0 c0 ji2 (by omega) (by omega)
 rw [show ji2.toNat = y_0.length by omega] at hcut5
 clear hrt hr0 h hjv hi05 hc0 hn
 go_enter Tryz.func36, Tryz.ntmps36
 go_wp2
 go_loopg [4] k (fun kq v4 w' => ∃ (x4_1 : Int), v4 = .int .i64 x4_1 ∧ Aside0 (pleatref00_SpareWords.l0 kq y_0 x4_1 = some r) ∧ Aside0 (kq ≤ k) ∧ Drawn0 w w')
 case atStart => exact ⟨((n0 : Int)), (by first | rfl | (simp; done) | (simp [*]; done)), H', ⟨Nat.le_refl _⟩, by repeat (first | exact Drawn0.refl _ | apply Drawn0.step)⟩
 case round =>
  clear H'
  try clear p2
  try clear c3
  try clear c3b0
  try clear c3b1
  try clear c4
  try clear c4b0
  try clear c4b1
  obtain ⟨x4_1, rfl, HA, HK1, ⟨m1, rfl⟩⟩ := hrel
  cases gk with
  | zero => exact absurd HA.out (by simp [pleatref00_SpareWords.l0])
  | succ k1 =>
   have H := HA.out
   clear HA
   simp only [pleatref00_SpareWords.l0] at H
   by_cases c6 : x4_1 < (y_0.length : Int)
   ·
    rw [if_pos c6] at H
    have c6b0 : decide (x4_1 < (y_0.length : Int)) = true := decide_eq_true c6
    clear c6
    by_cases c7 : 0 ≤ x4_1
    ·
     rw [if_pos c7] at H
     have c7b0 : decide (0 ≤ x4_1) = true := decide_eq_true c7
     clear c7
     replace H := Option.bind_eq_some_iff.mp H
     obtain ⟨t430, A80, H⟩ := H
     try dsimp only at H
     have A8 := Aside0.mk A80
     clear A80
     by_cases c9 : ((rd y_0 x4_1) = ((t430) % 4294967296))
     ·
      rw [if_pos c9] at H
      have c9b0 : ((rd y_0 x4_1) == ((t430) % 4294967296)) = true := beq_iff_eq.mpr c9
      have c9b1 : ((rd y_0 x4_1) != ((t430) % 4294967296)) = false := bne_eq_false_iff_eq.mpr c9
      clear c9
      have H' := Aside0.mk H
      clear H
      have p429 : 0 ≤ (x4_1 : Int) := of_decide_eq_true ‹_›
      have q429 : x4_1 < (y_0.length : Int) := of_decide_eq_true ‹_›
      obtain ⟨ad429, e429, hx429_0⟩ := Kd.at_int HR428.out x4_1 p429 q429
      cases e429
      replace p429 := eq_true p429
      replace q429 := eq_true q429
      go_wp2_with (first | ((with_reducible refine gate_callee (f := 79) rfl ?_); refine goesL_ (some 25) rfl rfl Tryz.func79 (by kernel_rfl) rfl #[.int .i64 9, .int .i64 x4_1] rfl (by (try simp only [List.map_toArray, List.map_cons, List.map_nil]); try rfl) ?_; (with_reducible refine (pleatref00_num.calls 9 x4_1 t430 _ A8.out).mono ?_); rintro e w' ⟨rfl, ⟨nd, rfl⟩⟩; refine ⟨_, rfl, ?_⟩))
      go_roundg k1
      case measure => have := HK1.out; omega
      case rel => exact ⟨(wrap64 (x4_1 + 1)), (by first | rfl | (simp; done) | (simp [*]; done)), H', ⟨by have := HK1.out; omega⟩, by repeat (first | exact Drawn0.refl _ | apply Drawn0.step)⟩
     ·
      rw [if_neg c9] at H
      exact absurd ((Option.some.inj H).trans HRT.out) (by decide)
    ·
     rw [if_neg c7] at H
     exact absurd H (by simp)
   ·
    rw [if_neg c6] at H
    have c6b0 : decide (x4_1 < (y_0.length : Int)) = false := decide_eq_false c6
    clear c6
    obtain rfl := Option.some.inj H
    go_wp2
    go_ret
    exact ⟨by first | rfl | (simp; done) | (simp only [← hji2] <;> (first | rfl | simp)) | (simp [*]; done), by repeat (first | exact Drawn0.refl _ | apply Drawn0.step)⟩


/-! ### pleatref00_SpareLongs: function 37 -/
def pleatref00_SpareLongs.l0 : Nat → List Int → Int → Option (Bool)
 | 0, _, _ => none
 | k + 1, x3, x4 => if x4 < (x3.length : Int) then (if 0 ≤ x4 then ((pleatref00_num.f 9 x4).bind fun t433 => (if ((rd x3 x4) = t433) then (pleatref00_SpareLongs.l0 k x3 (wrap64 (x4 + 1))) else (some false))) else (none)) else (some true)
def pleatref00_SpareLongs.f (k : Nat) (l0 : List Int) : Option (Bool) := if 0 ≤ (wrap64 ((l0.length : Int) + 64)) then (if (wrap64 ((l0.length : Int) + 64)) ≤ (l0.length : Int) then (pleatref00_SpareLongs.l0 k (l0.take ((wrap64 ((l0.length : Int) + 64)) : Int).toNat) (l0.length : Int)) else (none)) else (none)
theorem pleatref00_SpareLongs.mono_l : ∀ k, (∀ y0 y1, LeO (pleatref00_SpareLongs.l0 k y0 y1) (pleatref00_SpareLongs.l0 (k + 1) y0 y1))
 | 0 => fun _ _ r h => by simp [pleatref00_SpareLongs.l0] at h
 | k + 1 => by
  have ih0 := pleatref00_SpareLongs.mono_l k
  ·
   intro y0 y1
   unfold pleatref00_SpareLongs.l0
   repeat' first
   | (with_reducible first | exact ih0 _ _ | exact LeO.refl _ | exact LeO.none _ | refine LeO.ite ?_ ?_ | refine LeO.bind ?_ (fun _ => ?_))
theorem pleatref00_SpareLongs.mono : ∀ a0 k, LeO (pleatref00_SpareLongs.f k a0) (pleatref00_SpareLongs.f (k + 1) a0) := by
 intro a0 k
 have ih0 := pleatref00_SpareLongs.mono_l k
 unfold pleatref00_SpareLongs.f
 repeat' first
   | (with_reducible first | exact ih0 _ _ | exact LeO.refl _ | exact LeO.none _ | refine LeO.ite ?_ ?_ | refine LeO.bind ?_ (fun _ => ?_))
set_option maxHeartbeats 8000000 in
set_option maxRecDepth 100000 in
theorem pleatref00_SpareLongs.callsS (k : Nat) (A0 : Option Addr) (c0 n0 : Nat) (y_0 : List Int) (r : Bool) (w : World) (hr0 : Kd.C (Kd.int .i64) w A0 y_0.length y_0) (hn : y_0.length = n0 + 64) (hn2 : n0 ≤ 1000000000000000) (hc0 : n0 + 64 ≤ c0) (h : pleatref00_SpareLongs.l0 k y_0 (n0 : Int) = some r) (hrt : r = true) :
  Calls Tryz.prog 37 #[.slice A0 n0 c0] w fun e w' => e = .returned (.bool r) ∧ Drawn0 w w' := by
 have HRT := Aside0.mk hrt
 have HR431 := Aside0.mk hr0
 have H' := Aside0.mk h
 have HB := Aside0.mk (Below.refl w.heap.size w)
 obtain ⟨ji2, hji2⟩ : ∃ j_ : Int, (wrap64 ((n0 : Int) + 64)) = j_ := ⟨_, rfl⟩
 have hjv : ji2 = (y_0.length : Int) := by rw [← hji2, wrap64_id (by omega) (by omega), hn]; omega
 have hji2w : (IntKind.i64.wrap ((n0 : Int) + 64)) = ji2 := (i64_w _).trans hji2
 have c3b0 := eq_true (show 0 ≤ ji2 by omega)
 obtain ⟨i0_, hi05, _, _, _⟩ := info_parts info2
 have hcut5 := cut_wide (P := Tryz.prog) 23 2 .i64 Tryz.underlying23 hi05 A0 n0 c0 ji2 (by omega) (by omega)
 rw [show ji2.toNat = y_0.length by omega] at hcut5
 clear hrt hr0 h hjv hi05 hc0 hn
 go_enter Tryz.func37, Tryz.ntmps37
 go_wp2
 go_loopg [4] k (fun kq v4 w' => ∃ (x4_1 : Int), v4 = .int .i64 x4_1 ∧ Aside0 (pleatref00_SpareLongs.l0 kq y_0 x4_1 = some r) ∧ Aside0 (kq ≤ k) ∧ Drawn0 w w')
 case atStart => exact ⟨((n0 : Int)), (by first | rfl | (simp; done) | (simp [*]; done)), H', ⟨Nat.le_refl _⟩, by repeat (first | exact Drawn0.refl _ | apply Drawn0.step)⟩
 case round =>
  clear H'
  try clear p2
  try clear c3
  try clear c3b0
  try clear c3b1
  try clear c4
  try clear c4b0
  try clear c4b1
  obtain ⟨x4_1, rfl, HA, HK1, ⟨m1, rfl⟩⟩ := hrel
  cases gk with
  | zero => exact absurd HA.out (by simp [pleatref00_SpareLongs.l0])
  | succ k1 =>
   have H := HA.out
   clear HA
   simp only [pleatref00_SpareLongs.l0] at H
   by_cases c6 : x4_1 < (y_0.length : Int)
   ·
    rw [if_pos c6] at H
    have c6b0 : decide (x4_1 < (y_0.length : Int)) = true := decide_eq_true c6
    clear c6
    by_cases c7 : 0 ≤ x4_1
    ·
     rw [if_pos c7] at H
     have c7b0 : decide (0 ≤ x4_1) = true := decide_eq_true c7
     clear c7
     replace H := Option.bind_eq_some_iff.mp H
     obtain ⟨t433, A80, H⟩ := H
     try dsimp only at H
     have A8 := Aside0.mk A80
     clear A80
     by_cases c9 : ((rd y_0 x4_1) = t433)
     ·
      rw [if_pos c9] at H
      have c9b0 : ((rd y_0 x4_1) == t433) = true := beq_iff_eq.mpr c9
      have c9b1 : ((rd y_0 x4_1) != t433) = false := bne_eq_false_iff_eq.mpr c9
      clear c9
      have H' := Aside0.mk H
      clear H
      have p432 : 0 ≤ (x4_1 : Int) := of_decide_eq_true ‹_›
      have q432 : x4_1 < (y_0.length : Int) := of_decide_eq_true ‹_›
      obtain ⟨ad432, e432, hx432_0⟩ := Kd.at_int HR431.out x4_1 p432 q432
      cases e432
      replace p432 := eq_true p432
      replace q432 := eq_true q432
      go_wp2_with (first | ((with_reducible refine gate_callee (f := 79) rfl ?_); refine goesL_ (some 25) rfl rfl Tryz.func79 (by kernel_rfl) rfl #[.int .i64 9, .int .i64 x4_1] rfl (by (try simp only [List.map_toArray, List.map_cons, List.map_nil]); try rfl) ?_; (with_reducible refine (pleatref00_num.calls 9 x4_1 t433 _ A8.out).mono ?_); rintro e w' ⟨rfl, ⟨nd, rfl⟩⟩; refine ⟨_, rfl, ?_⟩))
      go_roundg k1
      case measure => have := HK1.out; omega
      case rel => exact ⟨(wrap64 (x4_1 + 1)), (by first | rfl | (simp; done) | (simp [*]; done)), H', ⟨by have := HK1.out; omega⟩, by repeat (first | exact Drawn0.refl _ | apply Drawn0.step)⟩
     ·
      rw [if_neg c9] at H
      exact absurd ((Option.some.inj H).trans HRT.out) (by decide)
    ·
     rw [if_neg c7] at H
     exact absurd H (by simp)
   ·
    rw [if_neg c6] at H
    have c6b0 : decide (x4_1 < (y_0.length : Int)) = false := decide_eq_false c6
    clear c6
    obtain rfl := Option.some.inj H
    go_wp2
    go_ret
    exact ⟨by first | rfl | (simp; done) | (simp only [← hji2] <;> (first | rfl | simp)) | (simp [*]; done), by repeat (first | exact Drawn0.refl _ | apply Drawn0.step)⟩


/-! ### pleatref00_SpareSymbols: function 38 -/
def pleatref00_SpareSymbols.l0 : Nat → List (S65) → Int → Option (Bool)
 | 0, _, _ => none
 | k + 1, x3, x4 => if x4 < (x3.length : Int) then (if 0 ≤ x4 then ((pleatref00_num.f 9 x4).bind fun t440 => (if (((((rd_T65 x3 x4).f0).toList) == ([] : List UInt8) && (((rd_T65 x3 x4).f1) == 0 && (((rd_T65 x3 x4).f2) == t440))) = true) then (pleatref00_SpareSymbols.l0 k x3 (wrap64 (x4 + 1))) else (some false))) else (none)) else (some true)
def pleatref00_SpareSymbols.f (k : Nat) (l0 : List (S65)) : Option (Bool) := if 0 ≤ (wrap64 ((l0.length : Int) + 64)) then (if (wrap64 ((l0.length : Int) + 64)) ≤ (l0.length : Int) then (pleatref00_SpareSymbols.l0 k (l0.take ((wrap64 ((l0.length : Int) + 64)) : Int).toNat) (l0.length : Int)) else (none)) else (none)
theorem pleatref00_SpareSymbols.mono_l : ∀ k, (∀ y0 y1, LeO (pleatref00_SpareSymbols.l0 k y0 y1) (pleatref00_SpareSymbols.l0 (k + 1) y0 y1))
 | 0 => fun _ _ r h => by simp [pleatref00_SpareSymbols.l0] at h
 | k + 1 => by
  have ih0 := pleatref00_SpareSymbols.mono_l k
  ·
   intro y0 y1
   unfold pleatref00_SpareSymbols.l0
   repeat' first
   | (with_reducible first | exact ih0 _ _ | exact LeO.refl _ | exact LeO.none _ | refine LeO.ite ?_ ?_ | refine LeO.bind ?_ (fun _ => ?_))
theorem pleatref00_SpareSymbols.mono : ∀ a0 k, LeO (pleatref00_SpareSymbols.f k a0) (pleatref00_SpareSymbols.f (k + 1) a0) := by
 intro a0 k
 have ih0 := pleatref00_SpareSymbols.mono_l k
 unfold pleatref00_SpareSymbols.f
 repeat' first
   | (with_reducible first | exact ih0 _ _ | exact LeO.refl _ | exact LeO.none _ | refine LeO.ite ?_ ?_ | refine LeO.bind ?_ (fun _ => ?_))
set_option maxHeartbeats 8000000 in
set_option maxRecDepth 100000 in
theorem pleatref00_SpareSymbols.callsS (k : Nat) (A0 : Option Addr) (c0 n0 : Nat) (y434 : List (S65)) (r : Bool) (w : World) (hr0 : Kd.C k65 w A0 y434.length y434) (hn : y434.length = n0 + 64) (hn2 : n0 ≤ 1000000000000000) (hc0 : n0 + 64 ≤ c0) (h : pleatref00_SpareSymbols.l0 k y434 (n0 : Int) = some r) (hrt : r = true) :
  Calls Tryz.prog 38 #[.slice A0 n0 c0] w fun e w' => e = .returned (.bool r) ∧ Below w.heap.size w w' := by
 have hu65 := Tryz.underlying65
 have HRT := Aside0.mk hrt
 have HR437 := Aside0.mk hr0
 have H' := Aside0.mk h
 have HB := Aside0.mk (Below.refl w.heap.size w)
 obtain ⟨ji2, hji2⟩ : ∃ j_ : Int, (wrap64 ((n0 : Int) + 64)) = j_ := ⟨_, rfl⟩
 have hjv : ji2 = (y434.length : Int) := by rw [← hji2, wrap64_id (by omega) (by omega), hn]; omega
 have hji2w : (IntKind.i64.wrap ((n0 : Int) + 64)) = ji2 := (i64_w _).trans hji2
 have c3b0 := eq_true (show 0 ≤ ji2 by omega)
 obtain ⟨i0_, hi05, _, _, _⟩ := info_parts info65
 have hcut5 := cut_wide (P := Tryz.prog) 24 65 .i64 Tryz.underlying24 hi05 A0 n0 c0 ji2 (by omega) (by omega)
 rw [show ji2.toNat = y434.length by omega] at hcut5
 clear hrt hr0 h hjv hi05 hc0 hn
 go_enter Tryz.func38, Tryz.ntmps38
 go_wp2
 repeat (go_quiet (fail); try go_wp2)
 go_loopg [4] k (fun kq v4 w' => ∃ (x4_1 : Int), v4 = .int .i64 x4_1 ∧ Aside0 (pleatref00_SpareSymbols.l0 kq y434 x4_1 = some r) ∧ Aside0 (kq ≤ k) ∧ Aside0 (Below w.heap.size w w'))
 case atStart => exact ⟨((n0 : Int)), (by first | rfl | (simp; done) | (simp [*]; done)), H', ⟨Nat.le_refl _⟩, ⟨bwQ HB.out⟩⟩
 case round =>
  clear H'
  try clear p2
  try clear c3
  try clear c3b0
  try clear c3b1
  try clear c4
  try clear c4b0
  try clear c4b1
  try clear q5
  try clear q5
  obtain ⟨x4_1, rfl, HA, HK1, HB⟩ := hrel
  cases gk with
  | zero => exact absurd HA.out (by simp [pleatref00_SpareSymbols.l0])
  | succ k1 =>
   have H := HA.out
   clear HA
   simp only [pleatref00_SpareSymbols.l0] at H
   by_cases c6 : x4_1 < (y434.length : Int)
   ·
    rw [if_pos c6] at H
    have c6b0 : decide (x4_1 < (y434.length : Int)) = true := decide_eq_true c6
    clear c6
    by_cases c7 : 0 ≤ x4_1
    ·
     rw [if_pos c7] at H
     have c7b0 : decide (0 ≤ x4_1) = true := decide_eq_true c7
     clear c7
     replace H := Option.bind_eq_some_iff.mp H
     obtain ⟨t440, A80, H⟩ := H
     try dsimp only at H
     have A8 := Aside0.mk A80
     clear A80
     by_cases c9 : (((((rd_T65 y434 x4_1).f0).toList) == ([] : List UInt8) && (((rd_T65 y434 x4_1).f1) == 0 && (((rd_T65 y434 x4_1).f2) == t440))) = true)
     ·
      rw [if_pos c9] at H
      obtain ⟨ce0, ce1, ce2⟩ : (rd_T65 y434 x4_1).f0.toList.isEmpty = true ∧ ((rd_T65 y434 x4_1).f1 == 0) = true ∧ ((rd_T65 y434 x4_1).f2 == t440) = true := by simpa using c9
      have c9b0 : ((((rd_T65 y434 x4_1).f0).toList) == ([] : List UInt8) && (((rd_T65 y434 x4_1).f1) == 0 && (((rd_T65 y434 x4_1).f2) == t440))) = true := c9
      (try (have c9b1 : decide ((((rd_T65 y434 x4_1).f0).toList) = ([] : List UInt8) && (((rd_T65 y434 x4_1).f1) == 0 && (((rd_T65 y434 x4_1).f2) == t440))) = true := by simpa using c9))
      (try (have c9b2 : ((((rd_T65 y434 x4_1).f0).toList) == ([] : List UInt8) && (((rd_T65 y434 x4_1).f1) == 0 && (((rd_T65 y434 x4_1).f2) == t440))) = true := by simpa using c9))
      clear c9
      have H' := Aside0.mk H
      clear H
      have p438 : 0 ≤ (x4_1 : Int) := of_decide_eq_true ‹_›
      have q438 : x4_1 < (y434.length : Int) := of_decide_eq_true ‹_›
      obtain ⟨ad438, e438, hx438_0, hx438_1, hx438_2⟩ := atQ65 HR437.out HB.out x4_1 p438 q438
      cases e438
      replace p438 := eq_true p438
      replace q438 := eq_true q438
      go_wp2_with (first | ((with_reducible refine gate_dst (N := 5) rfl ?_); refine box_event ?hg (N := 5) ?hd (cs := #[.string (⟨#[]⟩ : ByteArray), .int .i8 0, .int .i64 0]) (t := 65) ?hr ?_; (case hd => rfl); (case hg => rfl); (case hr => go_simp; try rfl); intro gb439 hg w10 hbox hb; have BK439 := Aside0.mk (hbox); have GW439 := Aside0.mk (gwQ hg HB.out); have GE439 := Aside0.mk (gwQ hg HB.out); replace HB := Aside0.mk (bsQ hb HB.out); clear hb hbox hg; obtain ⟨hcz11_0, hcz11_1, hcz11_2⟩ := bcQ3 BK439.out; obtain ⟨hfz11_0, hfz11_1, hfz11_2⟩ := fzQ3 BK439.out) | (go_at_call 79; (with_reducible refine (pleatref00_num.calls 9 x4_1 t440 _ A8.out).mono ?_); rintro e w' ⟨rfl, ⟨nd, rfl⟩⟩; (try first | exact ⟨rfl, _, World.drewN_drewN _ _ _⟩ | exact ⟨rfl, _, Eq.trans (World.drewN_drewN _ _ _) (congrArg (World.drewN _) (Nat.add_assoc _ _ _))⟩)))
      repeat (go_quiet (first | ((with_reducible refine gate_dst (N := 5) rfl ?_); refine box_event ?hg (N := 5) ?hd (cs := #[.string (⟨#[]⟩ : ByteArray), .int .i8 0, .int .i64 0]) (t := 65) ?hr ?_; (case hd => rfl); (case hg => rfl); (case hr => go_simp; try rfl); intro gb439 hg w10 hbox hb; have BK439 := Aside0.mk (hbox); have GW439 := Aside0.mk (gwQ hg HB.out); have GE439 := Aside0.mk (gwQ hg HB.out); replace HB := Aside0.mk (bsQ hb HB.out); clear hb hbox hg; obtain ⟨hcz11_0, hcz11_1, hcz11_2⟩ := bcQ3 BK439.out; obtain ⟨hfz11_0, hfz11_1, hfz11_2⟩ := fzQ3 BK439.out) | (go_at_call 79; (with_reducible refine (pleatref00_num.calls 9 x4_1 t440 _ A8.out).mono ?_); rintro e w' ⟨rfl, ⟨nd, rfl⟩⟩; (try first | exact ⟨rfl, _, World.drewN_drewN _ _ _⟩ | exact ⟨rfl, _, Eq.trans (World.drewN_drewN _ _ _) (congrArg (World.drewN _) (Nat.add_assoc _ _ _))⟩))); try go_wp2_with (first | ((with_reducible refine gate_dst (N := 5) rfl ?_); refine box_event ?hg (N := 5) ?hd (cs := #[.string (⟨#[]⟩ : ByteArray), .int .i8 0, .int .i64 0]) (t := 65) ?hr ?_; (case hd => rfl); (case hg => rfl); (case hr => go_simp; try rfl); intro gb439 hg w10 hbox hb; have BK439 := Aside0.mk (hbox); have GW439 := Aside0.mk (gwQ hg HB.out); have GE439 := Aside0.mk (gwQ hg HB.out); replace HB := Aside0.mk (bsQ hb HB.out); clear hb hbox hg; obtain ⟨hcz11_0, hcz11_1, hcz11_2⟩ := bcQ3 BK439.out; obtain ⟨hfz11_0, hfz11_1, hfz11_2⟩ := fzQ3 BK439.out) | (go_at_call 79; (with_reducible refine (pleatref00_num.calls 9 x4_1 t440 _ A8.out).mono ?_); rintro e w' ⟨rfl, ⟨nd, rfl⟩⟩; (try first | exact ⟨rfl, _, World.drewN_drewN _ _ _⟩ | exact ⟨rfl, _, Eq.trans (World.drewN_drewN _ _ _) (congrArg (World.drewN _) (Nat.add_assoc _ _ _))⟩))))
      go_roundg k1
      case measure => have := HK1.out; omega
      case rel => exact ⟨(wrap64 (x4_1 + 1)), (by first | rfl | (simp; done) | (simp [*]; done)), H', ⟨by have := HK1.out; omega⟩, ⟨by repeat with_reducible first | exact HB.out | apply pw_below_drewN | apply below_drew1 | refine below_set ?_ GE439.out⟩⟩
     ·
      rw [if_neg c9] at H
      exact absurd ((Option.some.inj H).trans HRT.out) (by decide)
    ·
     rw [if_neg c7] at H
     exact absurd H (by simp)
   ·
    rw [if_neg c6] at H
    have c6b0 : decide (x4_1 < (y434.length : Int)) = false := decide_eq_false c6
    clear c6
    obtain rfl := Option.some.inj H
    go_wp2
    repeat (go_quiet (fail); try go_wp2)
    go_ret
    exact ⟨by first | rfl | (simp [errW_none, errW_some] <;> rfl) | (simp only [← hji2]; first | rfl | (simp [errW_none, errW_some] <;> rfl)) | (simp [*, errW_none, errW_some] <;> rfl), bwQ HB.out⟩


/-! ### pleatref00_SpareRelocs: function 39 -/
def pleatref00_SpareRelocs.l0 : Nat → List (S82) → Int → Option (Bool)
 | 0, _, _ => none
 | k + 1, x3, x4 => if x4 < (x3.length : Int) then (if 0 ≤ x4 then ((pleatref00_num.f 9 x4).bind fun t447 => (if ((((rd_T82 x3 x4).f0) == t447 && (((rd_T82 x3 x4).f1) == 0)) = true) then (pleatref00_SpareRelocs.l0 k x3 (wrap64 (x4 + 1))) else (some false))) else (none)) else (some true)
def pleatref00_SpareRelocs.f (k : Nat) (l0 : List (S82)) : Option (Bool) := if 0 ≤ (wrap64 ((l0.length : Int) + 64)) then (if (wrap64 ((l0.length : Int) + 64)) ≤ (l0.length : Int) then (pleatref00_SpareRelocs.l0 k (l0.take ((wrap64 ((l0.length : Int) + 64)) : Int).toNat) (l0.length : Int)) else (none)) else (none)
theorem pleatref00_SpareRelocs.mono_l : ∀ k, (∀ y0 y1, LeO (pleatref00_SpareRelocs.l0 k y0 y1) (pleatref00_SpareRelocs.l0 (k + 1) y0 y1))
 | 0 => fun _ _ r h => by simp [pleatref00_SpareRelocs.l0] at h
 | k + 1 => by
  have ih0 := pleatref00_SpareRelocs.mono_l k
  ·
   intro y0 y1
   unfold pleatref00_SpareRelocs.l0
   repeat' first
   | (with_reducible first | exact ih0 _ _ | exact LeO.refl _ | exact LeO.none _ | refine LeO.ite ?_ ?_ | refine LeO.bind ?_ (fun _ => ?_))
theorem pleatref00_SpareRelocs.mono : ∀ a0 k, LeO (pleatref00_SpareRelocs.f k a0) (pleatref00_SpareRelocs.f (k + 1) a0) := by
 intro a0 k
 have ih0 := pleatref00_SpareRelocs.mono_l k
 unfold pleatref00_SpareRelocs.f
 repeat' first
   | (with_reducible first | exact ih0 _ _ | exact LeO.refl _ | exact LeO.none _ | refine LeO.ite ?_ ?_ | refine LeO.bind ?_ (fun _ => ?_))
set_option maxHeartbeats 8000000 in
set_option maxRecDepth 100000 in
theorem pleatref00_SpareRelocs.callsS (k : Nat) (A0 : Option Addr) (c0 n0 : Nat) (y441 : List (S82)) (r : Bool) (w : World) (hr0 : Kd.C k82 w A0 y441.length y441) (hn : y441.length = n0 + 64) (hn2 : n0 ≤ 1000000000000000) (hc0 : n0 + 64 ≤ c0) (h : pleatref00_SpareRelocs.l0 k y441 (n0 : Int) = some r) (hrt : r = true) :
  Calls Tryz.prog 39 #[.slice A0 n0 c0] w fun e w' => e = .returned (.bool r) ∧ Below w.heap.size w w' := by
 have hu82 := Tryz.underlying82
 have HRT := Aside0.mk hrt
 have HR444 := Aside0.mk hr0
 have H' := Aside0.mk h
 have HB := Aside0.mk (Below.refl w.heap.size w)
 obtain ⟨ji2, hji2⟩ : ∃ j_ : Int, (wrap64 ((n0 : Int) + 64)) = j_ := ⟨_, rfl⟩
 have hjv : ji2 = (y441.length : Int) := by rw [← hji2, wrap64_id (by omega) (by omega), hn]; omega
 have hji2w : (IntKind.i64.wrap ((n0 : Int) + 64)) = ji2 := (i64_w _).trans hji2
 have c3b0 := eq_true (show 0 ≤ ji2 by omega)
 obtain ⟨i0_, hi05, _, _, _⟩ := info_parts info82
 have hcut5 := cut_wide (P := Tryz.prog) 25 82 .i64 Tryz.underlying25 hi05 A0 n0 c0 ji2 (by omega) (by omega)
 rw [show ji2.toNat = y441.length by omega] at hcut5
 clear hrt hr0 h hjv hi05 hc0 hn
 go_enter Tryz.func39, Tryz.ntmps39
 go_wp2
 repeat (go_quiet (fail); try go_wp2)
 go_loopg [4] k (fun kq v4 w' => ∃ (x4_1 : Int), v4 = .int .i64 x4_1 ∧ Aside0 (pleatref00_SpareRelocs.l0 kq y441 x4_1 = some r) ∧ Aside0 (kq ≤ k) ∧ Aside0 (Below w.heap.size w w'))
 case atStart => exact ⟨((n0 : Int)), (by first | rfl | (simp; done) | (simp [*]; done)), H', ⟨Nat.le_refl _⟩, ⟨bwQ HB.out⟩⟩
 case round =>
  clear H'
  try clear p2
  try clear c3
  try clear c3b0
  try clear c3b1
  try clear c4
  try clear c4b0
  try clear c4b1
  try clear q5
  try clear q5
  obtain ⟨x4_1, rfl, HA, HK1, HB⟩ := hrel
  cases gk with
  | zero => exact absurd HA.out (by simp [pleatref00_SpareRelocs.l0])
  | succ k1 =>
   have H := HA.out
   clear HA
   simp only [pleatref00_SpareRelocs.l0] at H
   by_cases c6 : x4_1 < (y441.length : Int)
   ·
    rw [if_pos c6] at H
    have c6b0 : decide (x4_1 < (y441.length : Int)) = true := decide_eq_true c6
    clear c6
    by_cases c7 : 0 ≤ x4_1
    ·
     rw [if_pos c7] at H
     have c7b0 : decide (0 ≤ x4_1) = true := decide_eq_true c7
     clear c7
     replace H := Option.bind_eq_some_iff.mp H
     obtain ⟨t447, A80, H⟩ := H
     try dsimp only at H
     have A8 := Aside0.mk A80
     clear A80
     by_cases c9 : ((((rd_T82 y441 x4_1).f0) == t447 && (((rd_T82 y441 x4_1).f1) == 0)) = true)
     ·
      rw [if_pos c9] at H
      have c9b0 : (((rd_T82 y441 x4_1).f0) == t447 && (((rd_T82 y441 x4_1).f1) == 0)) = true := c9
      (try (have c9b1 : decide (((rd_T82 y441 x4_1).f0) = t447 && (((rd_T82 y441 x4_1).f1) == 0)) = true := by simpa using c9))
      (try (have c9b2 : (((rd_T82 y441 x4_1).f0) == t447 && (((rd_T82 y441 x4_1).f1) == 0)) = true := by simpa using c9))
      clear c9
      have H' := Aside0.mk H
      clear H
      have p445 : 0 ≤ (x4_1 : Int) := of_decide_eq_true ‹_›
      have q445 : x4_1 < (y441.length : Int) := of_decide_eq_true ‹_›
      obtain ⟨ad445, e445, hx445_0, hx445_1⟩ := atQ82 HR444.out HB.out x4_1 p445 q445
      cases e445
      replace p445 := eq_true p445
      replace q445 := eq_true q445
      go_wp2_with (first | ((with_reducible refine gate_dst (N := 5) rfl ?_); refine box_event ?hg (N := 5) ?hd (cs := #[.int .i64 0, .int .i64 0]) (t := 82) ?hr ?_; (case hd => rfl); (case hg => rfl); (case hr => go_simp; try rfl); intro gb446 hg w10 hbox hb; have BK446 := Aside0.mk (hbox); have GW446 := Aside0.mk (gwQ hg HB.out); have GE446 := Aside0.mk (gwQ hg HB.out); replace HB := Aside0.mk (bsQ hb HB.out); clear hb hbox hg; obtain ⟨hcz11_0, hcz11_1⟩ := bcQ2 BK446.out; obtain ⟨hfz11_0, hfz11_1⟩ := fzQ2 BK446.out) | (go_at_call 79; (with_reducible refine (pleatref00_num.calls 9 x4_1 t447 _ A8.out).mono ?_); rintro e w' ⟨rfl, ⟨nd, rfl⟩⟩; (try first | exact ⟨rfl, _, World.drewN_drewN _ _ _⟩ | exact ⟨rfl, _, Eq.trans (World.drewN_drewN _ _ _) (congrArg (World.drewN _) (Nat.add_assoc _ _ _))⟩)))
      repeat (go_quiet (first | ((with_reducible refine gate_dst (N := 5) rfl ?_); refine box_event ?hg (N := 5) ?hd (cs := #[.int .i64 0, .int .i64 0]) (t := 82) ?hr ?_; (case hd => rfl); (case hg => rfl); (case hr => go_simp; try rfl); intro gb446 hg w10 hbox hb; have BK446 := Aside0.mk (hbox); have GW446 := Aside0.mk (gwQ hg HB.out); have GE446 := Aside0.mk (gwQ hg HB.out); replace HB := Aside0.mk (bsQ hb HB.out); clear hb hbox hg; obtain ⟨hcz11_0, hcz11_1⟩ := bcQ2 BK446.out; obtain ⟨hfz11_0, hfz11_1⟩ := fzQ2 BK446.out) | (go_at_call 79; (with_reducible refine (pleatref00_num.calls 9 x4_1 t447 _ A8.out).mono ?_); rintro e w' ⟨rfl, ⟨nd, rfl⟩⟩; (try first | exact ⟨rfl, _, World.drewN_drewN _ _ _⟩ | exact ⟨rfl, _, Eq.trans (World.drewN_drewN _ _ _) (congrArg (World.drewN _) (Nat.add_assoc _ _ _))⟩))); try go_wp2_with (first | ((with_reducible refine gate_dst (N := 5) rfl ?_); refine box_event ?hg (N := 5) ?hd (cs := #[.int .i64 0, .int .i64 0]) (t := 82) ?hr ?_; (case hd => rfl); (case hg => rfl); (case hr => go_simp; try rfl); intro gb446 hg w10 hbox hb; have BK446 := Aside0.mk (hbox); have GW446 := Aside0.mk (gwQ hg HB.out); have GE446 := Aside0.mk (gwQ hg HB.out); replace HB := Aside0.mk (bsQ hb HB.out); clear hb hbox hg; obtain ⟨hcz11_0, hcz11_1⟩ := bcQ2 BK446.out; obtain ⟨hfz11_0, hfz11_1⟩ := fzQ2 BK446.out) | (go_at_call 79; (with_reducible refine (pleatref00_num.calls 9 x4_1 t447 _ A8.out).mono ?_); rintro e w' ⟨rfl, ⟨nd, rfl⟩⟩; (try first | exact ⟨rfl, _, World.drewN_drewN _ _ _⟩ | exact ⟨rfl, _, Eq.trans (World.drewN_drewN _ _ _) (congrArg (World.drewN _) (Nat.add_assoc _ _ _))⟩))))
      go_roundg k1
      case measure => have := HK1.out; omega
      case rel => exact ⟨(wrap64 (x4_1 + 1)), (by first | rfl | (simp; done) | (simp [*]; done)), H', ⟨by have := HK1.out; omega⟩, ⟨by repeat with_reducible first | exact HB.out | apply pw_below_drewN | apply below_drew1 | refine below_set ?_ GE446.out⟩⟩
     ·
      rw [if_neg c9] at H
      exact absurd ((Option.some.inj H).trans HRT.out) (by decide)
    ·
     rw [if_neg c7] at H
     exact absurd H (by simp)
   ·
    rw [if_neg c6] at H
    have c6b0 : decide (x4_1 < (y441.length : Int)) = false := decide_eq_false c6
    clear c6
    obtain rfl := Option.some.inj H
    go_wp2
    repeat (go_quiet (fail); try go_wp2)
    go_ret
    exact ⟨by first | rfl | (simp [errW_none, errW_some] <;> rfl) | (simp only [← hji2]; first | rfl | (simp [errW_none, errW_some] <;> rfl)) | (simp [*, errW_none, errW_some] <;> rfl), bwQ HB.out⟩
end Go.Proofs.YtiaohbbafaaibabGreatDoor.P

/- OWN TEXT: an object whose lists have marks behind them: what makes it, and what looks at the marks. -/
namespace Go.Proofs.YtiaohbbafaaibabGreatDoor.P
open Go.RowKit Go.Maps Go.Proofs.YtiaohbbafaaibabGreatDoorW.PrintWords Go.Proofs.YtiaohbbafaaibabGreatDoorW.PrintLast Go.Proofs.YtiaohbbafaaibabGreatDoorW.PrintMore Go.Proofs.YtiaohbbafaaibabGreatDoor.Arr Go.Proofs.YtiaohbbafaaibabGreatDoor.MapB
set_option linter.unusedVariables false
set_option linter.unusedSimpArgs false

theorem WideC.R {α : Type} {d : Kd α} {e : Nat} {W : World} {base : Nat} {v : Value} {l : List α} {mk : Nat → α} (h : WideC d e W base v l mk) : Kd.R d e W base (fun _ => True) v l := by
 obtain ⟨A, c, rfl, hR⟩ := h
 have := Kd.R_take (m := l.length) hR (by rw [List.length_append]; omega)
 rwa [List.take_left'] at this
 rfl
theorem WideC.put {α : Type} {d : Kd α} {e : Nat} {W W1 : World} {base : Nat} {v : Value} {l : List α} {mk : Nat → α} (h : WideC d e W base v l mk) (hE : d.E = []) {g t : Nat} {cs cs' : Array Value} {t' : TypeId} (hb : W.heap[g]? = some (.cells cs t (0, 0))) (hne : e ≠ t) (hp : Put W W1 g cs' t') : WideC d e W1 base v l mk := by
 obtain ⟨A, c, rfl, hR⟩ := h
 exact ⟨A, c, rfl, Kd.R_grown1 hR hE (put_grownN hp) (Kd.R_ne hR hb hne)⟩
theorem WideC.slice {α : Type} {d : Kd α} {e : Nat} {W : World} {base : Nat} {v : Value} {l : List α} {mk : Nat → α} (h : WideC d e W base v l mk) : ∃ A c, v = .slice A l.length c := by
 obtain ⟨A, c, h1, _⟩ := h
 exact ⟨A, c, h1⟩
theorem sizeSlWords (W : World) : (sizeOf 22).run Tryz.prog W = .ok 1 W := by kernel_rfl
theorem sizeSlLongs (W : World) : (sizeOf 23).run Tryz.prog W = .ok 1 W := by kernel_rfl
theorem sizeSlSymbols (W : World) : (sizeOf 24).run Tryz.prog W = .ok 1 W := by kernel_rfl
theorem sizeSlRelocs (W : World) : (sizeOf 25).run Tryz.prog W = .ok 1 W := by kernel_rfl
theorem obj_one (s : ByteArray) (A1 : Option Addr) (n1 c1 : Nat) (a : Int) (A3 : Option Addr) (n3 c3 : Nat) (A4 : Option Addr) (n4 c4 : Nat) (A5 : Option Addr) (n5 c5 : Nat) : ((#[.string s, .slice A1 n1 c1, .int .i64 a, .slice A3 n3 c3, .slice A4 n4 c4, .slice A5 n5 c5] : Array Value).all fun v => v.oneCell') = true := by kernel_rfl

theorem wideWords_l {l : List Int} (hl : l.length ≤ 1000000000) : ∀ d : Nat, ∀ x : List Int, ∀ i : Nat, i + d = l.length + 64 → FillW l (fun i => markN i % 4294967296) x (i : Int) → Ev (fun k => pleatref00_WideWords.l0 k l x (i : Int)) l := by
 intro d
 induction d with
 | zero =>
  intro x i hi hf
  have hx := hf.done (decide_eq_false (by have := hf.len; omega))
  refine Ev.succ (Ev.iteF (by have := hf.len; omega) (Ev.iteT (by omega) (Ev.iteT (by have := hf.len; omega) (Ev.val ?_))))
  rw [hx]
  simp
 | succ d ih =>
  intro x i hi hf
  have hw : wrap64 ((i : Int) + 1) = ((i + 1 : Nat) : Int) := by rw [wrap64_id (by omega) (by omega)]; rfl
  refine Ev.succ (Ev.iteT (by have := hf.len; omega) (Ev.ite2 (fun h => Ev.iteT (by omega) ?_) (fun h => ?_)))
  ·
   have hf2 := hf.copy (decide_eq_true h) (getW (z := 0) hf.lo (decide_eq_true h)) rfl
   rw [hw] at hf2
   simp only [hw]
   exact ih _ (i + 1) (by omega) hf2
  ·
   have hnum : pleatref00_num.f 9 (i : Int) = some (markN i) := by
    have : ∃ t, pleatref00_num.f 9 (i : Int) = some t := ⟨_, rfl⟩
    obtain ⟨t, ht⟩ := this
    rw [ht, numW (by omega) (by omega) ht, Int.toNat_natCast]
   have hf2 := hf.mark (decide_eq_false h) (decide_eq_true (by have := hf.len; omega)) rfl rfl
   rw [hw] at hf2
   refine Ev.bind0 hnum (Ev.iteT (by omega) ?_)
   simp only [hw]
   exact ih _ (i + 1) (by omega) hf2
theorem wideWords_ev {l : List Int} (hl : l.length ≤ 1000000000) : Ev (fun k => pleatref00_WideWords.f k l) l := by
 unfold pleatref00_WideWords.f
 have hw : wrap64 ((l.length : Int) + 64) = (l.length : Int) + 64 := wrap64_id (by omega) (by omega)
 simp only [hw]
 refine Ev.iteT (by omega) (Ev.iteT (by omega) ?_)
 exact wideWords_l hl (l.length + 64) _ 0 (by omega) (FillW.start (by omega) hw (decide_eq_true (by omega)) (decide_eq_true (by omega)) rfl)
theorem wideLongs_l {l : List Int} (hl : l.length ≤ 1000000000) : ∀ d : Nat, ∀ x : List Int, ∀ i : Nat, i + d = l.length + 64 → FillW l markN x (i : Int) → Ev (fun k => pleatref00_WideLongs.l0 k l x (i : Int)) l := by
 intro d
 induction d with
 | zero =>
  intro x i hi hf
  have hx := hf.done (decide_eq_false (by have := hf.len; omega))
  refine Ev.succ (Ev.iteF (by have := hf.len; omega) (Ev.iteT (by omega) (Ev.iteT (by have := hf.len; omega) (Ev.val ?_))))
  rw [hx]
  simp
 | succ d ih =>
  intro x i hi hf
  have hw : wrap64 ((i : Int) + 1) = ((i + 1 : Nat) : Int) := by rw [wrap64_id (by omega) (by omega)]; rfl
  refine Ev.succ (Ev.iteT (by have := hf.len; omega) (Ev.ite2 (fun h => Ev.iteT (by omega) ?_) (fun h => ?_)))
  ·
   have hf2 := hf.copy (decide_eq_true h) (getW (z := 0) hf.lo (decide_eq_true h)) rfl
   rw [hw] at hf2
   simp only [hw]
   exact ih _ (i + 1) (by omega) hf2
  ·
   have hnum : pleatref00_num.f 9 (i : Int) = some (markN i) := by
    have : ∃ t, pleatref00_num.f 9 (i : Int) = some t := ⟨_, rfl⟩
    obtain ⟨t, ht⟩ := this
    rw [ht, numW (by omega) (by omega) ht, Int.toNat_natCast]
   have hf2 := hf.mark (decide_eq_false h) (decide_eq_true (by have := hf.len; omega)) rfl rfl
   rw [hw] at hf2
   refine Ev.bind0 hnum (Ev.iteT (by omega) ?_)
   simp only [hw]
   exact ih _ (i + 1) (by omega) hf2
theorem wideLongs_ev {l : List Int} (hl : l.length ≤ 1000000000) : Ev (fun k => pleatref00_WideLongs.f k l) l := by
 unfold pleatref00_WideLongs.f
 have hw : wrap64 ((l.length : Int) + 64) = (l.length : Int) + 64 := wrap64_id (by omega) (by omega)
 simp only [hw]
 refine Ev.iteT (by omega) (Ev.iteT (by omega) ?_)
 exact wideLongs_l hl (l.length + 64) _ 0 (by omega) (FillW.start (by omega) hw (decide_eq_true (by omega)) (decide_eq_true (by omega)) rfl)
theorem wideSymbols_l {l : List S65} (hl : l.length ≤ 1000000000) : ∀ d : Nat, ∀ x : List S65, ∀ i : Nat, i + d = l.length + 64 → FillW l (fun i => (⟨⟨#[]⟩, 0, markN i⟩ : S65)) x (i : Int) → Ev (fun k => pleatref00_WideSymbols.l0 k l x (i : Int)) l := by
 intro d
 induction d with
 | zero =>
  intro x i hi hf
  have hx := hf.done (decide_eq_false (by have := hf.len; omega))
  refine Ev.succ (Ev.iteF (by have := hf.len; omega) (Ev.iteT (by omega) (Ev.iteT (by have := hf.len; omega) (Ev.val ?_))))
  rw [hx]
  simp
 | succ d ih =>
  intro x i hi hf
  have hw : wrap64 ((i : Int) + 1) = ((i + 1 : Nat) : Int) := by rw [wrap64_id (by omega) (by omega)]; rfl
  refine Ev.succ (Ev.iteT (by have := hf.len; omega) (Ev.ite2 (fun h => Ev.iteT (by omega) ?_) (fun h => ?_)))
  ·
   have hf2 := hf.copy (decide_eq_true h) (getW (z := z65) hf.lo (decide_eq_true h)) rfl
   rw [hw] at hf2
   simp only [hw]
   exact ih _ (i + 1) (by omega) hf2
  ·
   have hnum : pleatref00_num.f 9 (i : Int) = some (markN i) := by
    have : ∃ t, pleatref00_num.f 9 (i : Int) = some t := ⟨_, rfl⟩
    obtain ⟨t, ht⟩ := this
    rw [ht, numW (by omega) (by omega) ht, Int.toNat_natCast]
   have hf2 := hf.mark (decide_eq_false h) (decide_eq_true (by have := hf.len; omega)) rfl rfl
   rw [hw] at hf2
   refine Ev.bind0 hnum (Ev.iteT (by omega) ?_)
   simp only [hw]
   exact ih _ (i + 1) (by omega) hf2
theorem wideSymbols_ev {l : List S65} (hl : l.length ≤ 1000000000) : Ev (fun k => pleatref00_WideSymbols.f k l) l := by
 unfold pleatref00_WideSymbols.f
 have hw : wrap64 ((l.length : Int) + 64) = (l.length : Int) + 64 := wrap64_id (by omega) (by omega)
 simp only [hw]
 refine Ev.iteT (by omega) (Ev.iteT (by omega) ?_)
 exact wideSymbols_l hl (l.length + 64) _ 0 (by omega) (FillW.start (by omega) hw (decide_eq_true (by omega)) (decide_eq_true (by omega)) rfl)
theorem wideRelocs_l {l : List S82} (hl : l.length ≤ 1000000000) : ∀ d : Nat, ∀ x : List S82, ∀ i : Nat, i + d = l.length + 64 → FillW l (fun i => (⟨markN i, 0⟩ : S82)) x (i : Int) → Ev (fun k => pleatref00_WideRelocs.l0 k l x (i : Int)) l := by
 intro d
 induction d with
 | zero =>
  intro x i hi hf
  have hx := hf.done (decide_eq_false (by have := hf.len; omega))
  refine Ev.succ (Ev.iteF (by have := hf.len; omega) (Ev.iteT (by omega) (Ev.iteT (by have := hf.len; omega) (Ev.val ?_))))
  rw [hx]
  simp
 | succ d ih =>
  intro x i hi hf
  have hw : wrap64 ((i : Int) + 1) = ((i + 1 : Nat) : Int) := by rw [wrap64_id (by omega) (by omega)]; rfl
  refine Ev.succ (Ev.iteT (by have := hf.len; omega) (Ev.ite2 (fun h => Ev.iteT (by omega) ?_) (fun h => ?_)))
  ·
   have hf2 := hf.copy (decide_eq_true h) (getW (z := z82) hf.lo (decide_eq_true h)) rfl
   rw [hw] at hf2
   simp only [hw]
   exact ih _ (i + 1) (by omega) hf2
  ·
   have hnum : pleatref00_num.f 9 (i : Int) = some (markN i) := by
    have : ∃ t, pleatref00_num.f 9 (i : Int) = some t := ⟨_, rfl⟩
    obtain ⟨t, ht⟩ := this
    rw [ht, numW (by omega) (by omega) ht, Int.toNat_natCast]
   have hf2 := hf.mark (decide_eq_false h) (decide_eq_true (by have := hf.len; omega)) rfl rfl
   rw [hw] at hf2
   refine Ev.bind0 hnum (Ev.iteT (by omega) ?_)
   simp only [hw]
   exact ih _ (i + 1) (by omega) hf2
theorem wideRelocs_ev {l : List S82} (hl : l.length ≤ 1000000000) : Ev (fun k => pleatref00_WideRelocs.f k l) l := by
 unfold pleatref00_WideRelocs.f
 have hw : wrap64 ((l.length : Int) + 64) = (l.length : Int) + 64 := wrap64_id (by omega) (by omega)
 simp only [hw]
 refine Ev.iteT (by omega) (Ev.iteT (by omega) ?_)
 exact wideRelocs_l hl (l.length + 64) _ 0 (by omega) (FillW.start (by omega) hw (decide_eq_true (by omega)) (decide_eq_true (by omega)) rfl)
def smallO (a0_0 : ByteArray) (l0_1 : List Int) (a0_2 : Int) (l0_3 : List Int) (l0_4 : List S65) (l0_5 : List S82) : Bool := decide (l0_1.length ≤ 1000000000) && (decide (l0_3.length ≤ 1000000000) && (decide (l0_4.length ≤ 1000000000) && decide (l0_5.length ≤ 1000000000)))
def pleatref00_WideObject.f (a0_0 : ByteArray) (l0_1 : List Int) (a0_2 : Int) (l0_3 : List Int) (l0_4 : List S65) (l0_5 : List S82) : Option (ByteArray × List Int × Int × List Int × (List S65) × (List S82)) := if smallO a0_0 l0_1 a0_2 l0_3 l0_4 l0_5 = true then some (a0_0, l0_1, a0_2, l0_3, l0_4, l0_5) else none
/-- the lists of an object, each with its marks behind it. -/
structure WideO (W : World) (base : Nat) (v1 v3 v4 v5 : Value) (a0_0 : ByteArray) (l0_1 : List Int) (a0_2 : Int) (l0_3 : List Int) (l0_4 : List S65) (l0_5 : List S82) : Prop where
  w1 : WideC (Kd.int .u32) 78 W base v1 l0_1 (fun i => markN i % 4294967296)
  w3 : WideC (Kd.int .i64) 2 W base v3 l0_3 markN
  w4 : WideC k65 65 W base v4 l0_4 (fun i => (⟨⟨#[]⟩, 0, markN i⟩ : S65))
  w5 : WideC k82 82 W base v5 l0_5 (fun i => (⟨markN i, 0⟩ : S82))
theorem WideO.below {W W1 : World} {base : Nat} {v1 v3 v4 v5 : Value} {l0_1 : List Int} {l0_3 : List Int} {l0_4 : List S65} {l0_5 : List S82} {a0_0 : ByteArray} {a0_2 : Int} (h : WideO W base v1 v3 v4 v5 a0_0 l0_1 a0_2 l0_3 l0_4 l0_5) (hb : Below W.heap.size W W1) : WideO W1 base v1 v3 v4 v5 a0_0 l0_1 a0_2 l0_3 l0_4 l0_5 := ⟨h.w1.below hb, h.w3.below hb, h.w4.below hb, h.w5.below hb⟩
set_option maxHeartbeats 8000000 in
set_option maxRecDepth 100000 in
theorem pleatref00_WideObject.callsW (a0_0 : ByteArray) (A0_1 : Option Addr) (c0_1 : Nat) (l0_1 : List Int) (a0_2 : Int) (A0_3 : Option Addr) (c0_3 : Nat) (l0_3 : List Int) (A0_4 : Option Addr) (c0_4 : Nat) (l0_4 : List (S65)) (A0_5 : Option Addr) (c0_5 : Nat) (l0_5 : List (S82)) (r1 : ByteArray) (r2 : List Int) (r3 : Int) (r4 : List Int) (r5 : List S65) (r6 : List S82) (w : World) (hr0_1 : Kd.C (Kd.int .u32) w A0_1 l0_1.length l0_1) (hc0_1 : l0_1.length ≤ c0_1) (hr0_3 : Kd.C (Kd.int .i64) w A0_3 l0_3.length l0_3) (hc0_3 : l0_3.length ≤ c0_3) (hr0_4 : Kd.C k65 w A0_4 l0_4.length l0_4) (hc0_4 : l0_4.length ≤ c0_4) (hr0_5 : Kd.C k82 w A0_5 l0_5.length l0_5) (hc0_5 : l0_5.length ≤ c0_5) (h : pleatref00_WideObject.f a0_0 l0_1 a0_2 l0_3 l0_4 l0_5 = some (r1, r2, r3, r4, r5, r6)) :
  Calls Tryz.prog 7 #[.agg #[.string a0_0, .slice A0_1 l0_1.length c0_1, .int .i64 a0_2, .slice A0_3 l0_3.length c0_3, .slice A0_4 l0_4.length c0_4, .slice A0_5 l0_5.length c0_5]] w fun e w' => ∃ v0_ v1_ v2_ v3_ : Value, e = .returned (.agg #[.string r1, v0_, .int .i64 r3, v1_, v2_, v3_]) ∧ Kd.R (Kd.int .u32) 78 w' w.heap.size (fun _ => True) v0_ r2 ∧ Kd.R (Kd.int .i64) 2 w' w.heap.size (fun _ => True) v1_ r4 ∧ Kd.R k65 65 w' w.heap.size (fun _ => True) v2_ r5 ∧ Kd.R k82 82 w' w.heap.size (fun _ => True) v3_ r6 ∧ Below w.heap.size w w' ∧ WideO w' w.heap.size v0_ v1_ v2_ v3_ r1 r2 r3 r4 r5 r6 := by
 have hu1 := Tryz.underlying27
 unfold pleatref00_WideObject.f at h
 by_cases hs : smallO a0_0 l0_1 a0_2 l0_3 l0_4 l0_5 = true
 ·
  rw [if_pos hs] at h
  have h := Option.some.inj h
  injection h with e1 h
  injection h with e2 h
  injection h with e3 h
  injection h with e4 h
  injection h with e5 e6
  subst e1 e2 e3 e4 e5 e6
  unfold smallO at hs
  simp only [Bool.and_eq_true, decide_eq_true_eq] at hs
  obtain ⟨s1, s3, s4, s5⟩ := hs
  obtain ⟨k1, hk1⟩ := Ev.rounds (wideWords_ev s1)
  obtain ⟨k3, hk3⟩ := Ev.rounds (wideLongs_ev s3)
  obtain ⟨k4, hk4⟩ := Ev.rounds (wideSymbols_ev s4)
  obtain ⟨k5, hk5⟩ := Ev.rounds (wideRelocs_ev s5)
  have K1 := Aside0.mk hk1
  have K3 := Aside0.mk hk3
  have K4 := Aside0.mk hk4
  have K5 := Aside0.mk hk5
  have HR1 := Aside0.mk hr0_1
  have HC1 := Aside0.mk hc0_1
  have HR3 := Aside0.mk hr0_3
  have HC3 := Aside0.mk hc0_3
  have HR4 := Aside0.mk hr0_4
  have HC4 := Aside0.mk hc0_4
  have HR5 := Aside0.mk hr0_5
  have HC5 := Aside0.mk hc0_5
  have HB := Aside0.mk (Below.refl w.heap.size w)
  clear hr0_1 hc0_1 hr0_3 hc0_3 hr0_4 hc0_4 hr0_5 hc0_5 hk1 hk3 hk4 hk5 s1 s3 s4 s5
  go_enter Tryz.func7, Tryz.ntmps7
  go_wp2_with (first | ((with_reducible refine gate_dst (N := 1) rfl ?_); refine box_event ?hg (N := 1) ?hd (cs := #[.string a0_0, .slice A0_1 l0_1.length c0_1, .int .i64 a0_2, .slice A0_3 l0_3.length c0_3, .slice A0_4 l0_4.length c0_4, .slice A0_5 l0_5.length c0_5]) (t := 27) ?hr ?_; (case hd => rfl); (case hg => rfl); (case hr => first | (go_simp; done) | (go_simp; rfl)); intro gb hgb w1 BK1 hb1; have GB := Aside0.mk (show w.heap.size ≤ gb by rw [hgb]; exact HB.out.size); replace HB := Aside0.mk (below_then HB.out HB.out.size hb1); have BO := Aside0.mk BK1; clear hb1 hgb BK1; have hq0 := blk_cell BO.out 0; have hq1 := blk_cell BO.out 1; have hq2 := blk_cell BO.out 2; have hq3 := blk_cell BO.out 3; have hq4 := blk_cell BO.out 4; have hq5 := blk_cell BO.out 5) | ((with_reducible refine gate_dst (N := 2) rfl ?_); refine box_event ?hg (N := 2) ?hd (cs := #[.string (⟨#[]⟩ : ByteArray), .slice none 0 0, .int .i64 0, .slice none 0 0, .slice none 0 0, .slice none 0 0]) (t := 27) ?hr ?_; (case hd => rfl); (case hg => rfl); (case hr => first | (go_simp; done) | (go_simp; rfl)); intro gr hgr w2 BK2 hb2; have GR := Aside0.mk (show w.heap.size ≤ gr by rw [hgr]; exact HB.out.size); have NR := Aside0.mk (show gb < gr by rw [hgr]; exact blk_lt BO.out); replace HB := Aside0.mk (below_then HB.out HB.out.size hb2); replace BO := Aside0.mk (blk_below BO.out hb2); have BR := Aside0.mk BK2; clear hb2 hgr BK2 hq0 hq1 hq2 hq3 hq4 hq5; have hq0 := blk_cell BO.out 0; have hq1 := blk_cell BO.out 1; have hq2 := blk_cell BO.out 2; have hq3 := blk_cell BO.out 3; have hq4 := blk_cell BO.out 4; have hq5 := blk_cell BO.out 5) | (go_at_call 21; refine (pleatref00_WideWords.callsW k1 A0_1 c0_1 l0_1 l0_1 _ (Kd.C_below HR1.out HB.out) HC1.out K1.out).mono ?_; rintro e wc1 ⟨v1, rfl, _, hb, hw⟩; have hw := Aside0.mk (hw.lower (base' := w.heap.size) HB.out.size); have HBn := Aside0.mk (below_then HB.out HB.out.size hb); have BOn := Aside0.mk (blk_below BO.out hb); have BRn := Aside0.mk (blk_below BR.out hb); clear HB BO BR hq0 hq1 hq2 hq3 hq4 hq5; have HB := HBn; have BO := BOn; have BR := BRn; have HW1 := hw; clear HBn BOn BRn hw hb; obtain ⟨Ao1, co1, eo1⟩ := HW1.out.slice; subst eo1; have hq0 := blk_cell BO.out 0; have hq1 := blk_cell BO.out 1; have hq2 := blk_cell BO.out 2; have hq3 := blk_cell BO.out 3; have hq4 := blk_cell BO.out 4; have hq5 := blk_cell BO.out 5) | ((with_reducible refine gate_store (t := 22) rfl ?_); refine wpList_store_arr rfl rfl rfl gb 1 _ _ (.slice Ao1 l0_1.length co1) rfl rfl rfl rfl (sizeSlWords _) BO.out (show 1 < 6 by decide) ?_; intro ws1 hp; replace HB := Aside0.mk (hp.below HB.out GB.out); have BOn := Aside0.mk (show ws1.heap[gb]? = some (.cells #[.string a0_0, .slice Ao1 l0_1.length co1, .int .i64 a0_2, .slice A0_3 l0_3.length c0_3, .slice A0_4 l0_4.length c0_4, .slice A0_5 l0_5.length c0_5] 27 (0, 0)) from hp.blk); replace BR := Aside0.mk (blk_grown BR.out (put_grownN hp) (fun e => by have := NR.out; have := Option.some.inj e; omega)); have HW1n := Aside0.mk (HW1.out.put rfl BO.out (by decide) hp); clear BO hq0 hq1 hq2 hq3 hq4 hq5 hp HW1; have BO := BOn; clear BOn; have HW1 := HW1n; clear HW1n; have hq0 := blk_cell BO.out 0; have hq1 := blk_cell BO.out 1; have hq2 := blk_cell BO.out 2; have hq3 := blk_cell BO.out 3; have hq4 := blk_cell BO.out 4; have hq5 := blk_cell BO.out 5) | (go_at_call 22; refine (pleatref00_WideLongs.callsW k3 A0_3 c0_3 l0_3 l0_3 _ (Kd.C_below HR3.out HB.out) HC3.out K3.out).mono ?_; rintro e wc3 ⟨v3, rfl, _, hb, hw⟩; have hw := Aside0.mk (hw.lower (base' := w.heap.size) HB.out.size); have HBn := Aside0.mk (below_then HB.out HB.out.size hb); have BOn := Aside0.mk (blk_below BO.out hb); have BRn := Aside0.mk (blk_below BR.out hb); replace HW1 := Aside0.mk (HW1.out.below hb); clear HB BO BR hq0 hq1 hq2 hq3 hq4 hq5; have HB := HBn; have BO := BOn; have BR := BRn; have HW3 := hw; clear HBn BOn BRn hw hb; obtain ⟨Ao3, co3, eo3⟩ := HW3.out.slice; subst eo3; have hq0 := blk_cell BO.out 0; have hq1 := blk_cell BO.out 1; have hq2 := blk_cell BO.out 2; have hq3 := blk_cell BO.out 3; have hq4 := blk_cell BO.out 4; have hq5 := blk_cell BO.out 5) | ((with_reducible refine gate_store (t := 23) rfl ?_); refine wpList_store_arr rfl rfl rfl gb 3 _ _ (.slice Ao3 l0_3.length co3) rfl rfl rfl rfl (sizeSlLongs _) BO.out (show 3 < 6 by decide) ?_; intro ws3 hp; replace HB := Aside0.mk (hp.below HB.out GB.out); have BOn := Aside0.mk (show ws3.heap[gb]? = some (.cells #[.string a0_0, .slice Ao1 l0_1.length co1, .int .i64 a0_2, .slice Ao3 l0_3.length co3, .slice A0_4 l0_4.length c0_4, .slice A0_5 l0_5.length c0_5] 27 (0, 0)) from hp.blk); replace BR := Aside0.mk (blk_grown BR.out (put_grownN hp) (fun e => by have := NR.out; have := Option.some.inj e; omega)); have HW1n := Aside0.mk (HW1.out.put rfl BO.out (by decide) hp); have HW3n := Aside0.mk (HW3.out.put rfl BO.out (by decide) hp); clear BO hq0 hq1 hq2 hq3 hq4 hq5 hp HW1 HW3; have BO := BOn; clear BOn; have HW1 := HW1n; clear HW1n; have HW3 := HW3n; clear HW3n; have hq0 := blk_cell BO.out 0; have hq1 := blk_cell BO.out 1; have hq2 := blk_cell BO.out 2; have hq3 := blk_cell BO.out 3; have hq4 := blk_cell BO.out 4; have hq5 := blk_cell BO.out 5) | (go_at_call 23; refine (pleatref00_WideSymbols.callsW k4 A0_4 c0_4 l0_4 l0_4 _ (Kd.C_below HR4.out HB.out) HC4.out K4.out).mono ?_; rintro e wc4 ⟨v4, rfl, _, hb, hw⟩; have hw := Aside0.mk (hw.lower (base' := w.heap.size) HB.out.size); have HBn := Aside0.mk (below_then HB.out HB.out.size hb); have BOn := Aside0.mk (blk_below BO.out hb); have BRn := Aside0.mk (blk_below BR.out hb); replace HW1 := Aside0.mk (HW1.out.below hb); have HW3n := Aside0.mk (HW3.out.below hb); clear HB BO BR hq0 hq1 hq2 hq3 hq4 hq5 HW3; have HW3 := HW3n; clear HW3n; have HB := HBn; have BO := BOn; have BR := BRn; have HW4 := hw; clear HBn BOn BRn hw hb; obtain ⟨Ao4, co4, eo4⟩ := HW4.out.slice; subst eo4; have hq0 := blk_cell BO.out 0; have hq1 := blk_cell BO.out 1; have hq2 := blk_cell BO.out 2; have hq3 := blk_cell BO.out 3; have hq4 := blk_cell BO.out 4; have hq5 := blk_cell BO.out 5) | ((with_reducible refine gate_store (t := 24) rfl ?_); refine wpList_store_arr rfl rfl rfl gb 4 _ _ (.slice Ao4 l0_4.length co4) rfl rfl rfl rfl (sizeSlSymbols _) BO.out (show 4 < 6 by decide) ?_; intro ws4 hp; replace HB := Aside0.mk (hp.below HB.out GB.out); have BOn := Aside0.mk (show ws4.heap[gb]? = some (.cells #[.string a0_0, .slice Ao1 l0_1.length co1, .int .i64 a0_2, .slice Ao3 l0_3.length co3, .slice Ao4 l0_4.length co4, .slice A0_5 l0_5.length c0_5] 27 (0, 0)) from hp.blk); replace BR := Aside0.mk (blk_grown BR.out (put_grownN hp) (fun e => by have := NR.out; have := Option.some.inj e; omega)); have HW1n := Aside0.mk (HW1.out.put rfl BO.out (by decide) hp); have HW3n := Aside0.mk (HW3.out.put rfl BO.out (by decide) hp); have HW4n := Aside0.mk (HW4.out.put rfl BO.out (by decide) hp); clear BO hq0 hq1 hq2 hq3 hq4 hq5 hp HW1 HW3 HW4; have BO := BOn; clear BOn; have HW1 := HW1n; clear HW1n; have HW3 := HW3n; clear HW3n; have HW4 := HW4n; clear HW4n; have hq0 := blk_cell BO.out 0; have hq1 := blk_cell BO.out 1; have hq2 := blk_cell BO.out 2; have hq3 := blk_cell BO.out 3; have hq4 := blk_cell BO.out 4; have hq5 := blk_cell BO.out 5) | (go_at_call 24; refine (pleatref00_WideRelocs.callsW k5 A0_5 c0_5 l0_5 l0_5 _ (Kd.C_below HR5.out HB.out) HC5.out K5.out).mono ?_; rintro e wc5 ⟨v5, rfl, _, hb, hw⟩; have hw := Aside0.mk (hw.lower (base' := w.heap.size) HB.out.size); have HBn := Aside0.mk (below_then HB.out HB.out.size hb); have BOn := Aside0.mk (blk_below BO.out hb); have BRn := Aside0.mk (blk_below BR.out hb); replace HW1 := Aside0.mk (HW1.out.below hb); have HW3n := Aside0.mk (HW3.out.below hb); have HW4n := Aside0.mk (HW4.out.below hb); clear HB BO BR hq0 hq1 hq2 hq3 hq4 hq5 HW3 HW4; have HW3 := HW3n; clear HW3n; have HW4 := HW4n; clear HW4n; have HB := HBn; have BO := BOn; have BR := BRn; have HW5 := hw; clear HBn BOn BRn hw hb; obtain ⟨Ao5, co5, eo5⟩ := HW5.out.slice; subst eo5; have hq0 := blk_cell BO.out 0; have hq1 := blk_cell BO.out 1; have hq2 := blk_cell BO.out 2; have hq3 := blk_cell BO.out 3; have hq4 := blk_cell BO.out 4; have hq5 := blk_cell BO.out 5) | ((with_reducible refine gate_store (t := 25) rfl ?_); refine wpList_store_arr rfl rfl rfl gb 5 _ _ (.slice Ao5 l0_5.length co5) rfl rfl rfl rfl (sizeSlRelocs _) BO.out (show 5 < 6 by decide) ?_; intro ws5 hp; replace HB := Aside0.mk (hp.below HB.out GB.out); have BOn := Aside0.mk (show ws5.heap[gb]? = some (.cells #[.string a0_0, .slice Ao1 l0_1.length co1, .int .i64 a0_2, .slice Ao3 l0_3.length co3, .slice Ao4 l0_4.length co4, .slice Ao5 l0_5.length co5] 27 (0, 0)) from hp.blk); replace BR := Aside0.mk (blk_grown BR.out (put_grownN hp) (fun e => by have := NR.out; have := Option.some.inj e; omega)); have HW1n := Aside0.mk (HW1.out.put rfl BO.out (by decide) hp); have HW3n := Aside0.mk (HW3.out.put rfl BO.out (by decide) hp); have HW4n := Aside0.mk (HW4.out.put rfl BO.out (by decide) hp); have HW5n := Aside0.mk (HW5.out.put rfl BO.out (by decide) hp); clear BO hq0 hq1 hq2 hq3 hq4 hq5 hp HW1 HW3 HW4 HW5; have BO := BOn; clear BOn; have HW1 := HW1n; clear HW1n; have HW3 := HW3n; clear HW3n; have HW4 := HW4n; clear HW4n; have HW5 := HW5n; clear HW5n; have hq0 := blk_cell BO.out 0; have hq1 := blk_cell BO.out 1; have hq2 := blk_cell BO.out 2; have hq3 := blk_cell BO.out 3; have hq4 := blk_cell BO.out 4; have hq5 := blk_cell BO.out 5) | ((with_reducible refine gate_store (t := 27) rfl ?_); refine wpList_store_whole rfl rfl rfl gr _ #[.string a0_0, .slice Ao1 l0_1.length co1, .int .i64 a0_2, .slice Ao3 l0_3.length co3, .slice Ao4 l0_4.length co4, .slice Ao5 l0_5.length co5] _ rfl rfl BR.out (by kernel_rfl) rfl (obj_one _ _ _ _ _ _ _ _ _ _ _ _ _ _) ?_; intro w9 hp; have HE := Aside0.mk (hp.below HB.out GR.out); have HP := Aside0.mk hp.blk; have HE1 := Aside0.mk (HW1.out.put rfl BR.out (by decide) hp); have HE3 := Aside0.mk (HW3.out.put rfl BR.out (by decide) hp); have HE4 := Aside0.mk (HW4.out.put rfl BR.out (by decide) hp); have HE5 := Aside0.mk (HW5.out.put rfl BR.out (by decide) hp); clear hp))
  refine bodyPost_ret (results_cell_row rfl _ _ gr 27 #[.string a0_0, .slice Ao1 l0_1.length co1, .int .i64 a0_2, .slice Ao3 l0_3.length co3, .slice Ao4 l0_4.length co4, .slice Ao5 l0_5.length co5] (0, 0) _ rfl HP.out Tryz.underlying27 rfl (by kernel_rfl)) rfl ?_
  exact ⟨_, _, _, _, rfl, HE1.out.R, HE3.out.R, HE4.out.R, HE5.out.R, HE.out, ⟨HE1.out, HE3.out, HE4.out, HE5.out⟩⟩
 ·
  rw [if_neg hs] at h; cases h
theorem pleatref00_WideObject.calls (a0_0 : ByteArray) (A0_1 : Option Addr) (c0_1 : Nat) (l0_1 : List Int) (a0_2 : Int) (A0_3 : Option Addr) (c0_3 : Nat) (l0_3 : List Int) (A0_4 : Option Addr) (c0_4 : Nat) (l0_4 : List (S65)) (A0_5 : Option Addr) (c0_5 : Nat) (l0_5 : List (S82)) (r1 : ByteArray) (r2 : List Int) (r3 : Int) (r4 : List Int) (r5 : List S65) (r6 : List S82) (w : World) (hr0_1 : Kd.C (Kd.int .u32) w A0_1 l0_1.length l0_1) (hc0_1 : l0_1.length ≤ c0_1) (hr0_3 : Kd.C (Kd.int .i64) w A0_3 l0_3.length l0_3) (hc0_3 : l0_3.length ≤ c0_3) (hr0_4 : Kd.C k65 w A0_4 l0_4.length l0_4) (hc0_4 : l0_4.length ≤ c0_4) (hr0_5 : Kd.C k82 w A0_5 l0_5.length l0_5) (hc0_5 : l0_5.length ≤ c0_5) (h : pleatref00_WideObject.f a0_0 l0_1 a0_2 l0_3 l0_4 l0_5 = some (r1, r2, r3, r4, r5, r6)) :
  Calls Tryz.prog 7 #[.agg #[.string a0_0, .slice A0_1 l0_1.length c0_1, .int .i64 a0_2, .slice A0_3 l0_3.length c0_3, .slice A0_4 l0_4.length c0_4, .slice A0_5 l0_5.length c0_5]] w fun e w' => ∃ v0_ v1_ v2_ v3_ : Value, e = .returned (.agg #[.string r1, v0_, .int .i64 r3, v1_, v2_, v3_]) ∧ Kd.R (Kd.int .u32) 78 w' w.heap.size (fun _ => True) v0_ r2 ∧ Kd.R (Kd.int .i64) 2 w' w.heap.size (fun _ => True) v1_ r4 ∧ Kd.R k65 65 w' w.heap.size (fun _ => True) v2_ r5 ∧ Kd.R k82 82 w' w.heap.size (fun _ => True) v3_ r6 ∧ Below w.heap.size w w' :=
 (pleatref00_WideObject.callsW a0_0 A0_1 c0_1 l0_1 a0_2 A0_3 c0_3 l0_3 A0_4 c0_4 l0_4 A0_5 c0_5 l0_5 r1 r2 r3 r4 r5 r6 w hr0_1 hc0_1 hr0_3 hc0_3 hr0_4 hc0_4 hr0_5 hc0_5 h).mono fun _ _ ⟨a, b, c, d, h1, h2, h3, h4, h5, h6, _⟩ => ⟨a, b, c, d, h1, h2, h3, h4, h5, h6⟩
end Go.Proofs.YtiaohbbafaaibabGreatDoor.P

/- OWN TEXT: what looks at the marks behind the lists of an object: they stand. -/
namespace Go.Proofs.YtiaohbbafaaibabGreatDoor.P
open Go.RowKit Go.Maps Go.Proofs.YtiaohbbafaaibabGreatDoorW.PrintWords Go.Proofs.YtiaohbbafaaibabGreatDoorW.PrintLast Go.Proofs.YtiaohbbafaaibabGreatDoorW.PrintMore Go.Proofs.YtiaohbbafaaibabGreatDoor.Arr Go.Proofs.YtiaohbbafaaibabGreatDoor.MapB
set_option linter.unusedVariables false
set_option linter.unusedSimpArgs false

theorem mark_get {α : Type} {l : List α} {mk : Nat → α} {z : α} {i : Nat} (h0 : l.length ≤ i) (h1 : i < l.length + 64) : (l ++ marksL mk l.length).getD i z = mk i := by
 rw [List.getD_eq_getElem?_getD, List.getElem?_append_right h0, marksL_at _ _ _ (by omega), show l.length + (i - l.length) = i by omega]
 rfl
theorem num_mark {i : Nat} (h : i ≤ 2000000000000000) : pleatref00_num.f 9 (i : Int) = some (markN i) := by
 have : ∃ t, pleatref00_num.f 9 (i : Int) = some t := ⟨_, rfl⟩
 obtain ⟨t, ht⟩ := this
 rw [ht, numW (by omega) (by omega) ht, Int.toNat_natCast]
theorem spareWords_ev {l : List Int} (hl : l.length ≤ 1000000000) : Ev (fun k => pleatref00_SpareWords.l0 k (l ++ marksL (fun i => markN i % 4294967296) l.length) (l.length : Int)) true := by
 have hlen : (l ++ marksL (fun i => markN i % 4294967296) l.length).length = l.length + 64 := by rw [List.length_append, marksL_length]
 have : ∀ d i : Nat, i + d = l.length + 64 → l.length ≤ i → Ev (fun k => pleatref00_SpareWords.l0 k (l ++ marksL (fun i => markN i % 4294967296) l.length) (i : Int)) true := by
  intro d
  induction d with
  | zero => intro i hi h0; exact Ev.succ (Ev.iteF (by omega) (Ev.val rfl))
  | succ d ih =>
   intro i hi h0
   have hw : wrap64 ((i : Int) + 1) = ((i + 1 : Nat) : Int) := by rw [wrap64_id (by omega) (by omega)]; rfl
   have hr : rd (l ++ marksL (fun i => markN i % 4294967296) l.length) (i : Int) = (fun i => markN i % 4294967296) i := by
    unfold rd
    rw [Int.toNat_natCast]
    exact mark_get h0 (by omega)
   refine Ev.succ (Ev.iteT (by omega) (Ev.iteT (by omega) (Ev.bind0 (num_mark (by omega)) (Ev.iteT (by rw [hr]) ?_))))
   simp only [hw]
   exact ih (i + 1) (by omega) (by omega)
 exact this 64 l.length rfl (Nat.le_refl _)
theorem spareLongs_ev {l : List Int} (hl : l.length ≤ 1000000000) : Ev (fun k => pleatref00_SpareLongs.l0 k (l ++ marksL markN l.length) (l.length : Int)) true := by
 have hlen : (l ++ marksL markN l.length).length = l.length + 64 := by rw [List.length_append, marksL_length]
 have : ∀ d i : Nat, i + d = l.length + 64 → l.length ≤ i → Ev (fun k => pleatref00_SpareLongs.l0 k (l ++ marksL markN l.length) (i : Int)) true := by
  intro d
  induction d with
  | zero => intro i hi h0; exact Ev.succ (Ev.iteF (by omega) (Ev.val rfl))
  | succ d ih =>
   intro i hi h0
   have hw : wrap64 ((i : Int) + 1) = ((i + 1 : Nat) : Int) := by rw [wrap64_id (by omega) (by omega)]; rfl
   have hr : rd (l ++ marksL markN l.length) (i : Int) = markN i := by
    unfold rd
    rw [Int.toNat_natCast]
    exact mark_get h0 (by omega)
   refine Ev.succ (Ev.iteT (by omega) (Ev.iteT (by omega) (Ev.bind0 (num_mark (by omega)) (Ev.iteT (by rw [hr]) ?_))))
   simp only [hw]
   exact ih (i + 1) (by omega) (by omega)
 exact this 64 l.length rfl (Nat.le_refl _)
theorem spareSymbols_ev {l : List S65} (hl : l.length ≤ 1000000000) : Ev (fun k => pleatref00_SpareSymbols.l0 k (l ++ marksL (fun i => (⟨⟨#[]⟩, 0, markN i⟩ : S65)) l.length) (l.length : Int)) true := by
 have hlen : (l ++ marksL (fun i => (⟨⟨#[]⟩, 0, markN i⟩ : S65)) l.length).length = l.length + 64 := by rw [List.length_append, marksL_length]
 have : ∀ d i : Nat, i + d = l.length + 64 → l.length ≤ i → Ev (fun k => pleatref00_SpareSymbols.l0 k (l ++ marksL (fun i => (⟨⟨#[]⟩, 0, markN i⟩ : S65)) l.length) (i : Int)) true := by
  intro d
  induction d with
  | zero => intro i hi h0; exact Ev.succ (Ev.iteF (by omega) (Ev.val rfl))
  | succ d ih =>
   intro i hi h0
   have hw : wrap64 ((i : Int) + 1) = ((i + 1 : Nat) : Int) := by rw [wrap64_id (by omega) (by omega)]; rfl
   have hr : rd_T65 (l ++ marksL (fun i => (⟨⟨#[]⟩, 0, markN i⟩ : S65)) l.length) (i : Int) = (fun i => (⟨⟨#[]⟩, 0, markN i⟩ : S65)) i := by
    unfold rd_T65
    rw [Int.toNat_natCast]
    exact mark_get h0 (by omega)
   refine Ev.succ (Ev.iteT (by omega) (Ev.iteT (by omega) (Ev.bind0 (num_mark (by omega)) (Ev.iteT (by rw [hr]; simp) ?_))))
   simp only [hw]
   exact ih (i + 1) (by omega) (by omega)
 exact this 64 l.length rfl (Nat.le_refl _)
theorem spareRelocs_ev {l : List S82} (hl : l.length ≤ 1000000000) : Ev (fun k => pleatref00_SpareRelocs.l0 k (l ++ marksL (fun i => (⟨markN i, 0⟩ : S82)) l.length) (l.length : Int)) true := by
 have hlen : (l ++ marksL (fun i => (⟨markN i, 0⟩ : S82)) l.length).length = l.length + 64 := by rw [List.length_append, marksL_length]
 have : ∀ d i : Nat, i + d = l.length + 64 → l.length ≤ i → Ev (fun k => pleatref00_SpareRelocs.l0 k (l ++ marksL (fun i => (⟨markN i, 0⟩ : S82)) l.length) (i : Int)) true := by
  intro d
  induction d with
  | zero => intro i hi h0; exact Ev.succ (Ev.iteF (by omega) (Ev.val rfl))
  | succ d ih =>
   intro i hi h0
   have hw : wrap64 ((i : Int) + 1) = ((i + 1 : Nat) : Int) := by rw [wrap64_id (by omega) (by omega)]; rfl
   have hr : rd_T82 (l ++ marksL (fun i => (⟨markN i, 0⟩ : S82)) l.length) (i : Int) = (fun i => (⟨markN i, 0⟩ : S82)) i := by
    unfold rd_T82
    rw [Int.toNat_natCast]
    exact mark_get h0 (by omega)
   refine Ev.succ (Ev.iteT (by omega) (Ev.iteT (by omega) (Ev.bind0 (num_mark (by omega)) (Ev.iteT (by rw [hr]; simp) ?_))))
   simp only [hw]
   exact ih (i + 1) (by omega) (by omega)
 exact this 64 l.length rfl (Nat.le_refl _)
def pleatref00_SpareObject.f (a0_0 : ByteArray) (l0_1 : List Int) (a0_2 : Int) (l0_3 : List Int) (l0_4 : List S65) (l0_5 : List S82) : Option Bool := if smallO a0_0 l0_1 a0_2 l0_3 l0_4 l0_5 = true then some true else none
theorem WideC.full {α : Type} {d : Kd α} {e : Nat} {W : World} {base : Nat} {A : Option Addr} {n c : Nat} {l : List α} {mk : Nat → α} (h : WideC d e W base (.slice A n c) l mk) : l.length + 64 ≤ c ∧ Kd.C d W A (l ++ marksL mk l.length).length (l ++ marksL mk l.length) := by
 obtain ⟨A', c', he, hR⟩ := h
 injection he with h1 h2 h3
 subst h1 h3
 obtain ⟨q1, q2, q3⟩ := Kd.R_reads' hR
 refine ⟨q2, ?_⟩
 rw [← q1]
 rw [← q1] at q3
 exact q3
set_option maxHeartbeats 8000000 in
set_option maxRecDepth 100000 in
theorem pleatref00_SpareObject.callsW (a0_0 : ByteArray) (A0_1 : Option Addr) (c0_1 : Nat) (l0_1 : List Int) (a0_2 : Int) (A0_3 : Option Addr) (c0_3 : Nat) (l0_3 : List Int) (A0_4 : Option Addr) (c0_4 : Nat) (l0_4 : List (S65)) (A0_5 : Option Addr) (c0_5 : Nat) (l0_5 : List (S82)) (r : Bool) (w : World) (hr0_1 : Kd.C (Kd.int .u32) w A0_1 l0_1.length l0_1) (hc0_1 : l0_1.length ≤ c0_1) (hr0_3 : Kd.C (Kd.int .i64) w A0_3 l0_3.length l0_3) (hc0_3 : l0_3.length ≤ c0_3) (hr0_4 : Kd.C k65 w A0_4 l0_4.length l0_4) (hc0_4 : l0_4.length ≤ c0_4) (hr0_5 : Kd.C k82 w A0_5 l0_5.length l0_5) (hc0_5 : l0_5.length ≤ c0_5) (h : pleatref00_SpareObject.f a0_0 l0_1 a0_2 l0_3 l0_4 l0_5 = some r) (hx : ∃ base, WideO w base (.slice A0_1 l0_1.length c0_1) (.slice A0_3 l0_3.length c0_3) (.slice A0_4 l0_4.length c0_4) (.slice A0_5 l0_5.length c0_5) a0_0 l0_1 a0_2 l0_3 l0_4 l0_5) :
  Calls Tryz.prog 12 #[.agg #[.string a0_0, .slice A0_1 l0_1.length c0_1, .int .i64 a0_2, .slice A0_3 l0_3.length c0_3, .slice A0_4 l0_4.length c0_4, .slice A0_5 l0_5.length c0_5]] w fun e w' => e = .returned (.bool r) ∧ Below w.heap.size w w' := by
 have hu1 := Tryz.underlying27
 unfold pleatref00_SpareObject.f at h
 by_cases hs : smallO a0_0 l0_1 a0_2 l0_3 l0_4 l0_5 = true
 ·
  rw [if_pos hs] at h
  have h := Option.some.inj h
  subst h
  unfold smallO at hs
  simp only [Bool.and_eq_true, decide_eq_true_eq] at hs
  obtain ⟨s1, s3, s4, s5⟩ := hs
  obtain ⟨base, hx⟩ := hx
  obtain ⟨k1, hk1⟩ := Ev.rounds (spareWords_ev s1)
  obtain ⟨k3, hk3⟩ := Ev.rounds (spareLongs_ev s3)
  obtain ⟨k4, hk4⟩ := Ev.rounds (spareSymbols_ev s4)
  obtain ⟨k5, hk5⟩ := Ev.rounds (spareRelocs_ev s5)
  have K1 := Aside0.mk hk1
  have K3 := Aside0.mk hk3
  have K4 := Aside0.mk hk4
  have K5 := Aside0.mk hk5
  have B1 := Aside0.mk (show l0_1.length ≤ 1000000000000000 by omega)
  have B3 := Aside0.mk (show l0_3.length ≤ 1000000000000000 by omega)
  have B4 := Aside0.mk (show l0_4.length ≤ 1000000000000000 by omega)
  have B5 := Aside0.mk (show l0_5.length ≤ 1000000000000000 by omega)
  have HX := Aside0.mk hx
  have HB := Aside0.mk (Below.refl w.heap.size w)
  clear hr0_1 hc0_1 hr0_3 hc0_3 hr0_4 hc0_4 hr0_5 hc0_5 hk1 hk3 hk4 hk5 s1 s3 s4 s5 hx
  go_enter Tryz.func12, Tryz.ntmps12
  go_wp2_with (first | ((with_reducible refine gate_dst (N := 1) rfl ?_); refine box_event ?hg (N := 1) ?hd (cs := #[.string a0_0, .slice A0_1 l0_1.length c0_1, .int .i64 a0_2, .slice A0_3 l0_3.length c0_3, .slice A0_4 l0_4.length c0_4, .slice A0_5 l0_5.length c0_5]) (t := 27) ?hr ?_; (case hd => rfl); (case hg => rfl); (case hr => first | (go_simp; done) | (go_simp; rfl)); intro gb hgb w1 BK1 hb1; replace HX := Aside0.mk (HX.out.below hb1); replace HB := Aside0.mk (below_then HB.out HB.out.size hb1); have BO := Aside0.mk (show w1.heap[gb]? = some (objCell a0_0 A0_1 l0_1.length c0_1 a0_2 A0_3 l0_3.length c0_3 A0_4 l0_4.length c0_4 A0_5 l0_5.length c0_5) from BK1); clear hb1 hgb BK1; have hq0 := blk_cell BO.out 0; have hq1 := blk_cell BO.out 1; have hq2 := blk_cell BO.out 2; have hq3 := blk_cell BO.out 3; have hq4 := blk_cell BO.out 4; have hq5 := blk_cell BO.out 5) | (go_at_call 36; refine (pleatref00_SpareWords.callsS k1 A0_1 c0_1 l0_1.length (l0_1 ++ marksL (fun i => markN i % 4294967296) l0_1.length) true _ HX.out.w1.full.2 (by rw [List.length_append, marksL_length]) B1.out HX.out.w1.full.1 K1.out rfl).mono ?_; rintro e w7 ⟨rfl, hd⟩; have hb := hd.below; replace HX := Aside0.mk (HX.out.below hb); replace HB := Aside0.mk (below_then HB.out HB.out.size hb); replace BO := Aside0.mk (blk_below BO.out hb); clear hb hq0 hq1 hq2 hq3 hq4 hq5 hd; have hq0 := blk_cell BO.out 0; have hq1 := blk_cell BO.out 1; have hq2 := blk_cell BO.out 2; have hq3 := blk_cell BO.out 3; have hq4 := blk_cell BO.out 4; have hq5 := blk_cell BO.out 5) | (go_at_call 37; refine (pleatref00_SpareLongs.callsS k3 A0_3 c0_3 l0_3.length (l0_3 ++ marksL markN l0_3.length) true _ HX.out.w3.full.2 (by rw [List.length_append, marksL_length]) B3.out HX.out.w3.full.1 K3.out rfl).mono ?_; rintro e w7 ⟨rfl, hd⟩; have hb := hd.below; replace HX := Aside0.mk (HX.out.below hb); replace HB := Aside0.mk (below_then HB.out HB.out.size hb); replace BO := Aside0.mk (blk_below BO.out hb); clear hb hq0 hq1 hq2 hq3 hq4 hq5 hd; have hq0 := blk_cell BO.out 0; have hq1 := blk_cell BO.out 1; have hq2 := blk_cell BO.out 2; have hq3 := blk_cell BO.out 3; have hq4 := blk_cell BO.out 4; have hq5 := blk_cell BO.out 5) | (go_at_call 38; refine (pleatref00_SpareSymbols.callsS k4 A0_4 c0_4 l0_4.length (l0_4 ++ marksL (fun i => (⟨⟨#[]⟩, 0, markN i⟩ : S65)) l0_4.length) true _ HX.out.w4.full.2 (by rw [List.length_append, marksL_length]) B4.out HX.out.w4.full.1 K4.out rfl).mono ?_; rintro e w7 ⟨rfl, hb⟩; replace HX := Aside0.mk (HX.out.below hb); replace HB := Aside0.mk (below_then HB.out HB.out.size hb); replace BO := Aside0.mk (blk_below BO.out hb); clear hb hq0 hq1 hq2 hq3 hq4 hq5; have hq0 := blk_cell BO.out 0; have hq1 := blk_cell BO.out 1; have hq2 := blk_cell BO.out 2; have hq3 := blk_cell BO.out 3; have hq4 := blk_cell BO.out 4; have hq5 := blk_cell BO.out 5) | (go_at_call 39; refine (pleatref00_SpareRelocs.callsS k5 A0_5 c0_5 l0_5.length (l0_5 ++ marksL (fun i => (⟨markN i, 0⟩ : S82)) l0_5.length) true _ HX.out.w5.full.2 (by rw [List.length_append, marksL_length]) B5.out HX.out.w5.full.1 K5.out rfl).mono ?_; rintro e w7 ⟨rfl, hb⟩; replace HX := Aside0.mk (HX.out.below hb); replace HB := Aside0.mk (below_then HB.out HB.out.size hb); replace BO := Aside0.mk (blk_below BO.out hb); clear hb hq0 hq1 hq2 hq3 hq4 hq5; have hq0 := blk_cell BO.out 0; have hq1 := blk_cell BO.out 1; have hq2 := blk_cell BO.out 2; have hq3 := blk_cell BO.out 3; have hq4 := blk_cell BO.out 4; have hq5 := blk_cell BO.out 5))
  go_ret
  exact ⟨rfl, HB.out⟩
 ·
  rw [if_neg hs] at h; cases h
end Go.Proofs.YtiaohbbafaaibabGreatDoor.P

/- OWN TEXT: objects over plain lists: names, what is found by a name or a place, the reference's check: all come to the same as the program's. -/
set_option linter.unusedVariables false
set_option linter.unusedSimpArgs false
namespace Go.Proofs.YtiaohbbafaaibabGreatDoor.P
open Go.RowKit Go.Maps Go.Proofs.YtiaohbbafaaibabGreatDoorW.PrintWords Go.Proofs.YtiaohbbafaaibabGreatDoorW.PrintLast Go.Proofs.YtiaohbbafaaibabGreatDoorW.PrintMore Go.Proofs.YtiaohbbafaaibabGreatDoor.MapB

theorem Ev.upto {α : Type} {g : Nat → Int → Option α} {r : α} {n : Nat} (p : Nat → Prop) (step : ∀ i : Nat, i < n → p i → (p (i + 1) → Ev (fun k => g k ((i + 1 : Nat) : Int)) r) → Ev (fun k => g k (i : Int)) r) (last : p n → Ev (fun k => g k (n : Int)) r) : ∀ i : Nat, i ≤ n → p i → Ev (fun k => g k (i : Int)) r := by
  have : ∀ d i : Nat, i + d = n → p i → Ev (fun k => g k (i : Int)) r := by
    intro d
    induction d with
    | zero => intro i hi hp; obtain rfl : i = n := by omega
              exact last hp
    | succ d ih => intro i hi hp; exact step i (by omega) hp (ih (i + 1) (by omega))
  intro i hi
  exact this (n - i) i (by omega)
theorem wrapS {i n : Nat} (hi : i < n) (hn : n ≤ 1000000000) : wrap64 ((i : Int) + 1) = ((i + 1 : Nat) : Int) := by rw [wrap64_id (by omega) (by omega)]; rfl
theorem sy_get {l : List Sym} {i : Nat} (h : i < l.length) : rd_T65 l (i : Int) = l[i] := by
 unfold rd_T65
 simp [List.getD_eq_getElem?_getD, List.getElem?_eq_getElem h]
theorem rl_get {l : List Rel} {i : Nat} (h : i < l.length) : rd_T82 l (i : Int) = l[i] := by
 unfold rd_T82
 simp [List.getD_eq_getElem?_getD, List.getElem?_eq_getElem h]
theorem sy_at {l : List Sym} {i : Nat} (h : i < l.length) : sy l i = l[i] := sy_get h
theorem rl_at {l : List Rel} {i : Nat} (h : i < l.length) : rl l i = l[i] := rl_get h
theorem toList_loop (s : ByteArray) : ∀ (d i : Nat) (r : List UInt8), i + d = s.size → ByteArray.toList.loop s i r = r.reverse ++ s.data.toList.drop i := by
 intro d
 induction d with
 | zero =>
  intro i r hi
  rw [ByteArray.toList.loop, if_neg (by omega), List.drop_eq_nil_of_le (by rw [data_length]; omega), List.append_nil]
 | succ d ih =>
  intro i r hi
  have hlt : i < s.data.toList.length := by rw [data_length]; omega
  rw [ByteArray.toList.loop, if_pos (by omega), ih (i + 1) _ (by omega), List.drop_eq_getElem_cons hlt, List.reverse_cons, List.append_assoc]
  have e : s.get! i = s.data.toList[i] := by
   have h2 : i < s.data.size := by simpa using hlt
   simp only [ByteArray.get!]
   exact getElem!_pos s.data i h2
  rw [e]
  rfl
theorem toList_eq (s : ByteArray) : s.toList = s.data.toList := by
 have := toList_loop s s.size 0 [] (by omega)
 simpa [ByteArray.toList] using this
theorem toList_inj {a b : ByteArray} : a.toList = b.toList ↔ a = b := by
 rw [toList_eq, toList_eq]
 constructor
 ·
  intro h
  have : a.data = b.data := Array.toList_inj.1 h
  cases a; cases b; simp at this; subst this; rfl
 ·
  intro h; rw [h]
theorem key_inj {a b : ByteArray} : (keyN a).sameKey (keyN b) = true ↔ a = b := by
 unfold keyN
 show (a.data.toList == b.data.toList) = true ↔ _
 rw [beq_iff_eq, ← toList_eq, ← toList_eq]
 exact toList_inj
theorem seen_iff (l : List Sym) (s : ByteArray) : ∀ i, nameSeen l i (keyN s) = true ↔ ∃ j, j < i ∧ (sy l j).f0 = s
  | 0 => by simp [nameSeen]
  | i + 1 => by
    show addS (nameSeen l i) (keyN (sy l i).f0) (keyN s) = true ↔ _
    unfold addS
    rw [Bool.or_eq_true, seen_iff l s i, key_inj]
    constructor
    · rintro (h | ⟨j, hj, h⟩)
      · exact ⟨i, by omega, h.symm⟩
      · exact ⟨j, by omega, h⟩
    · rintro ⟨j, hj, h⟩
      by_cases e : j = i
      · subst e; exact .inl h.symm
      · exact .inr ⟨j, by omega, h⟩

def ofN (nm : ByteArray) : List Sym → Nat → Int
 | [], _ => -1
 | s :: r, i => if s.f0.toList = nm.toList then (i : Int) else ofN nm r (i + 1)
def atN (p : Int) : List Rel → Nat → Int
 | [], _ => -1
 | s :: r, i => if s.f0 = p then (i : Int) else atN p r (i + 1)
/-- it is i just if none before it has the name, where i itself has it. -/
theorem ofN_at (nm : ByteArray) : ∀ (l : List Sym) (b i : Nat), (h : i < l.length) → l[i].f0 = nm → (∀ j, (hj : j < i) → (l[j]'(by omega)).f0 ≠ nm) → ofN nm l b = ((b + i : Nat) : Int)
  | s :: r, b, 0, h, hn, _ => by
    unfold ofN
    rw [if_pos (by rw [← hn]; rfl)]
    rfl
  | s :: r, b, i + 1, h, hn, hb => by
    unfold ofN
    have h0 : s.f0 ≠ nm := hb 0 (by omega)
    rw [if_neg (fun e => h0 (toList_inj.1 e)), ofN_at nm r (b + 1) i (by simpa using h) (by simpa using hn) (fun j hj => by have := hb (j + 1) (by omega); simpa using this)]
    congr 1
    omega
theorem ofN_lt (nm : ByteArray) : ∀ (l : List Sym) (b j : Nat), (h : j < l.length) → l[j].f0 = nm → ofN nm l b ≤ ((b + j : Nat) : Int)
  | s :: r, b, j, h, hn => by
    unfold ofN
    by_cases c : s.f0.toList = nm.toList
    · rw [if_pos c]; omega
    · rw [if_neg c]
      cases j with
      | zero => exact absurd (toList_inj.2 hn) c
      | succ j =>
        have := ofN_lt nm r (b + 1) j (by simpa using h) (by simpa using hn)
        omega
theorem ofN_seen {l : List Sym} {i : Nat} (h : i < l.length) : ofN (sy l i).f0 l 0 = (i : Int) ↔ nameSeen l i (keyN (sy l i).f0) = false := by
 rw [← Bool.not_eq_true, seen_iff]
 constructor
 ·
  rintro e ⟨j, hj, hn⟩
  rw [sy_at (by omega)] at hn
  have := ofN_lt (sy l i).f0 l 0 j (by omega) hn
  omega
 ·
  intro hn
  have := ofN_at (sy l i).f0 l 0 i h (by rw [sy_at h]) (fun j hj e => hn ⟨j, hj, by rw [sy_at (by omega)]; exact e⟩)
  rw [this]
  simp

theorem mark_of {l : List Rel} {k : Nat} : ∀ {n : Nat}, markB l n k = true → ∃ j, j < n ∧ k = (rl l j).f0.toNat
  | 0, h => by cases h
  | n + 1, h => by
    have h : (decide (k = (rl l n).f0.toNat) || markB l n k) = true := h
    rw [Bool.or_eq_true, decide_eq_true_eq] at h
    rcases h with h | h
    · exact ⟨n, by omega, h⟩
    · obtain ⟨j, hj, e⟩ := mark_of h
      exact ⟨j, by omega, e⟩
theorem relE_ok {code : List Int} {ns : Int} {l : List Rel} {i : Nat} (h : relE code ns l i = 0) : lastR l i < (rl l i).f0 ∧ (rl l i).f0 < (code.length : Int) ∧ 0 ≤ (rl l i).f1 ∧ (rl l i).f1 < ns ∧ (tgtS (rd code (rl l i).f0)).2 = true ∧ (tgtS (rd code (rl l i).f0)).1 = 0 := by
 rw [relE_eq] at h
 split at h
 ·
  exact absurd h (by decide)
 split at h
 ·
  exact absurd h (by decide)
 split at h
 ·
  exact absurd h (by decide)
 split at h
 ·
  exact absurd h (by decide)
 split at h
 ·
  rename_i h5
  split at h
  ·
   rename_i h6
   exact ⟨by omega, by omega, by omega, by omega, h5, h6⟩
  ·
   exact absurd h (by decide)
 ·
  exact absurd h (by decide)
theorem scan_plain {code : List Int} {ns : Int} {l : List Rel} (hz : ∀ j, j < l.length → relE code ns l j = 0) (k : Nat) : scanE code (markB l l.length) k = if (tgtS (rd code (k : Int))).2 = true then (if (tgtS (rd code (k : Int))).1 > (code.length : Int) then 22 else 0) else 0 := by
 rw [scanE_eq]
 by_cases h : (tgtS (rd code (k : Int))).2 = true
 ·
  rw [if_pos h, if_pos h]
  by_cases hn : markB l l.length k = true
  ·
   rw [if_pos hn]
   obtain ⟨j, hj, e⟩ := mark_of hn
   obtain ⟨h1, _, _, _, _, h6⟩ := relE_ok (hz j hj)
   have hlo := lastR_lo code ns l j (fun q hq => hz q (by omega))
   rw [show ((rl l j).f0) = (k : Int) by omega] at h6
   rw [if_neg (by omega)]
  ·
   rw [if_neg hn]
 ·
  rw [if_neg h, if_neg h]
theorem firstS_iff {g : Nat → Int} {n : Nat} (h : (firstS g n n).1 = 0) : ∀ j, j < n → g j = 0 := by
  intro j hj
  have key : ∀ d i, i + d = n → (∀ q, q < i → g q = 0) → ∀ q, q < n → g q = 0 := by
    intro d
    induction d with
    | zero => intro i hi hz q hq; exact hz q (by omega)
    | succ d ih =>
      intro i hi hz q hq
      by_cases e : g i = 0
      · exact ih (i + 1) (by omega) (fun p hp => by
          by_cases e2 : p = i
          · rw [e2]; exact e
          · exact hz p (by omega)) q hq
      · rw [firstS_at (by omega) hz e] at h
        exact absurd h e
  exact key n 0 (by omega) (fun q hq => absurd hq (Nat.not_lt_zero _)) j hj
end Go.Proofs.YtiaohbbafaaibabGreatDoor.P

/- OWN TEXT: what holds in an object that may be, over plain lists; a word more, a relocation less, a symbol twice. -/
set_option linter.unusedVariables false
set_option linter.unusedSimpArgs false
namespace Go.Proofs.YtiaohbbafaaibabGreatDoor.P
open Go.RowKit Go.Maps Go.Proofs.YtiaohbbafaaibabGreatDoorW.PrintWords Go.Proofs.YtiaohbbafaaibabGreatDoorW.PrintLast Go.Proofs.YtiaohbbafaaibabGreatDoorW.PrintMore Go.Proofs.YtiaohbbafaaibabGreatDoor.MapB

def plainE (code : List Int) (k : Nat) : Int := if (tgtS (rd code (k : Int))).2 = true then (if (tgtS (rd code (k : Int))).1 > (code.length : Int) then 22 else 0) else 0
structure OkO (nm : ByteArray) (code : List Int) (dat : Int) (data : List Int) (syms : List Sym) (rels : List Rel) : Prop where
  osize : (sizeS nm code dat data syms.length rels.length).1 = 0
  osyms : ∀ j, j < syms.length → symE syms (code.length : Int) j = 0
  orels : ∀ j, j < rels.length → relE code (syms.length : Int) rels j = 0
  oscan : ∀ k, k < code.length → plainE code k = 0
section
variable {nm : ByteArray} {code : List Int} {dat : Int} {data : List Int} {syms : List Sym} {rels : List Rel}
theorem scanS_iff {g : Nat → Int} {n : Nat} (h : (scanS g n n).1 = 0) : ∀ j, j < n → g j = 0 := by
  intro j hj
  have key : ∀ d i, i + d = n → (∀ q, q < i → g q = 0) → ∀ q, q < n → g q = 0 := by
    intro d
    induction d with
    | zero => intro i hi hz q hq; exact hz q (by omega)
    | succ d ih =>
      intro i hi hz q hq
      by_cases e : g i = 0
      · exact ih (i + 1) (by omega) (fun p hp => by
          by_cases e2 : p = i
          · rw [e2]; exact e
          · exact hz p (by omega)) q hq
      · rw [scanS_at (by omega) hz e] at h
        exact absurd h e
  exact key n 0 (by omega) (fun q hq => absurd hq (Nat.not_lt_zero _)) j hj
theorem okO_of (h : (chkO nm code dat data syms rels).1 = 0) : OkO nm code dat data syms rels := by
 unfold chkO at h
 by_cases h1 : (sizeS nm code dat data syms.length rels.length).1 = 0
 ·
  rw [if_pos h1] at h
  by_cases h2 : (symsS syms (code.length : Int)).1 = 0
  ·
   rw [if_pos h2] at h
   by_cases h3 : (relocsS code (syms.length : Int) rels).1 = 0
   ·
    have hs := firstS_iff (g := symE syms (code.length : Int)) h2
    have hr : ∀ j, j < rels.length → relE code (syms.length : Int) rels j = 0 := by
     unfold relocsS at h3
     by_cases h4 : (firstS (relE code (syms.length : Int) rels) rels.length rels.length).1 = 0
     ·
      exact firstS_iff h4
     ·
      rw [if_neg h4] at h3; exact absurd h3 h4
    rw [relocs_scan hr] at h3
    have hk := scanS_iff h3
    exact ⟨h1, hs, hr, fun k hk' => (scan_plain hr k).symm.trans (hk k hk')⟩
   ·
    rw [if_neg h3] at h; exact absurd h h3
  ·
   rw [if_neg h2] at h; exact absurd h h2
 ·
  rw [if_neg h1] at h; exact absurd h h1
theorem symE_ok {l : List Sym} {n : Int} {i : Nat} (h : symE l n i = 0) : nameS (sy l i).f0 = true ∧ nameSeen l i (keyN (sy l i).f0) = false ∧ 0 ≤ (sy l i).f1 ∧ (sy l i).f1 ≤ 3 ∧ 0 ≤ (sy l i).f2 ∧ (sy l i).f2 ≤ n ∧ ((sy l i).f1 = 3 → (sy l i).f2 = 0) := by
 rw [symE_eq] at h
 split at h
 ·
  rename_i h0
  refine ⟨h0, ?_⟩
  split at h
  ·
   exact absurd h (by decide)
  rename_i h1
  refine ⟨by simpa using h1, ?_⟩
  split at h
  ·
   exact absurd h (by decide)
  split at h
  ·
   exact absurd h (by decide)
  split at h
  ·
   exact absurd h (by decide)
  split at h
  ·
   exact absurd h (by decide)
  split at h
  ·
   split at h
   ·
    exact ⟨by omega, by omega, by omega, by omega, fun _ => by assumption⟩
   ·
    exact absurd h (by decide)
  ·
   exact ⟨by omega, by omega, by omega, by omega, fun e => by contradiction⟩
 ·
  exact absurd h (by decide)
theorem symE_mk {l : List Sym} {n : Int} {i : Nat} (h0 : nameS (sy l i).f0 = true) (h1 : nameSeen l i (keyN (sy l i).f0) = false) (h2 : 0 ≤ (sy l i).f1) (h3 : (sy l i).f1 ≤ 3) (h4 : 0 ≤ (sy l i).f2) (h5 : (sy l i).f2 ≤ n) (h6 : (sy l i).f1 = 3 → (sy l i).f2 = 0) : symE l n i = 0 := by
 rw [symE_eq, if_pos h0, if_neg (by rw [h1]; decide), if_neg (by omega), if_neg (by omega), if_neg (by omega), if_neg (by omega)]
 by_cases c : (sy l i).f1 = 3
 ·
  rw [if_pos c, if_pos (h6 c)]
 ·
  rw [if_neg c]
theorem relE_mk {l : List Rel} {ns : Int} {i : Nat} (h1 : lastR l i < (rl l i).f0) (h2 : (rl l i).f0 < (code.length : Int)) (h3 : 0 ≤ (rl l i).f1) (h4 : (rl l i).f1 < ns) (h5 : (tgtS (rd code (rl l i).f0)).2 = true) (h6 : (tgtS (rd code (rl l i).f0)).1 = 0) : relE code ns l i = 0 := by
 rw [relE_eq, if_neg (by omega), if_neg (by omega), if_neg (by omega), if_neg (by omega), if_pos h5, if_pos h6]
theorem lastR_rise {ns : Int} (h : ∀ j, j < rels.length → relE code ns rels j = 0) : ∀ i, i < rels.length → ∀ j, j < i → (rl rels j).f0 < (rl rels i).f0
  | 0, _, j, hj => absurd hj (Nat.not_lt_zero _)
  | i + 1, hi, j, hj => by
    have h1 : (rl rels i).f0 < (rl rels (i + 1)).f0 := (relE_ok (h (i + 1) hi)).1
    by_cases e : j = i
    · rw [e]; exact h1
    · have := lastR_rise h i (by omega) j (by omega)
      omega
theorem atN_at (p : Int) : ∀ (l : List Rel) (b i : Nat), (h : i < l.length) → l[i].f0 = p → (∀ j, (hj : j < i) → (l[j]'(by omega)).f0 ≠ p) → atN p l b = ((b + i : Nat) : Int)
  | s :: r, b, 0, h, hn, _ => by
    unfold atN
    rw [if_pos (by rw [← hn]; rfl)]
    rfl
  | s :: r, b, i + 1, h, hn, hb => by
    unfold atN
    have h0 : s.f0 ≠ p := hb 0 (by omega)
    rw [if_neg h0, atN_at p r (b + 1) i (by simpa using h) (by simpa using hn) (fun j hj => by have := hb (j + 1) (by omega); simpa using this)]
    congr 1
    omega
theorem OkO.at (h : OkO nm code dat data syms rels) {i : Nat} (hi : i < rels.length) : atN (rl rels i).f0 rels 0 = (i : Int) := by
  have := atN_at (rl rels i).f0 rels 0 i hi (by rw [rl_at hi]) (fun j hj e => by
    have := lastR_rise h.orels i hi j hj
    rw [rl_at (show j < rels.length by omega), e] at this
    omega)
  rw [this]
  simp
theorem OkO.of (h : OkO nm code dat data syms rels) {i : Nat} (hi : i < syms.length) : ofN (sy syms i).f0 syms 0 = (i : Int) := (ofN_seen hi).2 (symE_ok (h.osyms i hi)).2.1
theorem rd_app {l m : List Int} {x : Int} (h0 : 0 ≤ x) (h1 : x < (l.length : Int)) : rd (l ++ m) x = rd l x := by
 unfold rd
 rw [List.getD_eq_getElem?_getD, List.getD_eq_getElem?_getD, List.getElem?_append_left (by omega)]
theorem rel_lo (h : OkO nm code dat data syms rels) {j : Nat} (hj : j < rels.length) : 0 ≤ (rl rels j).f0 := by
 have h1 := (relE_ok (h.orels j hj)).1
 have h2 := lastR_lo code (syms.length : Int) rels j (fun q hq => h.orels q (by omega))
 omega
set_option maxRecDepth 100000 in
theorem tgt_one : (tgtS 1).2 = false := by kernel_rfl
theorem sizeS_mk {ns nr : Nat} (h0 : nameS nm = true) (h1 : code.length ≤ 16384) (h2 : ns ≤ 256) (h3 : nr ≤ code.length) (h4 : 0 ≤ dat) (h5 : dat + (data.length : Int) ≤ 4096) : (sizeS nm code dat data ns nr).1 = 0 := by
 unfold sizeS
 rw [if_pos h0, if_neg (by omega), if_neg (by omega), if_neg (by omega), if_neg (by omega), if_neg (by omega), if_neg (by omega)]
/-- one word more, that is no instruction. -/
theorem OkO.word (h : OkO nm code dat data syms rels) (hl : code.length < 16384) : OkO nm (code ++ [1]) dat data syms rels := by
 obtain ⟨a0, a1, a2, a3, a4, a5⟩ := sizeS_ok h.osize
 have hlen : (code ++ [1]).length = code.length + 1 := by simp
 refine ⟨sizeS_mk a0 (by omega) a2 (by omega) a4 a5, fun j hj => ?_, fun j hj => ?_, fun k hk => ?_⟩
 ·
  obtain ⟨b0, b1, b2, b3, b4, b5, b6⟩ := symE_ok (h.osyms j hj)
  exact symE_mk b0 b1 b2 b3 b4 (by omega) b6
 ·
  obtain ⟨b0, b1, b2, b3, b4, b5⟩ := relE_ok (h.orels j hj)
  have hlo := rel_lo h hj
  exact relE_mk b0 (by omega) b2 b3 (by rw [rd_app hlo b1]; exact b4) (by rw [rd_app hlo b1]; exact b5)
 ·
  unfold plainE
  by_cases e : k < code.length
  ·
   have hs := h.oscan k e
   unfold plainE at hs
   rw [rd_app (by omega) (by omega)]
   by_cases c : (tgtS (rd code (k : Int))).2 = true
   ·
    rw [if_pos c] at hs ⊢
    by_cases c2 : (tgtS (rd code (k : Int))).1 > (code.length : Int)
    ·
     rw [if_pos c2] at hs; exact absurd hs (by decide)
    ·
     rw [if_neg (by omega)]
   ·
    rw [if_neg c]
  ·
   obtain rfl : k = code.length := by omega
   have : rd (code ++ [1]) (code.length : Int) = 1 := by unfold rd; simp
   rw [this, tgt_one, if_neg (by decide)]
theorem rl_take {n j : Nat} (hj : j < n) : rl (rels.take n) j = rl rels j := by
 unfold rl rd_T82
 simp only [List.getD_eq_getElem?_getD, Int.toNat_natCast, List.getElem?_take_of_lt hj]
theorem lastR_take {n j : Nat} (hj : j ≤ n) : lastR (rels.take n) j = lastR rels j := by
 cases j with
 | zero => rfl
 | succ j => show (rl (rels.take n) j).f0 = (rl rels j).f0; rw [rl_take (by omega)]
/-- a relocation less: the last. -/
theorem OkO.less (h : OkO nm code dat data syms rels) {n : Nat} (hn : n ≤ rels.length) : OkO nm code dat data syms (rels.take n) := by
 obtain ⟨a0, a1, a2, a3, a4, a5⟩ := sizeS_ok h.osize
 have hlen : (rels.take n).length = n := by simp; omega
 refine ⟨sizeS_mk a0 a1 a2 (by omega) a4 a5, h.osyms, fun j hj => ?_, h.oscan⟩
 rw [hlen] at hj
 obtain ⟨b0, b1, b2, b3, b4, b5⟩ := relE_ok (h.orels j (by omega))
 refine relE_mk ?_ ?_ ?_ ?_ ?_ ?_
 ·
  rw [rl_take hj, lastR_take (by omega)]; exact b0
 ·
  rw [rl_take hj]; exact b1
 ·
  rw [rl_take hj]; exact b2
 ·
  rw [rl_take hj]; exact b3
 ·
  rw [rl_take hj]; exact b4
 ·
  rw [rl_take hj]; exact b5
theorem sy_app {s : Sym} {j : Nat} (hj : j < syms.length) : sy (syms ++ [s]) j = sy syms j := by
 rw [sy_at (by simp; omega), sy_at hj, List.getElem_append_left hj]
theorem seen_app {s : Sym} : ∀ j, j ≤ syms.length → nameSeen (syms ++ [s]) j = nameSeen syms j
  | 0, _ => rfl
  | j + 1, h => by
    show addS (nameSeen (syms ++ [s]) j) (keyN (sy (syms ++ [s]) j).f0) = addS (nameSeen syms j) (keyN (sy syms j).f0)
    rw [seen_app j (by omega), sy_app (by omega)]
/-- a symbol twice: the second is told. -/
theorem OkO.twice (h : OkO nm code dat data syms rels) (hl : syms.length < 256) {p : Nat} (hp : p < syms.length) {s : Sym} (hs : s.f0 = (sy syms p).f0) : chkO nm code dat data (syms ++ [s]) rels = (26, (syms.length : Int)) := by
  obtain ⟨a0, a1, a2, a3, a4, a5⟩ := sizeS_ok h.osize
  have hlen : (syms ++ [s]).length = syms.length + 1 := by simp
  have hlast : sy (syms ++ [s]) syms.length = s := by rw [sy_at (by omega)]; simp
  have hsy : symsS (syms ++ [s]) (code.length : Int) = (26, (syms.length : Int)) := by
    have h26 : symE (syms ++ [s]) (code.length : Int) syms.length = 26 := by
      rw [symE_eq, hlast, if_pos (by rw [hs]; exact (symE_ok (h.osyms p hp)).1), if_pos (by rw [seen_app _ (Nat.le_refl _), seen_iff]; exact ⟨p, hp, hs.symm⟩)]
    have := firstS_at (g := symE (syms ++ [s]) (code.length : Int)) (n := (syms ++ [s]).length) (i := syms.length) (by omega) (fun j hj => by
      obtain ⟨b0, b1, b2, b3, b4, b5, b6⟩ := symE_ok (h.osyms j hj)
      rw [← sy_app (s := s) hj] at b0 b1 b2 b3 b4 b5 b6
      rw [← seen_app (s := s) j (by omega)] at b1
      exact symE_mk b0 b1 b2 b3 b4 b5 b6) (by rw [h26]; decide)
    rw [h26] at this
    exact this
  unfold chkO
  rw [if_pos (sizeS_mk a0 a1 (by omega) a3 a4 a5), hsy]
  exact if_neg (show ¬ (26 : Int) = 0 by decide)
end
end Go.Proofs.YtiaohbbafaaibabGreatDoor.P

/- What the Go functions named below come to, as plain functions, each with its proof; written by this session's prt.py over the kit's print. -/
namespace Go.Proofs.YtiaohbbafaaibabGreatDoor.P
open Go.RowKit Go.Proofs.YtiaohbbafaaibabGreatDoorW.PrintWords Go.Proofs.YtiaohbbafaaibabGreatDoorW.PrintLast Go.Proofs.YtiaohbbafaaibabGreatDoorW.PrintMore
attribute [local go_sem] max2_int min2_int max_two min_two max_three min_three max_four min_four   -- for this text's walks alone
set_option linter.unusedVariables false
set_option linter.unusedSimpArgs false
/-! ### pleatlaw04_heavy: function 5 -/
def pleatlaw04_heavy.l0 : Nat → Int → Int → ByteArray → List Int → Int → List Int → List (S65) → List (S82) → Option (Bool)
 | 0, _, _, _, _, _, _, _, _ => none
 | k + 1, x3, x4, x102000, x102001, x102002, x102003, x102004, x102005 => if x4 < (x102004.length : Int) then (if x3 ≤ 1048576 then (if 0 ≤ x4 then (pleatlaw04_heavy.l0 k (wrap64 ((wrap64 (x3 + 1)) + (((rd_T65 x102004 x4).f0).size : Int))) (wrap64 (x4 + 1)) x102000 x102001 x102002 x102003 x102004 x102005) else (none)) else (if x3 > 1048576 then (some true) else (if (x102000.size : Int) > 1048576 then (some true) else (if (x102001.length : Int) > 32768 then (some true) else (if (x102003.length : Int) > 32768 then (some true) else (some (decide ((x102005.length : Int) > 32768)))))))) else (if x3 > 1048576 then (some true) else (if (x102000.size : Int) > 1048576 then (some true) else (if (x102001.length : Int) > 32768 then (some true) else (if (x102003.length : Int) > 32768 then (some true) else (some (decide ((x102005.length : Int) > 32768)))))))
def pleatlaw04_heavy.f (k : Nat) (a0_0 : ByteArray) (l0_1 : List Int) (a0_2 : Int) (l0_3 : List Int) (l0_4 : List (S65)) (l0_5 : List (S82)) : Option (Bool) := pleatlaw04_heavy.l0 k 0 0 a0_0 l0_1 a0_2 l0_3 l0_4 l0_5
theorem pleatlaw04_heavy.mono_l : ∀ k, (∀ y0 y1 y2 y3 y4 y5 y6 y7, LeO (pleatlaw04_heavy.l0 k y0 y1 y2 y3 y4 y5 y6 y7) (pleatlaw04_heavy.l0 (k + 1) y0 y1 y2 y3 y4 y5 y6 y7))
 | 0 => fun _ _ _ _ _ _ _ _ r h => by simp [pleatlaw04_heavy.l0] at h
 | k + 1 => by
  have ih0 := pleatlaw04_heavy.mono_l k
  ·
   intro y0 y1 y2 y3 y4 y5 y6 y7
   unfold pleatlaw04_heavy.l0
   repeat' first
   | (with_reducible first | exact ih0 _ _ _ _ _ _ _ _ | exact LeO.refl _ | exact LeO.none _ | refine LeO.ite ?_ ?_ | refine LeO.bind ?_ (fun _ => ?_))
theorem pleatlaw04_heavy.mono : ∀ a0 a1 a2 a3 a4 a5 k, LeO (pleatlaw04_heavy.f k a0 a1 a2 a3 a4 a5) (pleatlaw04_heavy.f (k + 1) a0 a1 a2 a3 a4 a5) := by
 intro a0 a1 a2 a3 a4 a5 k
 have ih0 := pleatlaw04_heavy.mono_l k
 unfold pleatlaw04_heavy.f
 repeat' first
   | (with_reducible first | exact ih0 _ _ _ _ _ _ _ _ | exact LeO.refl _ | exact LeO.none _ | refine LeO.ite ?_ ?_ | refine LeO.bind ?_ (fun _ => ?_))
set_option maxHeartbeats 8000000 in
set_option maxRecDepth 100000 in
theorem pleatlaw04_heavy.calls (k : Nat) (a0_0 : ByteArray) (A0_1 : Option Addr) (c0_1 : Nat) (l0_1 : List Int) (a0_2 : Int) (A0_3 : Option Addr) (c0_3 : Nat) (l0_3 : List Int) (A0_4 : Option Addr) (c0_4 : Nat) (l0_4 : List (S65)) (A0_5 : Option Addr) (c0_5 : Nat) (l0_5 : List (S82)) (r : Bool) (w : World) (hr0_1 : Kd.C (Kd.int .u32) w A0_1 l0_1.length l0_1) (hc0_1 : l0_1.length ≤ c0_1) (hr0_3 : Kd.C (Kd.int .i64) w A0_3 l0_3.length l0_3) (hc0_3 : l0_3.length ≤ c0_3) (hr0_4 : Kd.C k65 w A0_4 l0_4.length l0_4) (hc0_4 : l0_4.length ≤ c0_4) (hr0_5 : Kd.C k82 w A0_5 l0_5.length l0_5) (hc0_5 : l0_5.length ≤ c0_5) (h : pleatlaw04_heavy.f k a0_0 l0_1 a0_2 l0_3 l0_4 l0_5 = some r) :
  Calls Tryz.prog 5 #[.agg #[.string a0_0, .slice A0_1 l0_1.length c0_1, .int .i64 a0_2, .slice A0_3 l0_3.length c0_3, .slice A0_4 l0_4.length c0_4, .slice A0_5 l0_5.length c0_5]] w fun e w' => e = .returned (.bool r) ∧ Below w.heap.size w w' := by
 have hu27 := Tryz.underlying27
 have HR0_1 := Aside0.mk hr0_1
 have HC0_1 := Aside0.mk hc0_1
 clear hr0_1 hc0_1
 have HR0_3 := Aside0.mk hr0_3
 have HC0_3 := Aside0.mk hc0_3
 clear hr0_3 hc0_3
 have HR0_4 := Aside0.mk hr0_4
 have HC0_4 := Aside0.mk hc0_4
 clear hr0_4 hc0_4
 have HR0_5 := Aside0.mk hr0_5
 have HC0_5 := Aside0.mk hc0_5
 clear hr0_5 hc0_5
 have HB := Aside0.mk (Below.refl w.heap.size w)
 have H : (pleatlaw04_heavy.l0 k 0 0 a0_0 l0_1 a0_2 l0_3 l0_4 l0_5) = some r := h
 clear h
 have H' := Aside0.mk H
 clear H
 go_enter Tryz.func5, Tryz.ntmps5
 go_wp2_with (first | ((with_reducible refine gate_dst (N := 1) rfl ?_); (try (refine gate_guard (by rfl) ?_; dsimp only)); refine box_event ?hg (N := 1) ?hd (cs := #[.string a0_0, .slice A0_1 l0_1.length c0_1, .int .i64 a0_2, .slice A0_3 l0_3.length c0_3, .slice A0_4 l0_4.length c0_4, .slice A0_5 l0_5.length c0_5]) (t := 27) ?hr ?_; (case hd => rfl); (case hg => rfl); (case hr => go_simp; try rfl); intro gb101 hg w2 hbox hb; have BK101 := Aside0.mk (hbox); have GW101 := Aside0.mk (gwQ hg HB.out); have GE101 := Aside0.mk (gwQ hg HB.out); replace HB := Aside0.mk (bsQ hb HB.out); clear hb hbox hg))
 go_loopg [3, 4] k (fun kq v3 v4 w' => ∃ (x3_1 : Int) (x4_1 : Int), v3 = .int .i64 x3_1 ∧ v4 = .int .i64 x4_1 ∧ Aside0 (pleatlaw04_heavy.l0 kq x3_1 x4_1 a0_0 l0_1 a0_2 l0_3 l0_4 l0_5 = some r) ∧ Aside0 (kq ≤ k) ∧ Aside0 (w'.heap[gb101]? = some (.cells #[.string a0_0, (.slice A0_1 l0_1.length c0_1), .int .i64 a0_2, (.slice A0_3 l0_3.length c0_3), (.slice A0_4 l0_4.length c0_4), (.slice A0_5 l0_5.length c0_5)] 27 (0, 0))) ∧ Aside0 (Below w.heap.size w w'))
 case atStart => exact ⟨(0), (0), (by first | rfl | (simp; done) | (simp [*]; done)), (by first | rfl | (simp; done) | (simp [*]; done)), H', ⟨Nat.le_refl _⟩, ⟨by exact BK101.out⟩, ⟨by repeat with_reducible first | exact HB.out | apply pw_below_drewN | apply below_drew1 | refine below_set ?_ GE101.out⟩⟩
 case round =>
  clear H'
  try clear p2
  obtain ⟨x3_1, x4_1, rfl, rfl, HA, HK1, BK101, HB⟩ := hrel
  cases gk with
  | zero => exact absurd HA.out (by simp [pleatlaw04_heavy.l0])
  | succ k1 =>
   have H := HA.out
   clear HA
   simp only [pleatlaw04_heavy.l0] at H
   by_cases c3 : x4_1 < (l0_4.length : Int)
   ·
    rw [if_pos c3] at H
    have c3b0 : decide (x4_1 < (l0_4.length : Int)) = true := decide_eq_true c3
    clear c3
    by_cases c4 : x3_1 ≤ 1048576
    ·
     rw [if_pos c4] at H
     have c4b0 : decide (x3_1 ≤ 1048576) = true := decide_eq_true c4
     clear c4
     by_cases c5 : 0 ≤ x4_1
     ·
      rw [if_pos c5] at H
      have c5b0 : decide (0 ≤ x4_1) = true := decide_eq_true c5
      clear c5
      have H' := Aside0.mk H
      clear H
      obtain ⟨hcz6_0, hcz6_1, hcz6_2, hcz6_3, hcz6_4, hcz6_5⟩ := bcQ6 BK101.out
      obtain ⟨hfz6_0, hfz6_1, hfz6_2, hfz6_3, hfz6_4, hfz6_5⟩ := fzQ6 BK101.out
      have p102 : 0 ≤ (x4_1 : Int) := of_decide_eq_true ‹_›
      have q102 : x4_1 < (l0_4.length : Int) := of_decide_eq_true ‹_›
      obtain ⟨ad102, e102, hx102_0, hx102_1, hx102_2⟩ := atQ65 HR0_4.out HB.out x4_1 p102 q102
      cases e102
      replace p102 := eq_true p102
      replace q102 := eq_true q102
      go_wp2
      go_roundg k1
      case measure => have := HK1.out; omega
      case rel => exact ⟨(wrap64 ((wrap64 (x3_1 + 1)) + (((rd_T65 l0_4 x4_1).f0).size : Int))), (wrap64 (x4_1 + 1)), (by first | rfl | (simp; done) | (simp [*]; done)), (by first | rfl | (simp; done) | (simp [*]; done)), H', ⟨by have := HK1.out; omega⟩, ⟨by exact BK101.out⟩, ⟨by repeat with_reducible first | exact HB.out | apply pw_below_drewN | apply below_drew1 | refine below_set ?_ GE101.out⟩⟩
     ·
      rw [if_neg c5] at H
      exact absurd H (by simp)
    ·
     rw [if_neg c4] at H
     have c4b0 : decide (x3_1 ≤ 1048576) = false := decide_eq_false c4
     clear c4
     by_cases c7 : x3_1 > 1048576
     ·
      rw [if_pos c7] at H
      have c7b0 : decide (1048576 < x3_1) = true := decide_eq_true c7
      clear c7
      obtain rfl := Option.some.inj H
      obtain ⟨hcz8_0, hcz8_1, hcz8_2, hcz8_3, hcz8_4, hcz8_5⟩ := bcQ6 BK101.out
      obtain ⟨hfz8_0, hfz8_1, hfz8_2, hfz8_3, hfz8_4, hfz8_5⟩ := fzQ6 BK101.out
      go_wp2
      go_ret
      exact ⟨by first | rfl | (simp [errW_none, errW_some] <;> rfl) | (simp [*, errW_none, errW_some] <;> rfl), by repeat with_reducible first | exact HB.out | apply pw_below_drewN | apply below_drew1 | refine below_set ?_ GE101.out⟩
     ·
      rw [if_neg c7] at H
      have c7b0 : decide (1048576 < x3_1) = false := decide_eq_false c7
      clear c7
      by_cases c9 : (a0_0.size : Int) > 1048576
      ·
       rw [if_pos c9] at H
       have c9b0 : decide (1048576 < (a0_0.size : Int)) = true := decide_eq_true c9
       have c9b1 : decide (1048576 < a0_0.size) = true := decide_eq_true (by omega)
       clear c9
       obtain rfl := Option.some.inj H
       obtain ⟨hcz10_0, hcz10_1, hcz10_2, hcz10_3, hcz10_4, hcz10_5⟩ := bcQ6 BK101.out
       obtain ⟨hfz10_0, hfz10_1, hfz10_2, hfz10_3, hfz10_4, hfz10_5⟩ := fzQ6 BK101.out
       go_wp2
       go_ret
       exact ⟨by first | rfl | (simp [errW_none, errW_some] <;> rfl) | (simp [*, errW_none, errW_some] <;> rfl), by repeat with_reducible first | exact HB.out | apply pw_below_drewN | apply below_drew1 | refine below_set ?_ GE101.out⟩
      ·
       rw [if_neg c9] at H
       have c9b0 : decide (1048576 < (a0_0.size : Int)) = false := decide_eq_false c9
       have c9b1 : decide (1048576 < a0_0.size) = false := decide_eq_false (by omega)
       clear c9
       by_cases c11 : (l0_1.length : Int) > 32768
       ·
        rw [if_pos c11] at H
        have c11b0 : decide (32768 < (l0_1.length : Int)) = true := decide_eq_true c11
        have c11b1 : decide (32768 < l0_1.length) = true := decide_eq_true (by omega)
        clear c11
        obtain rfl := Option.some.inj H
        obtain ⟨hcz12_0, hcz12_1, hcz12_2, hcz12_3, hcz12_4, hcz12_5⟩ := bcQ6 BK101.out
        obtain ⟨hfz12_0, hfz12_1, hfz12_2, hfz12_3, hfz12_4, hfz12_5⟩ := fzQ6 BK101.out
        go_wp2
        go_ret
        exact ⟨by first | rfl | (simp [errW_none, errW_some] <;> rfl) | (simp [*, errW_none, errW_some] <;> rfl), by repeat with_reducible first | exact HB.out | apply pw_below_drewN | apply below_drew1 | refine below_set ?_ GE101.out⟩
       ·
        rw [if_neg c11] at H
        have c11b0 : decide (32768 < (l0_1.length : Int)) = false := decide_eq_false c11
        have c11b1 : decide (32768 < l0_1.length) = false := decide_eq_false (by omega)
        clear c11
        by_cases c13 : (l0_3.length : Int) > 32768
        ·
         rw [if_pos c13] at H
         have c13b0 : decide (32768 < (l0_3.length : Int)) = true := decide_eq_true c13
         have c13b1 : decide (32768 < l0_3.length) = true := decide_eq_true (by omega)
         clear c13
         obtain rfl := Option.some.inj H
         obtain ⟨hcz14_0, hcz14_1, hcz14_2, hcz14_3, hcz14_4, hcz14_5⟩ := bcQ6 BK101.out
         obtain ⟨hfz14_0, hfz14_1, hfz14_2, hfz14_3, hfz14_4, hfz14_5⟩ := fzQ6 BK101.out
         go_wp2
         go_ret
         exact ⟨by first | rfl | (simp [errW_none, errW_some] <;> rfl) | (simp [*, errW_none, errW_some] <;> rfl), by repeat with_reducible first | exact HB.out | apply pw_below_drewN | apply below_drew1 | refine below_set ?_ GE101.out⟩
        ·
         rw [if_neg c13] at H
         have c13b0 : decide (32768 < (l0_3.length : Int)) = false := decide_eq_false c13
         have c13b1 : decide (32768 < l0_3.length) = false := decide_eq_false (by omega)
         clear c13
         obtain rfl := Option.some.inj H
         obtain ⟨hcz15_0, hcz15_1, hcz15_2, hcz15_3, hcz15_4, hcz15_5⟩ := bcQ6 BK101.out
         obtain ⟨hfz15_0, hfz15_1, hfz15_2, hfz15_3, hfz15_4, hfz15_5⟩ := fzQ6 BK101.out
         go_wp2
         go_ret
         exact ⟨by first | rfl | (simp [errW_none, errW_some] <;> rfl) | (simp [*, errW_none, errW_some] <;> rfl), by repeat with_reducible first | exact HB.out | apply pw_below_drewN | apply below_drew1 | refine below_set ?_ GE101.out⟩
   ·
    rw [if_neg c3] at H
    have c3b0 : decide (x4_1 < (l0_4.length : Int)) = false := decide_eq_false c3
    clear c3
    by_cases c16 : x3_1 > 1048576
    ·
     rw [if_pos c16] at H
     have c16b0 : decide (1048576 < x3_1) = true := decide_eq_true c16
     clear c16
     obtain rfl := Option.some.inj H
     obtain ⟨hcz17_0, hcz17_1, hcz17_2, hcz17_3, hcz17_4, hcz17_5⟩ := bcQ6 BK101.out
     obtain ⟨hfz17_0, hfz17_1, hfz17_2, hfz17_3, hfz17_4, hfz17_5⟩ := fzQ6 BK101.out
     go_wp2
     go_ret
     exact ⟨by first | rfl | (simp [errW_none, errW_some] <;> rfl) | (simp [*, errW_none, errW_some] <;> rfl), by repeat with_reducible first | exact HB.out | apply pw_below_drewN | apply below_drew1 | refine below_set ?_ GE101.out⟩
    ·
     rw [if_neg c16] at H
     have c16b0 : decide (1048576 < x3_1) = false := decide_eq_false c16
     clear c16
     by_cases c18 : (a0_0.size : Int) > 1048576
     ·
      rw [if_pos c18] at H
      have c18b0 : decide (1048576 < (a0_0.size : Int)) = true := decide_eq_true c18
      have c18b1 : decide (1048576 < a0_0.size) = true := decide_eq_true (by omega)
      clear c18
      obtain rfl := Option.some.inj H
      obtain ⟨hcz19_0, hcz19_1, hcz19_2, hcz19_3, hcz19_4, hcz19_5⟩ := bcQ6 BK101.out
      obtain ⟨hfz19_0, hfz19_1, hfz19_2, hfz19_3, hfz19_4, hfz19_5⟩ := fzQ6 BK101.out
      go_wp2
      go_ret
      exact ⟨by first | rfl | (simp [errW_none, errW_some] <;> rfl) | (simp [*, errW_none, errW_some] <;> rfl), by repeat with_reducible first | exact HB.out | apply pw_below_drewN | apply below_drew1 | refine below_set ?_ GE101.out⟩
     ·
      rw [if_neg c18] at H
      have c18b0 : decide (1048576 < (a0_0.size : Int)) = false := decide_eq_false c18
      have c18b1 : decide (1048576 < a0_0.size) = false := decide_eq_false (by omega)
      clear c18
      by_cases c20 : (l0_1.length : Int) > 32768
      ·
       rw [if_pos c20] at H
       have c20b0 : decide (32768 < (l0_1.length : Int)) = true := decide_eq_true c20
       have c20b1 : decide (32768 < l0_1.length) = true := decide_eq_true (by omega)
       clear c20
       obtain rfl := Option.some.inj H
       obtain ⟨hcz21_0, hcz21_1, hcz21_2, hcz21_3, hcz21_4, hcz21_5⟩ := bcQ6 BK101.out
       obtain ⟨hfz21_0, hfz21_1, hfz21_2, hfz21_3, hfz21_4, hfz21_5⟩ := fzQ6 BK101.out
       go_wp2
       go_ret
       exact ⟨by first | rfl | (simp [errW_none, errW_some] <;> rfl) | (simp [*, errW_none, errW_some] <;> rfl), by repeat with_reducible first | exact HB.out | apply pw_below_drewN | apply below_drew1 | refine below_set ?_ GE101.out⟩
      ·
       rw [if_neg c20] at H
       have c20b0 : decide (32768 < (l0_1.length : Int)) = false := decide_eq_false c20
       have c20b1 : decide (32768 < l0_1.length) = false := decide_eq_false (by omega)
       clear c20
       by_cases c22 : (l0_3.length : Int) > 32768
       ·
        rw [if_pos c22] at H
        have c22b0 : decide (32768 < (l0_3.length : Int)) = true := decide_eq_true c22
        have c22b1 : decide (32768 < l0_3.length) = true := decide_eq_true (by omega)
        clear c22
        obtain rfl := Option.some.inj H
        obtain ⟨hcz23_0, hcz23_1, hcz23_2, hcz23_3, hcz23_4, hcz23_5⟩ := bcQ6 BK101.out
        obtain ⟨hfz23_0, hfz23_1, hfz23_2, hfz23_3, hfz23_4, hfz23_5⟩ := fzQ6 BK101.out
        go_wp2
        go_ret
        exact ⟨by first | rfl | (simp [errW_none, errW_some] <;> rfl) | (simp [*, errW_none, errW_some] <;> rfl), by repeat with_reducible first | exact HB.out | apply pw_below_drewN | apply below_drew1 | refine below_set ?_ GE101.out⟩
       ·
        rw [if_neg c22] at H
        have c22b0 : decide (32768 < (l0_3.length : Int)) = false := decide_eq_false c22
        have c22b1 : decide (32768 < l0_3.length) = false := decide_eq_false (by omega)
        clear c22
        obtain rfl := Option.some.inj H
        obtain ⟨hcz24_0, hcz24_1, hcz24_2, hcz24_3, hcz24_4, hcz24_5⟩ := bcQ6 BK101.out
        obtain ⟨hfz24_0, hfz24_1, hfz24_2, hfz24_3, hfz24_4, hfz24_5⟩ := fzQ6 BK101.out
        go_wp2
        go_ret
        exact ⟨by first | rfl | (simp [errW_none, errW_some] <;> rfl) | (simp [*, errW_none, errW_some] <;> rfl), by repeat with_reducible first | exact HB.out | apply pw_below_drewN | apply below_drew1 | refine below_set ?_ GE101.out⟩
end Go.Proofs.YtiaohbbafaaibabGreatDoor.P

/- OWN TEXT: plain laws for the statement WireRound: what is heavy, copies, equality; an object that may be written. -/
namespace Go.Proofs.YtiaohbbafaaibabGreatDoor.P
open Go.RowKit Go.Maps Go.Proofs.YtiaohbbafaaibabGreatDoorW.PrintWords Go.Proofs.YtiaohbbafaaibabGreatDoorW.PrintLast Go.Proofs.YtiaohbbafaaibabGreatDoorW.PrintMore Go.Proofs.YtiaohbbafaaibabGreatDoor.Arr Go.Proofs.YtiaohbbafaaibabGreatDoor.MapB
set_option linter.unusedVariables false
theorem Ev.countE {α : Type} {g : Nat → Int → Option α} {r : α} {n : Nat} (step : ∀ i : Nat, i < n → Ev (fun k => g k ((i + 1 : Nat) : Int)) r → Ev (fun k => g k (i : Int)) r) (last : Ev (fun k => g k (n : Int)) r) : Ev (fun k => g k ((0 : Nat) : Int)) r := by
 have : ∀ d i : Nat, i + d = n → Ev (fun k => g k (i : Int)) r := by
  intro d
  induction d with
  | zero => intro i hi; rw [show i = n by omega]; exact last
  | succ d ih => intro i hi; exact step i (by omega) (ih (i + 1) (by omega))
 exact this n 0 (by omega)
theorem eqBytesE (l : List Int) (hl : l.length ≤ 1000000000) : Ev (fun k => pleatref00_EqBytes.f k l l) true := by
 unfold pleatref00_EqBytes.f
 refine Ev.iteT rfl (Ev.countE (g := fun k i => pleatref00_EqBytes.l0 k l l i) (n := l.length) (fun i hi IH => ?_) ?_)
 ·
  refine Ev.succ (Ev.iteT (by omega) (Ev.iteT (by omega) (Ev.iteT (by omega) (Ev.iteT rfl ?_))))
  rw [wrapS hi (by omega)]
  exact IH
 ·
  exact Ev.succ (Ev.iteF (by omega) (Ev.val rfl))
section
variable {nm : ByteArray} {code : List Int} {dat : Int} {data : List Int} {syms : List Sym} {rels : List Rel}
/-- what a statement looks at is small. -/
structure Lite (nm : ByteArray) (code : List Int) (data : List Int) (syms : List Sym) (rels : List Rel) : Prop where
  hn : nm.size ≤ 1048576
  h1 : code.length ≤ 32768
  h3 : data.length ≤ 32768
  h4 : syms.length ≤ 1048576
  h5 : rels.length ≤ 32768
theorem heavyE (hs : syms.length ≤ 140737488351232) (hz : ∀ y ∈ syms, y.f0.size ≤ 140737488351232) : ∃ b, Ev (fun k => pleatlaw04_heavy.f k nm code dat data syms rels) b ∧ (b = false → Lite nm code data syms rels) := by
 have fin : ∀ n : Int, ∃ b, (if n > 1048576 then some true else (if (nm.size : Int) > 1048576 then (some true) else (if (code.length : Int) > 32768 then (some true) else (if (data.length : Int) > 32768 then (some true) else (some (decide ((rels.length : Int) > 32768))))))) = some b ∧ (b = false → n ≤ 1048576 ∧ (nm.size : Int) ≤ 1048576 ∧ (code.length : Int) ≤ 32768 ∧ (data.length : Int) ≤ 32768 ∧ (rels.length : Int) ≤ 32768) := by
  intro n
  by_cases c1 : n > 1048576
  ·
   exact ⟨true, by rw [if_pos c1], fun h => by cases h⟩
  by_cases c2 : (nm.size : Int) > 1048576
  ·
   exact ⟨true, by rw [if_neg c1, if_pos c2], fun h => by cases h⟩
  by_cases c3 : (code.length : Int) > 32768
  ·
   exact ⟨true, by rw [if_neg c1, if_neg c2, if_pos c3], fun h => by cases h⟩
  by_cases c4 : (data.length : Int) > 32768
  ·
   exact ⟨true, by rw [if_neg c1, if_neg c2, if_neg c3, if_pos c4], fun h => by cases h⟩
  refine ⟨_, by rw [if_neg c1, if_neg c2, if_neg c3, if_neg c4], fun h => ?_⟩
  have := of_decide_eq_false h
  omega
 have main : ∀ d i : Nat, ∀ n : Int, i + d = syms.length → (i : Int) ≤ n → n ≤ 300000000000000 → ∃ b, Ev (fun K => pleatlaw04_heavy.l0 K n (i : Int) nm code dat data syms rels) b ∧ (b = false → Lite nm code data syms rels) := by
  intro d
  induction d with
  | zero =>
   intro i n hi h0 h1
   obtain ⟨b, hb, hs⟩ := fin n
   refine ⟨b, Ev.succ (Ev.iteF (by omega) ?_), fun h => ?_⟩
   ·
    show Ev (fun _ => if n > 1048576 then some true else (if (nm.size : Int) > 1048576 then (some true) else (if (code.length : Int) > 32768 then (some true) else (if (data.length : Int) > 32768 then (some true) else (some (decide ((rels.length : Int) > 32768))))))) b
    rw [hb]
    exact Ev.val rfl
   ·
    have := hs h
    exact ⟨by omega, by omega, by omega, by omega, by omega⟩
  | succ d ih =>
   intro i n hi h0 h1
   have hlt : i < syms.length := by omega
   by_cases hn : n ≤ 1048576
   ·
    have hsz := hz syms[i] (List.getElem_mem hlt)
    obtain ⟨b, hb, hs⟩ := ih (i + 1) (n + 1 + (syms[i].f0.size : Int)) (by omega) (by omega) (by omega)
    refine ⟨b, Ev.succ (Ev.iteT (by omega) (Ev.iteT hn (Ev.iteT (by omega) ?_))), hs⟩
    rw [sy_get hlt, wrap64_id (x := (i : Int) + 1) (by omega) (by omega), wrap64_id (x := n + 1) (by omega) (by omega), wrap64_id (by omega) (by omega)]
    exact hb
   ·
    obtain ⟨b, hb, hs⟩ := fin n
    refine ⟨b, Ev.succ (Ev.iteT (by omega) (Ev.iteF hn ?_)), fun h => by have := hs h; omega⟩
    show Ev (fun _ => if n > 1048576 then some true else (if (nm.size : Int) > 1048576 then (some true) else (if (code.length : Int) > 32768 then (some true) else (if (data.length : Int) > 32768 then (some true) else (some (decide ((rels.length : Int) > 32768))))))) b
    rw [hb]
    exact Ev.val rfl
 exact main syms.length 0 0 (by omega) (by omega) (by omega)
/-- an object that may be may be written. -/
theorem OkO.wok (h : OkO nm code dat data syms rels) (hw : wordsO code = true) : WOk nm code dat data syms rels := by
 obtain ⟨s0, s1, s2, s3, s4, s5⟩ := sizeS_ok h.osize
 refine ⟨nameS_len s0, s1, fun i hi => ?_, ⟨s4, by omega⟩, by omega, s2, fun i hi => ?_, by omega, fun i hi => ?_⟩
 ·
  rw [P.rd_get hi]
  exact wordsO_at hw (List.getElem_mem hi)
 ·
  obtain ⟨e0, _, e1, e2, e3, e4, _⟩ := symE_ok (h.osyms i hi)
  exact ⟨nameS_len e0, ⟨e1, e2⟩, e3, by show (sy syms i).f2 ≤ _; omega⟩
 ·
  obtain ⟨e0, e1, e2, e3, _⟩ := relE_ok (h.orels i hi)
  have := rel_lo h hi
  exact ⟨⟨this, by show (rl rels i).f0 ≤ _; omega⟩, e2, by show (rl rels i).f1 ≤ _; omega⟩
theorem flatMap_short {α : Type} (f : α → List Int) (k : Nat) : ∀ xs : List α, (∀ x ∈ xs, (f x).length ≤ k) → (xs.flatMap f).length ≤ xs.length * k
  | [], _ => by simp
  | x :: xs, h => by
    have h1 := h x (List.mem_cons_self ..)
    have h2 := flatMap_short f k xs (fun y hy => h y (List.mem_cons_of_mem _ hy))
    rw [List.flatMap_cons, List.length_append, List.length_cons, Nat.succ_mul]
    omega
theorem writeB_short (h : WOk nm code dat data syms rels) : (writeB nm code dat data syms rels).length ≤ 1000000 := by
  have a1 := flatMap_short (fun x : Int => beN x 4) 4 code (fun x _ => by rw [beN_length]; omega)
  have a2 := flatMap_short (fun x : Int => beN (mU x) 8) 8 data (fun x _ => by rw [beN_length]; omega)
  have a3 := flatMap_short symB 36 syms (fun x hx => by
    obtain ⟨i, hi, rfl⟩ := List.getElem_of_mem hx
    have := (h.hsym i hi).1
    rw [sy_getW hi] at this
    unfold symB
    simp only [List.length_append, beN_length, bytesOf_length]
    omega)
  have a4 := flatMap_short relB 8 rels (fun x _ => by unfold relB; simp only [List.length_append, beN_length]; omega)
  have h1 := h.hnm
  have h2 := h.hcode
  have h3 := h.hdata
  have h4 := h.hsyms
  have h5 := h.hrels
  unfold writeB headB
  simp only [List.length_append, beN_length, bytesOf_length, List.length_cons, List.length_nil]
  omega
end
end Go.Proofs.YtiaohbbafaaibabGreatDoor.P
