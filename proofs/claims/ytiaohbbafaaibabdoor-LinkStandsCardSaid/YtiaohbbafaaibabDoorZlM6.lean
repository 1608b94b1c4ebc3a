/- OWN TEXT and printed parts of this claim, laid together: P10, ObjL, ObjF, SymN, SymB. -/
import Derived.Test.YtiaohbbafaaibabDoorZlM0
import Derived.Test.YtiaohbbafaaibabDoorZlM2
import Derived.Test.YtiaohbbafaaibabDoorZlM5
import Derived.Test.YtiaohbbafaaibabDoorZlM1
import Derived.Test.YtiaohbbafaaibabDoorZlM4
import Derived.Test.YtiaohbbafaaibabDoorZlM3
/- What the Go functions named below come to, as plain functions, each with its proof; written by this session's prt.py over the kit's print. -/
namespace Go.Proofs.YtiaohbbafaaibabDoor.P
open Go.RowKit Go.Proofs.YtiaohbbafaaibabDoorW.PrintWords Go.Proofs.YtiaohbbafaaibabDoorW.PrintLast Go.Proofs.YtiaohbbafaaibabDoorW.PrintMore
attribute [local go_sem] max2_int min2_int max_two min_two max_three min_three max_four min_four   -- for this text's walks alone
set_option linter.unusedVariables false
set_option linter.unusedSimpArgs false

-- NOT PRINTED: function 61 (link_layout)

-- NOT PRINTED: function 62 (link_fill)

-- NOT PRINTED: function 16 (link_Link)

-- NOT PRINTED: function 20 (link_Bases)

-- NOT PRINTED: function 59 (pleatlaw09_two)
def pleatref00_EqInts.l0 : Nat → List Int → List Int → Int → Option (Bool)
 | 0, _, _, _ => none
 | k + 1, x0, x1, x5 => if x5 < (x0.length : Int) then (if 0 ≤ x5 then (if x5 < (x1.length : Int) then (if (rd x0 x5) = (rd x1 x5) then (pleatref00_EqInts.l0 k x0 x1 (wrap64 (x5 + 1))) else (some false)) else (none)) else (none)) else (some true)
def pleatref00_EqInts.f (k : Nat) (l0 : List Int) (l1 : List Int) : Option (Bool) := if (l0.length : Int) = (l1.length : Int) then (pleatref00_EqInts.l0 k l0 l1 0) else (some false)
theorem pleatref00_EqInts.mono_l : ∀ k, (∀ y0 y1 y2, LeO (pleatref00_EqInts.l0 k y0 y1 y2) (pleatref00_EqInts.l0 (k + 1) y0 y1 y2))
 | 0 => fun _ _ _ r h => by simp [pleatref00_EqInts.l0] at h
 | k + 1 => by
  have ih0 := pleatref00_EqInts.mono_l k
  ·
   intro y0 y1 y2
   unfold pleatref00_EqInts.l0
   repeat' first
   | (with_reducible first | exact ih0 _ _ _ | exact LeO.refl _ | exact LeO.none _ | refine LeO.ite ?_ ?_ | refine LeO.bind ?_ (fun _ => ?_))
theorem pleatref00_EqInts.mono : ∀ a0 a1 k, LeO (pleatref00_EqInts.f k a0 a1) (pleatref00_EqInts.f (k + 1) a0 a1) := by
 intro a0 a1 k
 have ih0 := pleatref00_EqInts.mono_l k
 unfold pleatref00_EqInts.f
 repeat' first
   | (with_reducible first | exact ih0 _ _ _ | exact LeO.refl _ | exact LeO.none _ | refine LeO.ite ?_ ?_ | refine LeO.bind ?_ (fun _ => ?_))
set_option maxHeartbeats 8000000 in
set_option maxRecDepth 100000 in
theorem pleatref00_EqInts.calls (k : Nat) (A0 : Option Addr) (c0 : Nat) (l0 : List Int) (A1 : Option Addr) (c1 : Nat) (l1 : List Int) (r : Bool) (w : World) (hr0 : Kd.C (Kd.int .i64) w A0 l0.length l0) (hc0 : l0.length ≤ c0) (hr1 : Kd.C (Kd.int .i64) w A1 l1.length l1) (hc1 : l1.length ≤ c1) (h : pleatref00_EqInts.f k l0 l1 = some r) :
  Calls Tryd.prog 60 #[.slice A0 l0.length c0, .slice A1 l1.length c1] w fun e w' => e = .returned (.bool r) ∧ Drawn0 w w' := by
 have HR0 := Aside0.mk hr0
 have HC0 := Aside0.mk hc0
 clear hr0 hc0
 have HR1 := Aside0.mk hr1
 have HC1 := Aside0.mk hc1
 clear hr1 hc1
 have H : (if (l0.length : Int) = (l1.length : Int) then (pleatref00_EqInts.l0 k l0 l1 0) else (some false)) = some r := h
 clear h
 by_cases c3 : (l0.length : Int) = (l1.length : Int)
 ·
  rw [if_pos c3] at H
  have c3b0 : ((l0.length : Int) == (l1.length : Int)) = true := beq_iff_eq.mpr c3
  have c3b1 : ((l0.length : Int) != (l1.length : Int)) = false := bne_eq_false_iff_eq.mpr c3
  have c3b2 : (l0.length == l1.length) = true := by first | simpa using c3 | (simp at c3 ⊢; omega)
  clear c3
  have H' := Aside0.mk H
  clear H
  go_enter Tryd.func60, Tryd.ntmps60
  go_wp2
  repeat (go_quiet (fail); try go_wp2)
  go_loopg [5] k (fun kq v5 w' => ∃ (x5_1 : Int), v5 = .int .i64 x5_1 ∧ Aside0 (pleatref00_EqInts.l0 kq l0 l1 x5_1 = some r) ∧ Aside0 (kq ≤ k) ∧ Drawn0 w w')
  case atStart => exact ⟨(0), (by first | rfl | (simp; done) | (simp [*]; done)), H', ⟨Nat.le_refl _⟩, by repeat (first | exact Drawn0.refl _ | apply Drawn0.step)⟩
  case round =>
   clear H'
   try clear c1
   try clear p2
   try clear c3
   try clear c3b0
   try clear c3b1
   try clear c3b2
   obtain ⟨x5_1, rfl, HA, HK1, ⟨m1, rfl⟩⟩ := hrel
   cases gk with
   | zero => exact absurd HA.out (by simp [pleatref00_EqInts.l0])
   | succ k1 =>
    have H := HA.out
    clear HA
    simp only [pleatref00_EqInts.l0] at H
    by_cases c4 : x5_1 < (l0.length : Int)
    ·
     rw [if_pos c4] at H
     have c4b0 : decide (x5_1 < (l0.length : Int)) = true := decide_eq_true c4
     clear c4
     by_cases c5 : 0 ≤ x5_1
     ·
      rw [if_pos c5] at H
      have c5b0 : decide (0 ≤ x5_1) = true := decide_eq_true c5
      clear c5
      by_cases c6 : x5_1 < (l1.length : Int)
      ·
       rw [if_pos c6] at H
       have c6b0 : decide (x5_1 < (l1.length : Int)) = true := decide_eq_true c6
       clear c6
       by_cases c7 : (rd l0 x5_1) = (rd l1 x5_1)
       ·
        rw [if_pos c7] at H
        have c7b0 : ((rd l0 x5_1) == (rd l1 x5_1)) = true := beq_iff_eq.mpr c7
        have c7b1 : ((rd l0 x5_1) != (rd l1 x5_1)) = false := bne_eq_false_iff_eq.mpr c7
        clear c7
        have H' := Aside0.mk H
        clear H
        have p366 : 0 ≤ (x5_1 : Int) := of_decide_eq_true ‹_›
        have q366 : x5_1 < (l0.length : Int) := of_decide_eq_true ‹_›
        obtain ⟨ad366, e366, hx366_0⟩ := Kd.at_int HR0.out x5_1 p366 q366
        cases e366
        replace p366 := eq_true p366
        replace q366 := eq_true q366
        have p367 : 0 ≤ (x5_1 : Int) := of_decide_eq_true ‹_›
        have q367 : x5_1 < (l1.length : Int) := of_decide_eq_true ‹_›
        obtain ⟨ad367, e367, hx367_0⟩ := Kd.at_int HR1.out x5_1 p367 q367
        cases e367
        replace p367 := eq_true p367
        replace q367 := eq_true q367
        go_wp2
        repeat (go_quiet (fail); try go_wp2)
        go_roundg k1
        case measure => have := HK1.out; omega
        case rel => exact ⟨(wrap64 (x5_1 + 1)), (by first | rfl | (simp; done) | (simp [*]; done)), H', ⟨by have := HK1.out; omega⟩, by repeat (first | exact Drawn0.refl _ | apply Drawn0.step)⟩
       ·
        rw [if_neg c7] at H
        have c7b0 : ((rd l0 x5_1) == (rd l1 x5_1)) = false := beq_eq_false_iff_ne.mpr c7
        have c7b1 : ((rd l0 x5_1) != (rd l1 x5_1)) = true := bne_iff_ne.mpr c7
        obtain rfl := Option.some.inj H
        have p366 : 0 ≤ (x5_1 : Int) := of_decide_eq_true ‹_›
        have q366 : x5_1 < (l0.length : Int) := of_decide_eq_true ‹_›
        obtain ⟨ad366, e366, hx366_0⟩ := Kd.at_int HR0.out x5_1 p366 q366
        cases e366
        replace p366 := eq_true p366
        replace q366 := eq_true q366
        have p367 : 0 ≤ (x5_1 : Int) := of_decide_eq_true ‹_›
        have q367 : x5_1 < (l1.length : Int) := of_decide_eq_true ‹_›
        obtain ⟨ad367, e367, hx367_0⟩ := Kd.at_int HR1.out x5_1 p367 q367
        cases e367
        replace p367 := eq_true p367
        replace q367 := eq_true q367
        go_wp2
        repeat (go_quiet (fail); try go_wp2)
        go_ret
        exact ⟨by first | rfl | (simp; done) | (simp [*]; done), by repeat (first | exact Drawn0.refl _ | apply Drawn0.step)⟩
      ·
       rw [if_neg c6] at H
       exact absurd H (by simp)
     ·
      rw [if_neg c5] at H
      exact absurd H (by simp)
    ·
     rw [if_neg c4] at H
     have c4b0 : decide (x5_1 < (l0.length : Int)) = false := decide_eq_false c4
     clear c4
     obtain rfl := Option.some.inj H
     go_wp2
     repeat (go_quiet (fail); try go_wp2)
     go_ret
     exact ⟨by first | rfl | (simp; done) | (simp [*]; done), by repeat (first | exact Drawn0.refl _ | apply Drawn0.step)⟩
 ·
  rw [if_neg c3] at H
  have c3b0 : ((l0.length : Int) == (l1.length : Int)) = false := beq_eq_false_iff_ne.mpr c3
  have c3b1 : ((l0.length : Int) != (l1.length : Int)) = true := bne_iff_ne.mpr c3
  have c3b2 : (l0.length == l1.length) = false := by first | simpa using c3 | (simp at c3 ⊢; omega)
  obtain rfl := Option.some.inj H
  go_enter Tryd.func60, Tryd.ntmps60
  go_wp2
  repeat (go_quiet (fail); try go_wp2)
  go_ret
  exact ⟨by first | rfl | (simp; done) | (simp [*]; done), by repeat (first | exact Drawn0.refl _ | apply Drawn0.step)⟩

-- NOT PRINTED: function 15 (pleatlaw09_lives)


def pleatref00_CopyObjects.l0 : Nat → List (S27) → List (S27) → Int → Option ((List (S27)))
 | 0, _, _, _ => none
 | k + 1, x0, x3, x4 => if x4 < (x0.length : Int) then (if 0 ≤ x4 then ((pleatref00_CopyObject.f ((rd_T27 x0 x4).f0) ((rd_T27 x0 x4).f1) ((rd_T27 x0 x4).f2) ((rd_T27 x0 x4).f3) ((rd_T27 x0 x4).f4) ((rd_T27 x0 x4).f5)).bind fun bt369 => (if x3.length < 1172812402961 then (pleatref00_CopyObjects.l0 k x0 (x3 ++ [(⟨bt369.1, bt369.2.1, bt369.2.2.1, bt369.2.2.2.1, bt369.2.2.2.2.1, bt369.2.2.2.2.2⟩ : S27)]) (wrap64 (x4 + 1))) else (none))) else (none)) else (some x3)
def pleatref00_CopyObjects.f (k : Nat) (l0 : List (S27)) : Option ((List (S27))) := pleatref00_CopyObjects.l0 k l0 ([] : List (S27)) 0
theorem pleatref00_CopyObjects.mono_l : ∀ k, (∀ y0 y1 y2, LeO (pleatref00_CopyObjects.l0 k y0 y1 y2) (pleatref00_CopyObjects.l0 (k + 1) y0 y1 y2))
 | 0 => fun _ _ _ r h => by simp [pleatref00_CopyObjects.l0] at h
 | k + 1 => by
  have ih0 := pleatref00_CopyObjects.mono_l k
  ·
   intro y0 y1 y2
   unfold pleatref00_CopyObjects.l0
   repeat' first
   | (with_reducible first | exact ih0 _ _ _ | exact LeO.refl _ | exact LeO.none _ | refine LeO.ite ?_ ?_ | refine LeO.bind ?_ (fun _ => ?_))
theorem pleatref00_CopyObjects.mono : ∀ a0 k, LeO (pleatref00_CopyObjects.f k a0) (pleatref00_CopyObjects.f (k + 1) a0) := by
 intro a0 k
 have ih0 := pleatref00_CopyObjects.mono_l k
 unfold pleatref00_CopyObjects.f
 repeat' first
   | (with_reducible first | exact ih0 _ _ _ | exact LeO.refl _ | exact LeO.none _ | refine LeO.ite ?_ ?_ | refine LeO.bind ?_ (fun _ => ?_))
set_option maxHeartbeats 8000000 in
set_option maxRecDepth 100000 in
theorem pleatref00_CopyObjects.calls (k : Nat) (A0 : Option Addr) (c0 : Nat) (l0 : List (S27)) (r : List (S27)) (w : World) (hr0 : Kd.C k27 w A0 l0.length l0) (hc0 : l0.length ≤ c0) (h : pleatref00_CopyObjects.f k l0 = some r) :
  Calls Tryd.prog 17 #[.slice A0 l0.length c0] w fun e w' => ∃ v0_ : Value, e = .returned (v0_) ∧ Kd.S k27 27 w' w.heap.size (fun _ => True) v0_ r ∧ Below w.heap.size w w' := by
 have hu27 := Tryd.underlying27
 have HR0 := Aside0.mk hr0
 have HC0 := Aside0.mk hc0
 clear hr0 hc0
 have HB := Aside0.mk (Below.refl w.heap.size w)
 have H : (pleatref00_CopyObjects.l0 k l0 ([] : List (S27)) 0) = some r := h
 clear h
 have H' := Aside0.mk H
 clear H
 go_enter Tryd.func17, Tryd.ntmps17
 go_wp2
 go_loopg [3, 4] k (fun kq v3 v4 w' => ∃ (x3_1 : List (S27)) (x4_1 : Int), v4 = .int .i64 x4_1 ∧ Aside0 (pleatref00_CopyObjects.l0 kq l0 x3_1 x4_1 = some r) ∧ Aside0 (kq ≤ k) ∧ Aside0 (Kd.S k27 27 w' w.heap.size (fun _ => True) v3 x3_1) ∧ Aside0 (Below w.heap.size w w'))
 case atStart => exact ⟨(([] : List (S27))), (0), (by first | rfl | (simp; done) | (simp [*]; done)), H', ⟨Nat.le_refl _⟩, ⟨by first | exact Kd.S_nil _ _ _ _ _ | exact Kd.N_nil _ _ _ _ _ | exact Kd.V_nil _ _ _ _ _ | exact Kd.Q_nil _ _ _ _ _ | exact Kd.R_nil _ _ _ _ _⟩, ⟨bwQ HB.out⟩⟩
 case round =>
  clear H'
  try clear c1
  obtain ⟨x3_1, x4_1, rfl, HA, HK1, HO_3, HB⟩ := hrel
  cases gk with
  | zero => exact absurd HA.out (by simp [pleatref00_CopyObjects.l0])
  | succ k1 =>
   have H := HA.out
   clear HA
   simp only [pleatref00_CopyObjects.l0] at H
   by_cases c2 : x4_1 < (l0.length : Int)
   ·
    rw [if_pos c2] at H
    have c2b0 : decide (x4_1 < (l0.length : Int)) = true := decide_eq_true c2
    clear c2
    by_cases c3 : 0 ≤ x4_1
    ·
     rw [if_pos c3] at H
     have c3b0 : decide (0 ≤ x4_1) = true := decide_eq_true c3
     clear c3
     replace H := Option.bind_eq_some_iff.mp H
     obtain ⟨⟨t369, t370, t373, t374, t377, t380⟩, A40, H⟩ := H
     try dsimp only at H
     have A4 := Aside0.mk A40
     clear A40
     by_cases c5 : x3_1.length < 1172812402961
     ·
      rw [if_pos c5] at H
      have LMc5 := Aside0.mk c5
      clear c5
      obtain ⟨y383, hy383⟩ : ∃ y_ : List (S27), y_ = (x3_1 ++ [(⟨t369, t370, t373, t374, t377, t380⟩ : S27)]) := ⟨_, rfl⟩
      replace H : (pleatref00_CopyObjects.l0 k1 l0 y383 (wrap64 (x4_1 + 1))) = some r := by first | (rw [hy383]; with_reducible exact H) | (have H2_ := (Option.bind_some _ _).symm.trans H; rw [hy383]; with_reducible exact H2_) | (have H2_ := (Option.bind_some _ _).symm.trans H; with_reducible exact H2_) | with_reducible exact H | (rw [hy383]; exact H) | exact H
      have Ny383 := Aside0.mk hy383
      clear hy383
      have H' := Aside0.mk H
      clear H
      have p368 : 0 ≤ (x4_1 : Int) := of_decide_eq_true ‹_›
      have q368 : x4_1 < (l0.length : Int) := of_decide_eq_true ‹_›
      obtain ⟨ad368, A368_1, c368_1, A368_3, c368_3, A368_4, c368_4, A368_5, c368_5, e368, hx368_0, hx368_1, hx368_2, hx368_3, hx368_4, hx368_5, hl368_1, hi368_1, hl368_3, hi368_3, hl368_4, hi368_4, hl368_5, hi368_5⟩ := atQ27 HR0.out HB.out x4_1 p368 q368
      cases e368
      have HR368_1 := Aside0.mk hi368_1
      have HC368_1 := Aside0.mk hl368_1
      clear hi368_1 hl368_1
      have HR368_3 := Aside0.mk hi368_3
      have HC368_3 := Aside0.mk hl368_3
      clear hi368_3 hl368_3
      have HR368_4 := Aside0.mk hi368_4
      have HC368_4 := Aside0.mk hl368_4
      clear hi368_4 hl368_4
      have HR368_5 := Aside0.mk hi368_5
      have HC368_5 := Aside0.mk hl368_5
      clear hi368_5 hl368_5
      replace p368 := eq_true p368
      replace q368 := eq_true q368
      go_wp2_with (first | ((with_reducible refine gate_callee (f := 12) rfl ?_); refine goesL_ (some 16) rfl rfl Tryd.func12 (by kernel_rfl) rfl #[.agg #[.string ((rd_T27 l0 x4_1).f0), .slice A368_1 ((rd_T27 l0 x4_1).f1).length c368_1, .int .i64 ((rd_T27 l0 x4_1).f2), .slice A368_3 ((rd_T27 l0 x4_1).f3).length c368_3, .slice A368_4 ((rd_T27 l0 x4_1).f4).length c368_4, .slice A368_5 ((rd_T27 l0 x4_1).f5).length c368_5]] rfl (by (try simp only [List.map_toArray, List.map_cons, List.map_nil]); try rfl) ?_; (with_reducible refine (pleatref00_CopyObject.calls ((rd_T27 l0 x4_1).f0) _ _ ((rd_T27 l0 x4_1).f1) ((rd_T27 l0 x4_1).f2) _ _ ((rd_T27 l0 x4_1).f3) _ _ ((rd_T27 l0 x4_1).f4) _ _ ((rd_T27 l0 x4_1).f5) t369 t370 t373 t374 t377 t380 _ ?side1 ?side2 ?side3 ?side4 ?side5 ?side6 ?side7 ?side8 A4.out).mono ?_); (case side1 => exact cbQ HB.out HR368_1.out); (case side2 => exact HC368_1.out); (case side3 => exact cbQ HB.out HR368_3.out); (case side4 => exact HC368_3.out); (case side5 => exact cbQ HB.out HR368_4.out); (case side6 => exact HC368_4.out); (case side7 => exact cbQ HB.out HR368_5.out); (case side8 => exact HC368_5.out); rintro e w6 ⟨v371, v375, v378, v381, rfl, ho0, ho1, ho2, ho3, hb⟩; refine ⟨_, rfl, ?_⟩; have n0_ := Aside0.mk (Kd.S_mono (Kd.S_told (Kd.S_told (Kd.S_told (Kd.S_told (Kd.S_old (by (with_reducible repeat (first | apply Kd.S_alloc | apply Kd.S_drewN | apply Kd.S_drew)); exact HO_3.out) hb) (Kd.R_base ho0)) (Kd.R_base ho1)) (Kd.R_base ho2)) (Kd.R_base ho3)) (fun _ h_ => h_.1)); have n1_ := Aside0.mk (Kd.R_lower ho0 (below_size (bwQ HB.out))); have n2_ := Aside0.mk (Kd.R_lower ho1 (below_size (bwQ HB.out))); have n3_ := Aside0.mk (Kd.R_lower ho2 (below_size (bwQ HB.out))); have n4_ := Aside0.mk (Kd.R_lower ho3 (below_size (bwQ HB.out))); have n5_ := Aside0.mk (bsQ hb HB.out); clear HO_3; clear HB; have HO_3 := n0_; have HO372 := n1_; have HO376 := n2_; have HO379 := n3_; have HO382 := n4_; have HB := n5_; clear n0_ n1_ n2_ n3_ n4_ n5_; (try clear hb); (try clear hb2); (try clear hk); (try clear hi); (try clear ho0); (try clear ho1); (try clear ho2); (try clear ho3); obtain ⟨Ao8, co8, eo8⟩ := Kd.R_slice HO372.out; subst eo8; obtain ⟨Ao9, co9, eo9⟩ := Kd.R_slice HO376.out; subst eo9; obtain ⟨Ao10, co10, eo10⟩ := Kd.R_slice HO379.out; subst eo10; obtain ⟨Ao11, co11, eo11⟩ := Kd.R_slice HO382.out; subst eo11) | ((with_reducible refine gate_builtin (b := .append) (xs := #[.tmp 11, .tmp 17]) rfl ?_); at_builtin; refine Kd.S_append k27 (w0 := w) w.heap.size rfl (.tmp 11) (.tmp 17) 43 27 (.agg #[(.string ⟨#[]⟩), (.slice none 0 0), (.int .i64 0), (.slice none 0 0), (.slice none 0 0), (.slice none 0 0)]) 120 rfl Tryd.underlying43 info27 rfl (by decide) (by omega) u3 x3_1 (⟨t369, t370, t373, t374, t377, t380⟩ : S27) [.string t369, .slice Ao8 t370.length co8, .int .i64 t373, .slice Ao9 t374.length co9, .slice Ao10 t377.length co10, .slice Ao11 t380.length co11] (fun _ => True) (fun k_ => some k_ = (.slice Ao8 t370.length co8 : Value).ownBlock ∨ some k_ = (.slice Ao9 t374.length co9 : Value).ownBlock ∨ some k_ = (.slice Ao10 t377.length co10 : Value).ownBlock ∨ some k_ = (.slice Ao11 t380.length co11 : Value).ownBlock) rfl rfl ?aP (fun k_ hk_ => hk_.elim (fun h_ => ((Kd.R_mono (ok' := fun k_ => ((fun _ => True)) k_ ∧ some k_ ≠ (u3 : Value).ownBlock) (Kd.R_apart' (HO372.out) (Kd.S_typed HO_3.out) (by decide)) (fun k_ hk => ⟨trivial, hk.2⟩))).1 k_ h_.symm) (fun h_ => h_.elim (fun h_ => ((Kd.R_mono (ok' := fun k_ => ((fun _ => True)) k_ ∧ some k_ ≠ (u3 : Value).ownBlock) (Kd.R_apart' (HO376.out) (Kd.S_typed HO_3.out) (by decide)) (fun k_ hk => ⟨trivial, hk.2⟩))).1 k_ h_.symm) (fun h_ => h_.elim (fun h_ => ((Kd.R_mono (ok' := fun k_ => ((fun _ => True)) k_ ∧ some k_ ≠ (u3 : Value).ownBlock) (Kd.R_apart' (HO379.out) (Kd.S_typed HO_3.out) (by decide)) (fun k_ hk => ⟨trivial, hk.2⟩))).1 k_ h_.symm) (fun h_ => ((Kd.R_mono (ok' := fun k_ => ((fun _ => True)) k_ ∧ some k_ ≠ (u3 : Value).ownBlock) (Kd.R_apart' (HO382.out) (Kd.S_typed HO_3.out) (by decide)) (fun k_ hk => ⟨trivial, hk.2⟩))).1 k_ h_.symm)))) ?aF ?aO ?aB ?aS ?aL ?_; (case aP => exact k27_mkM _ _ _ (⟨t369, t370, t373, t374, t377, t380⟩ : S27) (Kd.R_mono (Kd.R_tight rfl (Kd.R_mono (ok' := fun k_ => ((fun _ => True)) k_ ∧ some k_ ≠ (u3 : Value).ownBlock) (Kd.R_apart' (HO372.out) (Kd.S_typed HO_3.out) (by decide)) (fun k_ hk => ⟨trivial, hk.2⟩))) (fun _ h_ => Or.inl h_)) (Kd.R_mono (Kd.R_tight rfl (Kd.R_mono (ok' := fun k_ => ((fun _ => True)) k_ ∧ some k_ ≠ (u3 : Value).ownBlock) (Kd.R_apart' (HO376.out) (Kd.S_typed HO_3.out) (by decide)) (fun k_ hk => ⟨trivial, hk.2⟩))) (fun _ h_ => Or.inr (Or.inl h_))) (Kd.R_mono (Kd.R_tight rfl (Kd.R_mono (ok' := fun k_ => ((fun _ => True)) k_ ∧ some k_ ≠ (u3 : Value).ownBlock) (Kd.R_apart' (HO379.out) (Kd.S_typed HO_3.out) (by decide)) (fun k_ hk => ⟨trivial, hk.2⟩))) (fun _ h_ => Or.inr (Or.inr (Or.inl h_)))) (Kd.R_mono (Kd.R_tight rfl (Kd.R_mono (ok' := fun k_ => ((fun _ => True)) k_ ∧ some k_ ≠ (u3 : Value).ownBlock) (Kd.R_apart' (HO382.out) (Kd.S_typed HO_3.out) (by decide)) (fun k_ hk => ⟨trivial, hk.2⟩))) (fun _ h_ => Or.inr (Or.inr (Or.inr (h_)))))); (case aB => exact (bwQ HB.out)); (case aF => exact (fun _ _ => trivial)); (case aO => exact (by (with_reducible repeat (first | apply Kd.S_alloc | apply Kd.S_drewN | apply Kd.S_drew)); exact Kd.S_mono HO_3.out (fun k_ hk => ⟨trivial, fun e_ => e_.elim (fun h_ => hk.1.1.1.2 h_) (fun h_ => h_.elim (fun h_ => hk.1.1.2 h_) (fun h_ => h_.elim (fun h_ => hk.1.2 h_) (fun h_ => hk.2 h_)))⟩))); (case aS => exact (below_size (bwQ HB.out))); (case aL => have := LMc5.out; omega); intro v384 w7 ho hb hg hat; rw [← Ny383.out] at ho; replace HB := Aside0.mk (hb); have HO385 := Aside0.mk (ho); clear HO_3; clear HO372; clear HO376; clear HO379; clear HO382; clear ho hb hg hat))
      go_roundg k1
      case measure => have := HK1.out; omega
      case rel => exact ⟨(y383), (wrap64 (x4_1 + 1)), (by first | rfl | (simp; done) | (simp [*]; done)), H', ⟨by have := HK1.out; omega⟩, ⟨by (with_reducible repeat (first | apply Kd.S_alloc | apply Kd.S_drewN | apply Kd.S_drew)); exact HO385.out⟩, ⟨bwQ HB.out⟩⟩
     ·
      rw [if_neg c5] at H
      exact absurd H (by simp)
    ·
     rw [if_neg c3] at H
     exact absurd H (by simp)
   ·
    rw [if_neg c2] at H
    have c2b0 : decide (x4_1 < (l0.length : Int)) = false := decide_eq_false c2
    clear c2
    obtain rfl := Option.some.inj H
    go_wp2
    go_ret
    exact ⟨_, by first | rfl | (simp [errW_none, errW_some] <;> rfl) | (simp [*, errW_none, errW_some] <;> rfl), by (with_reducible repeat (first | apply Kd.S_alloc | apply Kd.S_drewN | apply Kd.S_drew)); exact HO_3.out, bwQ HB.out⟩


def image_Check.l0 : Nat → Int → List Int → Int → Int → List Int → Int → List Int → Option (Int × Int)
 | 0, _, _, _, _, _, _, _ => none
 | k + 1, x4, x34, x35, x36, x387000, x387001, x387002 => if x36 < x35 then (if 0 ≤ x36 then (if x36 < (x34.length : Int) then ((isa_Target.f k (rd x34 x36)).bind fun bt388 => (if bt388.2 = true then (if bt388.1 ≥ x4 then (some (22, x36)) else (image_Check.l0 k x4 x34 x35 (wrap64 (x36 + 1)) x387000 x387001 x387002)) else (image_Check.l0 k x4 x34 x35 (wrap64 (x36 + 1)) x387000 x387001 x387002))) else (none)) else (none)) else (if 0 ≤ (wrap64 (x4 - 1)) then (if (wrap64 (x4 - 1)) < (x387000.length : Int) then ((isa_Decode.f k (rd x387000 (wrap64 (x4 - 1)))).bind fun bt391 => (if bt391.1 = 0 then (some (0, 0)) else (if bt391.1 = 15 then (some (0, 0)) else (if bt391.1 = 19 then (some (0, 0)) else (if bt391.1 = 21 then (some (0, 0)) else (some (50, wrap64 (x4 - 1)))))))) else (none)) else (none))
def image_Check.f (k : Nat) (l0_0 : List Int) (a0_1 : Int) (l0_2 : List Int) : Option (Int × Int) := if (l0_0.length : Int) = 0 then (some (50, 0)) else (if (l0_0.length : Int) > 16384 then (some (42, 16384)) else (if (l0_2.length : Int) > 4096 then (some (25, 4096)) else (if a0_1 < 0 then (some (41, 0)) else (if a0_1 ≥ (l0_0.length : Int) then (some (41, 0)) else (image_Check.l0 k (l0_0.length : Int) l0_0 (l0_0.length : Int) 0 l0_0 a0_1 l0_2)))))
theorem image_Check.mono_l : ∀ k, (∀ y0 y1 y2 y3 y4 y5 y6, LeO (image_Check.l0 k y0 y1 y2 y3 y4 y5 y6) (image_Check.l0 (k + 1) y0 y1 y2 y3 y4 y5 y6))
 | 0 => fun _ _ _ _ _ _ _ r h => by simp [image_Check.l0] at h
 | k + 1 => by
  have ih0 := image_Check.mono_l k
  ·
   intro y0 y1 y2 y3 y4 y5 y6
   unfold image_Check.l0
   repeat' first
   | (with_reducible first | exact ih0 _ _ _ _ _ _ _ | exact isa_Decode.mono _ _ | exact isa_Target.mono _ _ | exact LeO.refl _ | exact LeO.none _ | refine LeO.ite ?_ ?_ | refine LeO.bind ?_ (fun _ => ?_))
theorem image_Check.mono : ∀ a0 a1 a2 k, LeO (image_Check.f k a0 a1 a2) (image_Check.f (k + 1) a0 a1 a2) := by
 intro a0 a1 a2 k
 have ih0 := image_Check.mono_l k
 unfold image_Check.f
 repeat' first
   | (with_reducible first | exact ih0 _ _ _ _ _ _ _ | exact isa_Decode.mono _ _ | exact isa_Target.mono _ _ | exact LeO.refl _ | exact LeO.none _ | refine LeO.ite ?_ ?_ | refine LeO.bind ?_ (fun _ => ?_))
set_option maxHeartbeats 8000000 in
set_option maxRecDepth 100000 in
theorem image_Check.calls (k : Nat) (A0_0 : Option Addr) (c0_0 : Nat) (l0_0 : List Int) (a0_1 : Int) (A0_2 : Option Addr) (c0_2 : Nat) (l0_2 : List Int) (r1 : Int) (r2 : Int) (w : World) (hr0_0 : Kd.C (Kd.int .u32) w A0_0 l0_0.length l0_0) (hc0_0 : l0_0.length ≤ c0_0) (hr0_2 : Kd.C (Kd.int .i64) w A0_2 l0_2.length l0_2) (hc0_2 : l0_2.length ≤ c0_2) (h : image_Check.f k l0_0 a0_1 l0_2 = some (r1, r2)) :
  Calls Tryd.prog 18 #[.agg #[.slice A0_0 l0_0.length c0_0, .int .i64 a0_1, .slice A0_2 l0_2.length c0_2]] w fun e w' => e = .returned (.tuple #[.int .i64 r1, .int .i64 r2]) ∧ Below w.heap.size w w' := by
 have hu46 := Tryd.underlying46
 have hu127 := Tryd.underlying127
 have hfl127_0 : ∀ (c0_ c1_ c2_ c3_ c4_ : Value) (W_ : World), (Instr.field 127 (.agg #[c0_, c1_, c2_, c3_, c4_]) 0).run Tryd.prog W_ = .ok c0_ W_ := fun _ _ _ _ _ _ => by kernel_rfl
 have HR0_0 := Aside0.mk hr0_0
 have HC0_0 := Aside0.mk hc0_0
 clear hr0_0 hc0_0
 have HR0_2 := Aside0.mk hr0_2
 have HC0_2 := Aside0.mk hc0_2
 clear hr0_2 hc0_2
 have HB := Aside0.mk (Below.refl w.heap.size w)
 have H : (if (l0_0.length : Int) = 0 then (some (50, 0)) else (if (l0_0.length : Int) > 16384 then (some (42, 16384)) else (if (l0_2.length : Int) > 4096 then (some (25, 4096)) else (if a0_1 < 0 then (some (41, 0)) else (if a0_1 ≥ (l0_0.length : Int) then (some (41, 0)) else (image_Check.l0 k (l0_0.length : Int) l0_0 (l0_0.length : Int) 0 l0_0 a0_1 l0_2)))))) = some (r1, r2) := h
 clear h
 by_cases c2 : (l0_0.length : Int) = 0
 ·
  rw [if_pos c2] at H
  have c2b0 : ((l0_0.length : Int) == 0) = true := beq_iff_eq.mpr c2
  have c2b1 : ((l0_0.length : Int) != 0) = false := bne_eq_false_iff_eq.mpr c2
  clear c2
  simp only [Option.some.injEq, Prod.mk.injEq] at H
  obtain ⟨rfl, rfl⟩ := H
  go_enter Tryd.func18, Tryd.ntmps18
  go_wp2_with (first | ((with_reducible refine gate_dst (N := 1) rfl ?_); refine box_event ?hg (N := 1) ?hd (cs := #[.slice A0_0 l0_0.length c0_0, .int .i64 a0_1, .slice A0_2 l0_2.length c0_2]) (t := 46) ?hr ?_; (case hd => rfl); (case hg => rfl); (case hr => go_simp; try rfl); intro gb386 hg w3 hbox hb; have BK386 := Aside0.mk (hbox); have GW386 := Aside0.mk (gwQ hg HB.out); have GE386 := Aside0.mk (gwQ hg HB.out); replace HB := Aside0.mk (bsQ hb HB.out); clear hb hbox hg; obtain ⟨hcz4_0, hcz4_1, hcz4_2⟩ := bcQ3 BK386.out; obtain ⟨hfz4_0, hfz4_1, hfz4_2⟩ := fzQ3 BK386.out))
  go_ret2
  exact ⟨by first | rfl | (simp [errW_none, errW_some] <;> rfl) | (simp [*, errW_none, errW_some] <;> rfl), by repeat with_reducible first | exact HB.out | apply pw_below_drewN | apply below_drew1 | refine below_set ?_ GE386.out⟩
 ·
  rw [if_neg c2] at H
  have c2b0 : ((l0_0.length : Int) == 0) = false := beq_eq_false_iff_ne.mpr c2
  have c2b1 : ((l0_0.length : Int) != 0) = true := bne_iff_ne.mpr c2
  have c2b2 : ¬ (l0_0 = []) := fun h_ => c2 (by rw [h_]; rfl)
  by_cases c5 : (l0_0.length : Int) > 16384
  ·
   rw [if_pos c5] at H
   have c5b0 : decide (16384 < (l0_0.length : Int)) = true := decide_eq_true c5
   have c5b1 : decide (16384 < l0_0.length) = true := decide_eq_true (by omega)
   clear c5
   simp only [Option.some.injEq, Prod.mk.injEq] at H
   obtain ⟨rfl, rfl⟩ := H
   go_enter Tryd.func18, Tryd.ntmps18
   go_wp2_with (first | ((with_reducible refine gate_dst (N := 1) rfl ?_); refine box_event ?hg (N := 1) ?hd (cs := #[.slice A0_0 l0_0.length c0_0, .int .i64 a0_1, .slice A0_2 l0_2.length c0_2]) (t := 46) ?hr ?_; (case hd => rfl); (case hg => rfl); (case hr => go_simp; try rfl); intro gb386 hg w6 hbox hb; have BK386 := Aside0.mk (hbox); have GW386 := Aside0.mk (gwQ hg HB.out); have GE386 := Aside0.mk (gwQ hg HB.out); replace HB := Aside0.mk (bsQ hb HB.out); clear hb hbox hg; obtain ⟨hcz7_0, hcz7_1, hcz7_2⟩ := bcQ3 BK386.out; obtain ⟨hfz7_0, hfz7_1, hfz7_2⟩ := fzQ3 BK386.out))
   go_ret2
   exact ⟨by first | rfl | (simp [errW_none, errW_some] <;> rfl) | (simp [*, errW_none, errW_some] <;> rfl), by repeat with_reducible first | exact HB.out | apply pw_below_drewN | apply below_drew1 | refine below_set ?_ GE386.out⟩
  ·
   rw [if_neg c5] at H
   have c5b0 : decide (16384 < (l0_0.length : Int)) = false := decide_eq_false c5
   have c5b1 : decide (16384 < l0_0.length) = false := decide_eq_false (by omega)
   clear c5
   by_cases c8 : (l0_2.length : Int) > 4096
   ·
    rw [if_pos c8] at H
    have c8b0 : decide (4096 < (l0_2.length : Int)) = true := decide_eq_true c8
    have c8b1 : decide (4096 < l0_2.length) = true := decide_eq_true (by omega)
    clear c8
    simp only [Option.some.injEq, Prod.mk.injEq] at H
    obtain ⟨rfl, rfl⟩ := H
    go_enter Tryd.func18, Tryd.ntmps18
    go_wp2_with (first | ((with_reducible refine gate_dst (N := 1) rfl ?_); refine box_event ?hg (N := 1) ?hd (cs := #[.slice A0_0 l0_0.length c0_0, .int .i64 a0_1, .slice A0_2 l0_2.length c0_2]) (t := 46) ?hr ?_; (case hd => rfl); (case hg => rfl); (case hr => go_simp; try rfl); intro gb386 hg w9 hbox hb; have BK386 := Aside0.mk (hbox); have GW386 := Aside0.mk (gwQ hg HB.out); have GE386 := Aside0.mk (gwQ hg HB.out); replace HB := Aside0.mk (bsQ hb HB.out); clear hb hbox hg; obtain ⟨hcz10_0, hcz10_1, hcz10_2⟩ := bcQ3 BK386.out; obtain ⟨hfz10_0, hfz10_1, hfz10_2⟩ := fzQ3 BK386.out))
    go_ret2
    exact ⟨by first | rfl | (simp [errW_none, errW_some] <;> rfl) | (simp [*, errW_none, errW_some] <;> rfl), by repeat with_reducible first | exact HB.out | apply pw_below_drewN | apply below_drew1 | refine below_set ?_ GE386.out⟩
   ·
    rw [if_neg c8] at H
    have c8b0 : decide (4096 < (l0_2.length : Int)) = false := decide_eq_false c8
    have c8b1 : decide (4096 < l0_2.length) = false := decide_eq_false (by omega)
    clear c8
    by_cases c11 : a0_1 < 0
    ·
     rw [if_pos c11] at H
     have c11b0 : decide (a0_1 < 0) = true := decide_eq_true c11
     clear c11
     simp only [Option.some.injEq, Prod.mk.injEq] at H
     obtain ⟨rfl, rfl⟩ := H
     go_enter Tryd.func18, Tryd.ntmps18
     go_wp2_with (first | ((with_reducible refine gate_dst (N := 1) rfl ?_); refine box_event ?hg (N := 1) ?hd (cs := #[.slice A0_0 l0_0.length c0_0, .int .i64 a0_1, .slice A0_2 l0_2.length c0_2]) (t := 46) ?hr ?_; (case hd => rfl); (case hg => rfl); (case hr => go_simp; try rfl); intro gb386 hg w12 hbox hb; have BK386 := Aside0.mk (hbox); have GW386 := Aside0.mk (gwQ hg HB.out); have GE386 := Aside0.mk (gwQ hg HB.out); replace HB := Aside0.mk (bsQ hb HB.out); clear hb hbox hg; obtain ⟨hcz13_0, hcz13_1, hcz13_2⟩ := bcQ3 BK386.out; obtain ⟨hfz13_0, hfz13_1, hfz13_2⟩ := fzQ3 BK386.out))
     go_ret2
     exact ⟨by first | rfl | (simp [errW_none, errW_some] <;> rfl) | (simp [*, errW_none, errW_some] <;> rfl), by repeat with_reducible first | exact HB.out | apply pw_below_drewN | apply below_drew1 | refine below_set ?_ GE386.out⟩
    ·
     rw [if_neg c11] at H
     have c11b0 : decide (a0_1 < 0) = false := decide_eq_false c11
     clear c11
     by_cases c14 : a0_1 ≥ (l0_0.length : Int)
     ·
      rw [if_pos c14] at H
      have c14b0 : decide ((l0_0.length : Int) ≤ a0_1) = true := decide_eq_true c14
      clear c14
      simp only [Option.some.injEq, Prod.mk.injEq] at H
      obtain ⟨rfl, rfl⟩ := H
      go_enter Tryd.func18, Tryd.ntmps18
      go_wp2_with (first | ((with_reducible refine gate_dst (N := 1) rfl ?_); refine box_event ?hg (N := 1) ?hd (cs := #[.slice A0_0 l0_0.length c0_0, .int .i64 a0_1, .slice A0_2 l0_2.length c0_2]) (t := 46) ?hr ?_; (case hd => rfl); (case hg => rfl); (case hr => go_simp; try rfl); intro gb386 hg w15 hbox hb; have BK386 := Aside0.mk (hbox); have GW386 := Aside0.mk (gwQ hg HB.out); have GE386 := Aside0.mk (gwQ hg HB.out); replace HB := Aside0.mk (bsQ hb HB.out); clear hb hbox hg; obtain ⟨hcz16_0, hcz16_1, hcz16_2⟩ := bcQ3 BK386.out; obtain ⟨hfz16_0, hfz16_1, hfz16_2⟩ := fzQ3 BK386.out))
      go_ret2
      exact ⟨by first | rfl | (simp [errW_none, errW_some] <;> rfl) | (simp [*, errW_none, errW_some] <;> rfl), by repeat with_reducible first | exact HB.out | apply pw_below_drewN | apply below_drew1 | refine below_set ?_ GE386.out⟩
     ·
      rw [if_neg c14] at H
      have c14b0 : decide ((l0_0.length : Int) ≤ a0_1) = false := decide_eq_false c14
      clear c14
      have H' := Aside0.mk H
      clear H
      go_enter Tryd.func18, Tryd.ntmps18
      go_wp2_with (first | ((with_reducible refine gate_dst (N := 1) rfl ?_); refine box_event ?hg (N := 1) ?hd (cs := #[.slice A0_0 l0_0.length c0_0, .int .i64 a0_1, .slice A0_2 l0_2.length c0_2]) (t := 46) ?hr ?_; (case hd => rfl); (case hg => rfl); (case hr => go_simp; try rfl); intro gb386 hg w17 hbox hb; have BK386 := Aside0.mk (hbox); have GW386 := Aside0.mk (gwQ hg HB.out); have GE386 := Aside0.mk (gwQ hg HB.out); replace HB := Aside0.mk (bsQ hb HB.out); clear hb hbox hg; obtain ⟨hcz18_0, hcz18_1, hcz18_2⟩ := bcQ3 BK386.out; obtain ⟨hfz18_0, hfz18_1, hfz18_2⟩ := fzQ3 BK386.out))
      go_loopg [36] k (fun kq v36 w' => ∃ (x36_1 : Int), v36 = .int .i64 x36_1 ∧ Aside0 (image_Check.l0 kq (l0_0.length : Int) l0_0 (l0_0.length : Int) x36_1 l0_0 a0_1 l0_2 = some (r1, r2)) ∧ Aside0 (kq ≤ k) ∧ Aside0 (w'.heap[gb386]? = some (.cells #[(.slice A0_0 l0_0.length c0_0), .int .i64 a0_1, (.slice A0_2 l0_2.length c0_2)] 46 (0, 0))) ∧ Aside0 (Below w.heap.size w w'))
      case atStart => exact ⟨(0), (by first | rfl | (simp; done) | (simp [*]; done)), H', ⟨Nat.le_refl _⟩, ⟨by exact BK386.out⟩, ⟨by repeat with_reducible first | exact HB.out | apply pw_below_drewN | apply below_drew1 | refine below_set ?_ GE386.out⟩⟩
      case round =>
       clear H'
       try clear c1
       try clear c2
       try clear c2b0
       try clear c2b1
       try clear c2b2
       try clear p2
       try clear c5
       try clear c5b0
       try clear c5b1
       try clear c8
       try clear c8b0
       try clear c8b1
       try clear c11
       try clear c11b0
       try clear c14
       try clear c14b0
       try clear c18
       try clear hcz10_0 hcz10_1 hcz10_2
       try clear hcz13_0 hcz13_1 hcz13_2
       try clear hcz16_0 hcz16_1 hcz16_2
       try clear hcz18_0 hcz18_1 hcz18_2
       try clear hcz4_0 hcz4_1 hcz4_2
       try clear hcz7_0 hcz7_1 hcz7_2
       try clear hfz10_0 hfz10_1 hfz10_2
       try clear hfz13_0 hfz13_1 hfz13_2
       try clear hfz16_0 hfz16_1 hfz16_2
       try clear hfz18_0 hfz18_1 hfz18_2
       try clear hfz4_0 hfz4_1 hfz4_2
       try clear hfz7_0 hfz7_1 hfz7_2
       obtain ⟨x36_1, rfl, HA, HK1, BK386, HB⟩ := hrel
       cases gk with
       | zero => exact absurd HA.out (by simp [image_Check.l0])
       | succ k1 =>
        have H := HA.out
        clear HA
        simp only [image_Check.l0] at H
        by_cases c19 : x36_1 < (l0_0.length : Int)
        ·
         rw [if_pos c19] at H
         have c19b0 : decide (x36_1 < (l0_0.length : Int)) = true := decide_eq_true c19
         clear c19
         by_cases c20 : 0 ≤ x36_1
         ·
          rw [if_pos c20] at H
          have c20b0 : decide (0 ≤ x36_1) = true := decide_eq_true c20
          clear c20
          by_cases c21 : x36_1 < (l0_0.length : Int)
          ·
           rw [if_pos c21] at H
           have c21b0 : decide (x36_1 < (l0_0.length : Int)) = true := decide_eq_true c21
           clear c21
           replace H := Option.bind_eq_some_iff.mp H
           obtain ⟨⟨t388, t389⟩, A220, H⟩ := H
           try dsimp only at H
           have A22 := Aside0.mk A220
           clear A220
           by_cases c23 : t389 = true
           ·
            subst c23
            rw [if_pos rfl] at H
            by_cases c24 : t388 ≥ (l0_0.length : Int)
            ·
             rw [if_pos c24] at H
             have c24b0 : decide ((l0_0.length : Int) ≤ t388) = true := decide_eq_true c24
             clear c24
             simp only [Option.some.injEq, Prod.mk.injEq] at H
             obtain ⟨rfl, rfl⟩ := H
             have p387 : 0 ≤ (x36_1 : Int) := of_decide_eq_true ‹_›
             have q387 : x36_1 < (l0_0.length : Int) := of_decide_eq_true ‹_›
             obtain ⟨ad387, e387, hx387_0⟩ := Kd.at_int HR0_0.out x36_1 p387 q387
             cases e387
             replace hx387_0 := pw_cell_below HB.out hx387_0
             replace p387 := eq_true p387
             replace q387 := eq_true q387
             go_wp2_with (first | ((with_reducible refine gate_callee (f := 23) rfl ?_); refine goesL_ (some 43) rfl rfl Tryd.func23 (by kernel_rfl) rfl #[.int .u32 (rd l0_0 x36_1)] rfl (by (try simp only [List.map_toArray, List.map_cons, List.map_nil]); try rfl) ?_; (with_reducible refine (isa_Target.calls k1 (rd l0_0 x36_1) t388 true _ A22.out).mono ?_); rintro e w25 ⟨rfl, hb⟩; refine ⟨_, rfl, ?_⟩; replace BK386 := Aside0.mk (bbQ hb BK386.out); replace HB := Aside0.mk (bs1Q hb (by repeat with_reducible first | exact HB.out | apply pw_below_drewN | apply below_drew1 | refine below_set ?_ GE386.out)); (try clear hb); (try clear hb2); (try clear hk); (try clear hi)))
             go_ret2
             exact ⟨by first | rfl | (simp [errW_none, errW_some] <;> rfl) | (simp [*, errW_none, errW_some] <;> rfl), by repeat with_reducible first | exact HB.out | apply pw_below_drewN | apply below_drew1 | refine below_set ?_ GE386.out⟩
            ·
             rw [if_neg c24] at H
             have c24b0 : decide ((l0_0.length : Int) ≤ t388) = false := decide_eq_false c24
             clear c24
             have H' := Aside0.mk H
             clear H
             have p387 : 0 ≤ (x36_1 : Int) := of_decide_eq_true ‹_›
             have q387 : x36_1 < (l0_0.length : Int) := of_decide_eq_true ‹_›
             obtain ⟨ad387, e387, hx387_0⟩ := Kd.at_int HR0_0.out x36_1 p387 q387
             cases e387
             replace hx387_0 := pw_cell_below HB.out hx387_0
             replace p387 := eq_true p387
             replace q387 := eq_true q387
             go_wp2_with (first | ((with_reducible refine gate_callee (f := 23) rfl ?_); refine goesL_ (some 43) rfl rfl Tryd.func23 (by kernel_rfl) rfl #[.int .u32 (rd l0_0 x36_1)] rfl (by (try simp only [List.map_toArray, List.map_cons, List.map_nil]); try rfl) ?_; (with_reducible refine (isa_Target.calls k1 (rd l0_0 x36_1) t388 true _ A22.out).mono ?_); rintro e w26 ⟨rfl, hb⟩; refine ⟨_, rfl, ?_⟩; replace BK386 := Aside0.mk (bbQ hb BK386.out); replace HB := Aside0.mk (bs1Q hb (by repeat with_reducible first | exact HB.out | apply pw_below_drewN | apply below_drew1 | refine below_set ?_ GE386.out)); (try clear hb); (try clear hb2); (try clear hk); (try clear hi)))
             go_roundg k1
             case measure => have := HK1.out; omega
             case rel => exact ⟨(wrap64 (x36_1 + 1)), (by first | rfl | (simp; done) | (simp [*]; done)), H', ⟨by have := HK1.out; omega⟩, ⟨by exact BK386.out⟩, ⟨by repeat with_reducible first | exact HB.out | apply pw_below_drewN | apply below_drew1 | refine below_set ?_ GE386.out⟩⟩
           ·
            replace c23 := Bool.eq_false_iff.mpr c23
            subst c23
            rw [if_neg Bool.false_ne_true] at H
            have H' := Aside0.mk H
            clear H
            have p387 : 0 ≤ (x36_1 : Int) := of_decide_eq_true ‹_›
            have q387 : x36_1 < (l0_0.length : Int) := of_decide_eq_true ‹_›
            obtain ⟨ad387, e387, hx387_0⟩ := Kd.at_int HR0_0.out x36_1 p387 q387
            cases e387
            replace hx387_0 := pw_cell_below HB.out hx387_0
            replace p387 := eq_true p387
            replace q387 := eq_true q387
            go_wp2_with (first | ((with_reducible refine gate_callee (f := 23) rfl ?_); refine goesL_ (some 43) rfl rfl Tryd.func23 (by kernel_rfl) rfl #[.int .u32 (rd l0_0 x36_1)] rfl (by (try simp only [List.map_toArray, List.map_cons, List.map_nil]); try rfl) ?_; (with_reducible refine (isa_Target.calls k1 (rd l0_0 x36_1) t388 false _ A22.out).mono ?_); rintro e w27 ⟨rfl, hb⟩; refine ⟨_, rfl, ?_⟩; replace BK386 := Aside0.mk (bbQ hb BK386.out); replace HB := Aside0.mk (bs1Q hb (by repeat with_reducible first | exact HB.out | apply pw_below_drewN | apply below_drew1 | refine below_set ?_ GE386.out)); (try clear hb); (try clear hb2); (try clear hk); (try clear hi)))
            go_roundg k1
            case measure => have := HK1.out; omega
            case rel => exact ⟨(wrap64 (x36_1 + 1)), (by first | rfl | (simp; done) | (simp [*]; done)), H', ⟨by have := HK1.out; omega⟩, ⟨by exact BK386.out⟩, ⟨by repeat with_reducible first | exact HB.out | apply pw_below_drewN | apply below_drew1 | refine below_set ?_ GE386.out⟩⟩
          ·
           rw [if_neg c21] at H
           exact absurd H (by simp)
         ·
          rw [if_neg c20] at H
          exact absurd H (by simp)
        ·
         rw [if_neg c19] at H
         have c19b0 : decide (x36_1 < (l0_0.length : Int)) = false := decide_eq_false c19
         clear c19
         obtain ⟨ji28, hji28⟩ : ∃ j_ : Int, (wrap64 ((l0_0.length : Int) - 1)) = j_ := ⟨_, rfl⟩
         replace H : (if 0 ≤ (ji28) then (if (ji28) < (l0_0.length : Int) then ((isa_Decode.f k1 (rd l0_0 (ji28))).bind fun bt391 => (if bt391.1 = 0 then (some (0, 0)) else (if bt391.1 = 15 then (some (0, 0)) else (if bt391.1 = 19 then (some (0, 0)) else (if bt391.1 = 21 then (some (0, 0)) else (some (50, ji28))))))) else (none)) else (none)) = some (r1, r2) := by first | (rw [hji28] at H; exact H) | (simp only [hji28] at H ⊢; exact H)
         have hji28w : (IntKind.i64.wrap ((l0_0.length : Int) - 1)) = ji28 := (i64_w _).trans hji28
         by_cases c29 : 0 ≤ (ji28)
         ·
          rw [if_pos c29] at H
          have c29b0 : decide (0 ≤ (ji28)) = true := decide_eq_true c29
          clear c29
          by_cases c30 : (ji28) < (l0_0.length : Int)
          ·
           rw [if_pos c30] at H
           have c30b0 : decide ((ji28) < (l0_0.length : Int)) = true := decide_eq_true c30
           clear c30
           replace H := Option.bind_eq_some_iff.mp H
           obtain ⟨⟨t391, t392, t393, t394, t395⟩, A310, H⟩ := H
           try dsimp only at H
           have A31 := Aside0.mk A310
           clear A310
           by_cases c32 : t391 = 0
           ·
            rw [if_pos c32] at H
            have c32b0 : (t391 == 0) = true := beq_iff_eq.mpr c32
            have c32b1 : (t391 != 0) = false := bne_eq_false_iff_eq.mpr c32
            clear c32
            simp only [Option.some.injEq, Prod.mk.injEq] at H
            obtain ⟨rfl, rfl⟩ := H
            obtain ⟨hcz33_0, hcz33_1, hcz33_2⟩ := bcQ3 BK386.out
            obtain ⟨hfz33_0, hfz33_1, hfz33_2⟩ := fzQ3 BK386.out
            have p390 : 0 ≤ ((ji28) : Int) := of_decide_eq_true ‹_›
            have q390 : (ji28) < (l0_0.length : Int) := of_decide_eq_true ‹_›
            obtain ⟨ad390, e390, hx390_0⟩ := Kd.at_int HR0_0.out (ji28) p390 q390
            cases e390
            replace hx390_0 := pw_cell_below HB.out hx390_0
            replace p390 := eq_true p390
            replace q390 := eq_true q390
            go_wp2_with (first | ((with_reducible refine gate_callee (f := 64) rfl ?_); refine goesL_ (some 60) rfl rfl Tryd.func64 (by kernel_rfl) rfl #[.int .u32 (rd l0_0 (ji28))] rfl (by (try simp only [List.map_toArray, List.map_cons, List.map_nil]); first | done | (simp only [hji28]; rfl) | rfl | (simp only [List.length_drop, List.length_take]; rfl)) ?_; (with_reducible refine (isa_Decode.calls k1 (rd l0_0 (ji28)) t391 t392 t393 t394 t395 _ A31.out).mono ?_); rintro e w34 ⟨rfl, hb⟩; refine ⟨_, rfl, ?_⟩; replace BK386 := Aside0.mk (bbQ hb BK386.out); replace HB := Aside0.mk (bs1Q hb (by repeat with_reducible first | exact HB.out | apply pw_below_drewN | apply below_drew1 | refine below_set ?_ GE386.out)); (try clear hb); (try clear hb2); (try clear hk); (try clear hi)))
            go_ret2
            exact ⟨by first | rfl | (simp [errW_none, errW_some] <;> rfl) | (simp only [← hji28]; first | rfl | (simp [errW_none, errW_some] <;> rfl)) | (simp [*, errW_none, errW_some] <;> rfl), by repeat with_reducible first | exact HB.out | apply pw_below_drewN | apply below_drew1 | refine below_set ?_ GE386.out⟩
           ·
            rw [if_neg c32] at H
            have c32b0 : (t391 == 0) = false := beq_eq_false_iff_ne.mpr c32
            have c32b1 : (t391 != 0) = true := bne_iff_ne.mpr c32
            by_cases c35 : t391 = 15
            ·
             rw [if_pos c35] at H
             have c35b0 : (t391 == 15) = true := beq_iff_eq.mpr c35
             have c35b1 : (t391 != 15) = false := bne_eq_false_iff_eq.mpr c35
             clear c35
             simp only [Option.some.injEq, Prod.mk.injEq] at H
             obtain ⟨rfl, rfl⟩ := H
             obtain ⟨hcz36_0, hcz36_1, hcz36_2⟩ := bcQ3 BK386.out
             obtain ⟨hfz36_0, hfz36_1, hfz36_2⟩ := fzQ3 BK386.out
             have p390 : 0 ≤ ((ji28) : Int) := of_decide_eq_true ‹_›
             have q390 : (ji28) < (l0_0.length : Int) := of_decide_eq_true ‹_›
             obtain ⟨ad390, e390, hx390_0⟩ := Kd.at_int HR0_0.out (ji28) p390 q390
             cases e390
             replace hx390_0 := pw_cell_below HB.out hx390_0
             replace p390 := eq_true p390
             replace q390 := eq_true q390
             go_wp2_with (first | ((with_reducible refine gate_callee (f := 64) rfl ?_); refine goesL_ (some 60) rfl rfl Tryd.func64 (by kernel_rfl) rfl #[.int .u32 (rd l0_0 (ji28))] rfl (by (try simp only [List.map_toArray, List.map_cons, List.map_nil]); first | done | (simp only [hji28]; rfl) | rfl | (simp only [List.length_drop, List.length_take]; rfl)) ?_; (with_reducible refine (isa_Decode.calls k1 (rd l0_0 (ji28)) t391 t392 t393 t394 t395 _ A31.out).mono ?_); rintro e w37 ⟨rfl, hb⟩; refine ⟨_, rfl, ?_⟩; replace BK386 := Aside0.mk (bbQ hb BK386.out); replace HB := Aside0.mk (bs1Q hb (by repeat with_reducible first | exact HB.out | apply pw_below_drewN | apply below_drew1 | refine below_set ?_ GE386.out)); (try clear hb); (try clear hb2); (try clear hk); (try clear hi)))
             go_ret2
             exact ⟨by first | rfl | (simp [errW_none, errW_some] <;> rfl) | (simp only [← hji28]; first | rfl | (simp [errW_none, errW_some] <;> rfl)) | (simp [*, errW_none, errW_some] <;> rfl), by repeat with_reducible first | exact HB.out | apply pw_below_drewN | apply below_drew1 | refine below_set ?_ GE386.out⟩
            ·
             rw [if_neg c35] at H
             have c35b0 : (t391 == 15) = false := beq_eq_false_iff_ne.mpr c35
             have c35b1 : (t391 != 15) = true := bne_iff_ne.mpr c35
             by_cases c38 : t391 = 19
             ·
              rw [if_pos c38] at H
              have c38b0 : (t391 == 19) = true := beq_iff_eq.mpr c38
              have c38b1 : (t391 != 19) = false := bne_eq_false_iff_eq.mpr c38
              clear c38
              simp only [Option.some.injEq, Prod.mk.injEq] at H
              obtain ⟨rfl, rfl⟩ := H
              obtain ⟨hcz39_0, hcz39_1, hcz39_2⟩ := bcQ3 BK386.out
              obtain ⟨hfz39_0, hfz39_1, hfz39_2⟩ := fzQ3 BK386.out
              have p390 : 0 ≤ ((ji28) : Int) := of_decide_eq_true ‹_›
              have q390 : (ji28) < (l0_0.length : Int) := of_decide_eq_true ‹_›
              obtain ⟨ad390, e390, hx390_0⟩ := Kd.at_int HR0_0.out (ji28) p390 q390
              cases e390
              replace hx390_0 := pw_cell_below HB.out hx390_0
              replace p390 := eq_true p390
              replace q390 := eq_true q390
              go_wp2_with (first | ((with_reducible refine gate_callee (f := 64) rfl ?_); refine goesL_ (some 60) rfl rfl Tryd.func64 (by kernel_rfl) rfl #[.int .u32 (rd l0_0 (ji28))] rfl (by (try simp only [List.map_toArray, List.map_cons, List.map_nil]); first | done | (simp only [hji28]; rfl) | rfl | (simp only [List.length_drop, List.length_take]; rfl)) ?_; (with_reducible refine (isa_Decode.calls k1 (rd l0_0 (ji28)) t391 t392 t393 t394 t395 _ A31.out).mono ?_); rintro e w40 ⟨rfl, hb⟩; refine ⟨_, rfl, ?_⟩; replace BK386 := Aside0.mk (bbQ hb BK386.out); replace HB := Aside0.mk (bs1Q hb (by repeat with_reducible first | exact HB.out | apply pw_below_drewN | apply below_drew1 | refine below_set ?_ GE386.out)); (try clear hb); (try clear hb2); (try clear hk); (try clear hi)))
              go_ret2
              exact ⟨by first | rfl | (simp [errW_none, errW_some] <;> rfl) | (simp only [← hji28]; first | rfl | (simp [errW_none, errW_some] <;> rfl)) | (simp [*, errW_none, errW_some] <;> rfl), by repeat with_reducible first | exact HB.out | apply pw_below_drewN | apply below_drew1 | refine below_set ?_ GE386.out⟩
             ·
              rw [if_neg c38] at H
              have c38b0 : (t391 == 19) = false := beq_eq_false_iff_ne.mpr c38
              have c38b1 : (t391 != 19) = true := bne_iff_ne.mpr c38
              by_cases c41 : t391 = 21
              ·
               rw [if_pos c41] at H
               have c41b0 : (t391 == 21) = true := beq_iff_eq.mpr c41
               have c41b1 : (t391 != 21) = false := bne_eq_false_iff_eq.mpr c41
               clear c41
               simp only [Option.some.injEq, Prod.mk.injEq] at H
               obtain ⟨rfl, rfl⟩ := H
               obtain ⟨hcz42_0, hcz42_1, hcz42_2⟩ := bcQ3 BK386.out
               obtain ⟨hfz42_0, hfz42_1, hfz42_2⟩ := fzQ3 BK386.out
               have p390 : 0 ≤ ((ji28) : Int) := of_decide_eq_true ‹_›
               have q390 : (ji28) < (l0_0.length : Int) := of_decide_eq_true ‹_›
               obtain ⟨ad390, e390, hx390_0⟩ := Kd.at_int HR0_0.out (ji28) p390 q390
               cases e390
               replace hx390_0 := pw_cell_below HB.out hx390_0
               replace p390 := eq_true p390
               replace q390 := eq_true q390
               go_wp2_with (first | ((with_reducible refine gate_callee (f := 64) rfl ?_); refine goesL_ (some 60) rfl rfl Tryd.func64 (by kernel_rfl) rfl #[.int .u32 (rd l0_0 (ji28))] rfl (by (try simp only [List.map_toArray, List.map_cons, List.map_nil]); first | done | (simp only [hji28]; rfl) | rfl | (simp only [List.length_drop, List.length_take]; rfl)) ?_; (with_reducible refine (isa_Decode.calls k1 (rd l0_0 (ji28)) t391 t392 t393 t394 t395 _ A31.out).mono ?_); rintro e w43 ⟨rfl, hb⟩; refine ⟨_, rfl, ?_⟩; replace BK386 := Aside0.mk (bbQ hb BK386.out); replace HB := Aside0.mk (bs1Q hb (by repeat with_reducible first | exact HB.out | apply pw_below_drewN | apply below_drew1 | refine below_set ?_ GE386.out)); (try clear hb); (try clear hb2); (try clear hk); (try clear hi)))
               go_ret2
               exact ⟨by first | rfl | (simp [errW_none, errW_some] <;> rfl) | (simp only [← hji28]; first | rfl | (simp [errW_none, errW_some] <;> rfl)) | (simp [*, errW_none, errW_some] <;> rfl), by repeat with_reducible first | exact HB.out | apply pw_below_drewN | apply below_drew1 | refine below_set ?_ GE386.out⟩
              ·
               rw [if_neg c41] at H
               have c41b0 : (t391 == 21) = false := beq_eq_false_iff_ne.mpr c41
               have c41b1 : (t391 != 21) = true := bne_iff_ne.mpr c41
               simp only [Option.some.injEq, Prod.mk.injEq] at H
               obtain ⟨rfl, rfl⟩ := H
               obtain ⟨hcz44_0, hcz44_1, hcz44_2⟩ := bcQ3 BK386.out
               obtain ⟨hfz44_0, hfz44_1, hfz44_2⟩ := fzQ3 BK386.out
               have p390 : 0 ≤ ((ji28) : Int) := of_decide_eq_true ‹_›
               have q390 : (ji28) < (l0_0.length : Int) := of_decide_eq_true ‹_›
               obtain ⟨ad390, e390, hx390_0⟩ := Kd.at_int HR0_0.out (ji28) p390 q390
               cases e390
               replace hx390_0 := pw_cell_below HB.out hx390_0
               replace p390 := eq_true p390
               replace q390 := eq_true q390
               go_wp2_with (first | ((with_reducible refine gate_callee (f := 64) rfl ?_); refine goesL_ (some 60) rfl rfl Tryd.func64 (by kernel_rfl) rfl #[.int .u32 (rd l0_0 (ji28))] rfl (by (try simp only [List.map_toArray, List.map_cons, List.map_nil]); first | done | (simp only [hji28]; rfl) | rfl | (simp only [List.length_drop, List.length_take]; rfl)) ?_; (with_reducible refine (isa_Decode.calls k1 (rd l0_0 (ji28)) t391 t392 t393 t394 t395 _ A31.out).mono ?_); rintro e w45 ⟨rfl, hb⟩; refine ⟨_, rfl, ?_⟩; replace BK386 := Aside0.mk (bbQ hb BK386.out); replace HB := Aside0.mk (bs1Q hb (by repeat with_reducible first | exact HB.out | apply pw_below_drewN | apply below_drew1 | refine below_set ?_ GE386.out)); (try clear hb); (try clear hb2); (try clear hk); (try clear hi)))
               go_ret2
               exact ⟨by first | rfl | (simp [errW_none, errW_some] <;> rfl) | (simp only [← hji28]; first | rfl | (simp [errW_none, errW_some] <;> rfl)) | (simp [*, errW_none, errW_some] <;> rfl), by repeat with_reducible first | exact HB.out | apply pw_below_drewN | apply below_drew1 | refine below_set ?_ GE386.out⟩
          ·
           rw [if_neg c30] at H
           exact absurd H (by simp)
         ·
          rw [if_neg c29] at H
          exact absurd H (by simp)


def pleatref00_CopyImage.f (l0_0 : List Int) (a0_1 : Int) (l0_2 : List Int) : Option (List Int × Int × List Int) := (pleatref00_CopyWords.f l0_0).bind fun t398 => ((pleatref00_CopyLongs.f l0_2).bind fun t401 => (some (t398, a0_1, t401)))
set_option maxHeartbeats 8000000 in
set_option maxRecDepth 100000 in
theorem pleatref00_CopyImage.calls (A0_0 : Option Addr) (c0_0 : Nat) (l0_0 : List Int) (a0_1 : Int) (A0_2 : Option Addr) (c0_2 : Nat) (l0_2 : List Int) (r1 : List Int) (r2 : Int) (r3 : List Int) (w : World) (hr0_0 : Kd.C (Kd.int .u32) w A0_0 l0_0.length l0_0) (hc0_0 : l0_0.length ≤ c0_0) (hr0_2 : Kd.C (Kd.int .i64) w A0_2 l0_2.length l0_2) (hc0_2 : l0_2.length ≤ c0_2) (h : pleatref00_CopyImage.f l0_0 a0_1 l0_2 = some (r1, r2, r3)) :
  Calls Tryd.prog 19 #[.agg #[.slice A0_0 l0_0.length c0_0, .int .i64 a0_1, .slice A0_2 l0_2.length c0_2]] w fun e w' => ∃ v0_ v2_ : Value, e = .returned (.agg #[v0_, .int .i64 r2, v2_]) ∧ Kd.R (Kd.int .u32) 63 w' w.heap.size (fun _ => True) v0_ r1 ∧ Kd.R (Kd.int .i64) 2 w' w.heap.size (fun _ => True) v2_ r3 ∧ Below w.heap.size w w' := by
 have hu46 := Tryd.underlying46
 have HR0_0 := Aside0.mk hr0_0
 have HC0_0 := Aside0.mk hc0_0
 clear hr0_0 hc0_0
 have HR0_2 := Aside0.mk hr0_2
 have HC0_2 := Aside0.mk hc0_2
 clear hr0_2 hc0_2
 have HB := Aside0.mk (Below.refl w.heap.size w)
 have H : ((pleatref00_CopyWords.f l0_0).bind fun t398 => ((pleatref00_CopyLongs.f l0_2).bind fun t401 => (some (t398, a0_1, t401)))) = some (r1, r2, r3) := h
 clear h
 replace H := Option.bind_eq_some_iff.mp H
 obtain ⟨t398, A20, H⟩ := H
 try dsimp only at H
 have A2 := Aside0.mk A20
 clear A20
 replace H := Option.bind_eq_some_iff.mp H
 obtain ⟨t401, A30, H⟩ := H
 try dsimp only at H
 have A3 := Aside0.mk A30
 clear A30
 simp only [Option.some.injEq, Prod.mk.injEq] at H
 obtain ⟨rfl, rfl, rfl⟩ := H
 go_enter Tryd.func19, Tryd.ntmps19
 go_wp2_with (first | ((with_reducible refine gate_dst (N := 1) rfl ?_); refine box_event ?hg (N := 1) ?hd (cs := #[.slice A0_0 l0_0.length c0_0, .int .i64 a0_1, .slice A0_2 l0_2.length c0_2]) (t := 46) ?hr ?_; (case hd => rfl); (case hg => rfl); (case hr => go_simp; try rfl); intro gb396 hg w4 hbox hb; have BK396 := Aside0.mk (hbox); have GW396 := Aside0.mk (gwQ hg HB.out); have GE396 := Aside0.mk (gwQ hg HB.out); replace HB := Aside0.mk (bsQ hb HB.out); clear hb hbox hg) | ((with_reducible refine gate_dst (N := 2) rfl ?_); refine box_event ?hg (N := 2) ?hd (cs := #[.slice none 0 0, .int .i64 0, .slice none 0 0]) (t := 46) ?hr ?_; (case hd => rfl); (case hg => rfl); (case hr => go_simp; try rfl); intro gb397 hg w5 hbox hb; have n0_ := Aside0.mk (bbQ hb BK396.out); have n1_ := Aside0.mk (bs1Q hb (by repeat with_reducible first | exact HB.out | apply pw_below_drewN | apply below_drew1 | refine below_set ?_ GE396.out)); have n2_ := Aside0.mk (hbox); have n3_ := Aside0.mk (gw1Q hg (by repeat with_reducible first | exact HB.out | apply pw_below_drewN | apply below_drew1 | refine below_set ?_ GE396.out)); have n4_ := Aside0.mk (gw1Q hg (by repeat with_reducible first | exact HB.out | apply pw_below_drewN | apply below_drew1 | refine below_set ?_ GE396.out)); have n5_ := Aside0.mk ((by rw [hg]; exact Nat.ne_of_lt (blk_lt (g := gb396) (o := .cells #[.slice A0_0 l0_0.length c0_0, .int .i64 a0_1, .slice A0_2 l0_2.length c0_2] 46 (0, 0)) (by exact BK396.out)) : gb396 ≠ gb397)); have n6_ := Aside0.mk ((by rw [hg]; exact Nat.ne_of_gt (blk_lt (g := gb396) (o := .cells #[.slice A0_0 l0_0.length c0_0, .int .i64 a0_1, .slice A0_2 l0_2.length c0_2] 46 (0, 0)) (by exact BK396.out)) : gb397 ≠ gb396)); clear BK396; clear HB; have BK396 := n0_; have HB := n1_; have BK397 := n2_; have GW397 := n3_; have GE397 := n4_; have NB396_397 := n5_; have NB397_396 := n6_; clear n0_ n1_ n2_ n3_ n4_ n5_ n6_; clear hb hbox hg; have hnb6 := NB396_397.out; have hnc6 := NB397_396.out; obtain ⟨hcz7_0, hcz7_1, hcz7_2⟩ := bcQ3 BK396.out; obtain ⟨hfz7_0, hfz7_1, hfz7_2⟩ := fzQ3 BK396.out) | ((with_reducible refine gate_callee (f := 49) rfl ?_); refine goesL_ (some 5) rfl rfl Tryd.func49 (by kernel_rfl) rfl #[.slice A0_0 l0_0.length c0_0] rfl (by (try simp only [List.map_toArray, List.map_cons, List.map_nil]); try rfl) ?_; (with_reducible refine (pleatref00_CopyWords.calls _ _ l0_0 t398 _ ?side1 ?side2 A2.out).mono ?_); (case side1 => exact cbQ HB.out HR0_0.out); (case side2 => exact HC0_0.out); rintro e w8 ⟨v399, rfl, ho0, hb⟩; refine ⟨_, rfl, ?_⟩; have HO400 := Aside0.mk (Kd.R_lower ho0 (below_size (by repeat with_reducible first | exact HB.out | apply pw_below_drewN | apply below_drew1 | refine below_set ?_ GE396.out | refine below_set ?_ GE397.out))); replace BK396 := Aside0.mk (bbQ hb BK396.out); replace BK397 := Aside0.mk (bbQ hb BK397.out); replace HB := Aside0.mk (bs1Q hb (by repeat with_reducible first | exact HB.out | apply pw_below_drewN | apply below_drew1 | refine below_set ?_ GE396.out | refine below_set ?_ GE397.out)); (try clear hb); (try clear hb2); (try clear hk); (try clear hi); (try clear ho0); obtain ⟨Ao9, co9, eo9⟩ := Kd.R_slice HO400.out; subst eo9; obtain ⟨hcz10_0, hcz10_1, hcz10_2⟩ := bcQ3 BK396.out; obtain ⟨hfz10_0, hfz10_1, hfz10_2⟩ := fzQ3 BK396.out) | ((with_reducible refine gate_callee (f := 50) rfl ?_); refine goesL_ (some 9) rfl rfl Tryd.func50 (by kernel_rfl) rfl #[.slice A0_2 l0_2.length c0_2] rfl (by (try simp only [List.map_toArray, List.map_cons, List.map_nil]); try rfl) ?_; (with_reducible refine (pleatref00_CopyLongs.calls _ _ l0_2 t401 _ ?side1 ?side2 A3.out).mono ?_); (case side1 => exact Kd.C_below HR0_2.out (by repeat with_reducible first | exact HB.out | apply pw_below_drewN | apply below_drew1 | refine below_set ?_ GE396.out | refine below_set ?_ GE397.out)); (case side2 => exact HC0_2.out); rintro e w11 ⟨v402, rfl, ho0, hb⟩; refine ⟨_, rfl, ?_⟩; have n0_ := Aside0.mk (Kd.R_below (by (with_reducible repeat (first | apply Kd.R_alloc | apply Kd.R_drewN | apply Kd.R_drew)); exact (Kd.R_mono (Kd.R_far (p := ⟨gb396, 0, none⟩) (Kd.R_types HO400.out BK396.out (by decide)) (fun _ hk => hk.2) (.slice Ao9 t398.length co9)) (fun _ h_ => h_.1))) hb); have n1_ := Aside0.mk (Kd.R_lower ho0 (below_size (by repeat with_reducible first | exact HB.out | apply pw_below_drewN | apply below_drew1 | refine below_set ?_ GE396.out | refine below_set ?_ GE397.out))); have n2_ := Aside0.mk (blk_below (g := gb396) (o := .cells #[.slice Ao9 t398.length co9, .int .i64 a0_1, .slice A0_2 l0_2.length c0_2] 46 (0, 0)) (by refine blk_put (cs := #[.slice A0_0 l0_0.length c0_0, .int .i64 a0_1, .slice A0_2 l0_2.length c0_2]) ?_ 0 _ rfl; exact BK396.out) hb); have n3_ := Aside0.mk (blk_below (g := gb397) (o := .cells #[.slice none 0 0, .int .i64 0, .slice none 0 0] 46 (0, 0)) (by refine blk_far ?_ NB397_396.out _; exact BK397.out) hb); have n4_ := Aside0.mk (bs1Q hb (by repeat with_reducible first | exact HB.out | apply pw_below_drewN | apply below_drew1 | refine below_set ?_ GE396.out | refine below_set ?_ GE397.out)); clear HO400; clear BK396; clear BK397; clear HB; have HO400 := n0_; have HO403 := n1_; have BK396 := n2_; have BK397 := n3_; have HB := n4_; clear n0_ n1_ n2_ n3_ n4_; (try clear hb); (try clear hb2); (try clear hk); (try clear hi); (try clear ho0); obtain ⟨Ao12, co12, eo12⟩ := Kd.R_slice HO403.out; subst eo12; obtain ⟨hcz13_0, hcz13_1, hcz13_2⟩ := bcQ3 BK396.out; obtain ⟨hfz13_0, hfz13_1, hfz13_2⟩ := fzQ3 BK396.out; obtain ⟨hcz14_0, hcz14_1, hcz14_2⟩ := bcQ3 BK397.out; obtain ⟨hfz14_0, hfz14_1, hfz14_2⟩ := fzQ3 BK397.out))
 refine bodyPost_ret (results_cell_row rfl _ _ gb397 46 #[.slice Ao9 t398.length co9, .int .i64 a0_1, .slice Ao12 t401.length co12] (0, 0) _ rfl (by refine blk_put (cs := #[.slice Ao9 t398.length co9, .int .i64 a0_1, .slice none 0 0]) ?_ 2 _ rfl; refine blk_put (cs := #[.slice Ao9 t398.length co9, .int .i64 0, .slice none 0 0]) ?_ 1 _ rfl; refine blk_put (cs := #[.slice none 0 0, .int .i64 0, .slice none 0 0]) ?_ 0 _ rfl; refine blk_far ?_ NB397_396.out _; exact BK397.out) Tryd.underlying46 rfl (by kernel_rfl)) rfl ?_
 exact ⟨_, _, by first | rfl | (simp [errW_none, errW_some] <;> rfl) | (simp [*, errW_none, errW_some] <;> rfl), by (with_reducible repeat (first | apply Kd.R_alloc | apply Kd.R_drewN | apply Kd.R_drew)); exact Kd.R_mono (Kd.R_far (p := ⟨gb397, 2, none⟩) (Kd.R_far (p := ⟨gb397, 1, none⟩) (Kd.R_far (p := ⟨gb397, 0, none⟩) (Kd.R_far (p := ⟨gb396, 2, none⟩) (Kd.R_types (Kd.R_types HO400.out BK396.out (by decide)) BK397.out (by decide)) (fun _ hk => hk.1.2) (.slice Ao12 t401.length co12)) (fun _ hk => hk.2) (.slice Ao9 t398.length co9)) (fun _ hk => hk.2) (.int .i64 a0_1)) (fun _ hk => hk.2) (.slice Ao12 t401.length co12)) (fun _ hk => trivial), by (with_reducible repeat (first | apply Kd.R_alloc | apply Kd.R_drewN | apply Kd.R_drew)); exact Kd.R_mono (Kd.R_far (p := ⟨gb397, 2, none⟩) (Kd.R_far (p := ⟨gb397, 1, none⟩) (Kd.R_far (p := ⟨gb397, 0, none⟩) (Kd.R_far (p := ⟨gb396, 2, none⟩) (Kd.R_types (Kd.R_types HO403.out BK396.out (by decide)) BK397.out (by decide)) (fun _ hk => hk.1.2) (.slice Ao12 t401.length co12)) (fun _ hk => hk.2) (.slice Ao9 t398.length co9)) (fun _ hk => hk.2) (.int .i64 a0_1)) (fun _ hk => hk.2) (.slice Ao12 t401.length co12)) (fun _ hk => trivial), by repeat with_reducible first | exact HB.out | apply pw_below_drewN | apply below_drew1 | refine below_set ?_ GE396.out | refine below_set ?_ GE397.out⟩


def object_At.l0 : Nat → Int → List (S68) → Int → Int → Option (Int)
 | 0, _, _, _, _ => none
 | k + 1, x1, x8, x9, x10 => if x10 < x9 then (if 0 ≤ x10 then (if x10 < (x8.length : Int) then (if ((rd_T68 x8 x10).f0) = x1 then (some x10) else (object_At.l0 k x1 x8 x9 (wrap64 (x10 + 1)))) else (none)) else (none)) else (some (-1))
def object_At.f (k : Nat) (a0_0 : ByteArray) (l0_1 : List Int) (a0_2 : Int) (l0_3 : List Int) (l0_4 : List (S75)) (l0_5 : List (S68)) (a1 : Int) : Option (Int) := object_At.l0 k a1 l0_5 (l0_5.length : Int) 0
theorem object_At.mono_l : ∀ k, (∀ y0 y1 y2 y3, LeO (object_At.l0 k y0 y1 y2 y3) (object_At.l0 (k + 1) y0 y1 y2 y3))
 | 0 => fun _ _ _ _ r h => by simp [object_At.l0] at h
 | k + 1 => by
  have ih0 := object_At.mono_l k
  ·
   intro y0 y1 y2 y3
   unfold object_At.l0
   repeat' first
   | (with_reducible first | exact ih0 _ _ _ _ | exact LeO.refl _ | exact LeO.none _ | refine LeO.ite ?_ ?_ | refine LeO.bind ?_ (fun _ => ?_))
theorem object_At.mono : ∀ a0 a1 a2 a3 a4 a5 a6 k, LeO (object_At.f k a0 a1 a2 a3 a4 a5 a6) (object_At.f (k + 1) a0 a1 a2 a3 a4 a5 a6) := by
 intro a0 a1 a2 a3 a4 a5 a6 k
 have ih0 := object_At.mono_l k
 unfold object_At.f
 repeat' first
   | (with_reducible first | exact ih0 _ _ _ _ | exact LeO.refl _ | exact LeO.none _ | refine LeO.ite ?_ ?_ | refine LeO.bind ?_ (fun _ => ?_))
set_option maxHeartbeats 8000000 in
set_option maxRecDepth 100000 in
theorem object_At.calls (k : Nat) (a0_0 : ByteArray) (A0_1 : Option Addr) (c0_1 : Nat) (l0_1 : List Int) (a0_2 : Int) (A0_3 : Option Addr) (c0_3 : Nat) (l0_3 : List Int) (A0_4 : Option Addr) (c0_4 : Nat) (l0_4 : List (S75)) (A0_5 : Option Addr) (c0_5 : Nat) (l0_5 : List (S68)) (a1 : Int) (r : Int) (w : World) (hr0_1 : Kd.C (Kd.int .u32) w A0_1 l0_1.length l0_1) (hc0_1 : l0_1.length ≤ c0_1) (hr0_3 : Kd.C (Kd.int .i64) w A0_3 l0_3.length l0_3) (hc0_3 : l0_3.length ≤ c0_3) (hr0_4 : Kd.C k75 w A0_4 l0_4.length l0_4) (hc0_4 : l0_4.length ≤ c0_4) (hr0_5 : Kd.C k68 w A0_5 l0_5.length l0_5) (hc0_5 : l0_5.length ≤ c0_5) (h : object_At.f k a0_0 l0_1 a0_2 l0_3 l0_4 l0_5 a1 = some r) :
  Calls Tryd.prog 24 #[.agg #[.string a0_0, .slice A0_1 l0_1.length c0_1, .int .i64 a0_2, .slice A0_3 l0_3.length c0_3, .slice A0_4 l0_4.length c0_4, .slice A0_5 l0_5.length c0_5], .int .i64 a1] w fun e w' => e = .returned (.int .i64 r) ∧ Below w.heap.size w w' := by
 have hu27 := Tryd.underlying27
 have hu68 := Tryd.underlying68
 have HR0_1 := Aside0.mk hr0_1
 have HC0_1 := Aside0.mk hc0_1
 clear hr0_1 hc0_1
 have HR0_3 := Aside0.mk hr0_3
 have HC0_3 := Aside0.mk hc0_3
 clear hr0_3 hc0_3
 have HR0_4 := Aside0.mk hr0_4
 have HC0_4 := Aside0.mk hc0_4
 clear hr0_4 hc0_4
 have HR0_5 := Aside0.mk hr0_5
 have HC0_5 := Aside0.mk hc0_5
 clear hr0_5 hc0_5
 have HB := Aside0.mk (Below.refl w.heap.size w)
 have H : (object_At.l0 k a1 l0_5 (l0_5.length : Int) 0) = some r := h
 clear h
 have H' := Aside0.mk H
 clear H
 go_enter Tryd.func24, Tryd.ntmps24
 go_wp2_with (first | ((with_reducible refine gate_dst (N := 2) rfl ?_); refine box_event ?hg (N := 2) ?hd (cs := #[.string a0_0, .slice A0_1 l0_1.length c0_1, .int .i64 a0_2, .slice A0_3 l0_3.length c0_3, .slice A0_4 l0_4.length c0_4, .slice A0_5 l0_5.length c0_5]) (t := 27) ?hr ?_; (case hd => rfl); (case hg => rfl); (case hr => go_simp; try rfl); intro gb404 hg w3 hbox hb; have BK404 := Aside0.mk (hbox); have GW404 := Aside0.mk (gwQ hg HB.out); have GE404 := Aside0.mk (gwQ hg HB.out); replace HB := Aside0.mk (bsQ hb HB.out); clear hb hbox hg; obtain ⟨hcz4_0, hcz4_1, hcz4_2, hcz4_3, hcz4_4, hcz4_5⟩ := bcQ6 BK404.out; obtain ⟨hfz4_0, hfz4_1, hfz4_2, hfz4_3, hfz4_4, hfz4_5⟩ := fzQ6 BK404.out))
 go_loopg [10] k (fun kq v10 w' => ∃ (x10_1 : Int), v10 = .int .i64 x10_1 ∧ Aside0 (object_At.l0 kq a1 l0_5 (l0_5.length : Int) x10_1 = some r) ∧ Aside0 (kq ≤ k) ∧ Aside0 (w'.heap[gb404]? = some (.cells #[.string a0_0, (.slice A0_1 l0_1.length c0_1), .int .i64 a0_2, (.slice A0_3 l0_3.length c0_3), (.slice A0_4 l0_4.length c0_4), (.slice A0_5 l0_5.length c0_5)] 27 (0, 0))) ∧ Aside0 (Below w.heap.size w w'))
 case atStart => exact ⟨(0), (by first | rfl | (simp; done) | (simp [*]; done)), H', ⟨Nat.le_refl _⟩, ⟨by exact BK404.out⟩, ⟨by repeat with_reducible first | exact HB.out | apply pw_below_drewN | apply below_drew1 | refine below_set ?_ GE404.out⟩⟩
 case round =>
  clear H'
  try clear c2
  try clear p2
  try clear hcz4_0 hcz4_1 hcz4_2 hcz4_3 hcz4_4 hcz4_5
  try clear hfz4_0 hfz4_1 hfz4_2 hfz4_3 hfz4_4 hfz4_5
  obtain ⟨x10_1, rfl, HA, HK1, BK404, HB⟩ := hrel
  cases gk with
  | zero => exact absurd HA.out (by simp [object_At.l0])
  | succ k1 =>
   have H := HA.out
   clear HA
   simp only [object_At.l0] at H
   by_cases c5 : x10_1 < (l0_5.length : Int)
   ·
    rw [if_pos c5] at H
    have c5b0 : decide (x10_1 < (l0_5.length : Int)) = true := decide_eq_true c5
    clear c5
    by_cases c6 : 0 ≤ x10_1
    ·
     rw [if_pos c6] at H
     have c6b0 : decide (0 ≤ x10_1) = true := decide_eq_true c6
     clear c6
     by_cases c7 : x10_1 < (l0_5.length : Int)
     ·
      rw [if_pos c7] at H
      have c7b0 : decide (x10_1 < (l0_5.length : Int)) = true := decide_eq_true c7
      clear c7
      by_cases c8 : ((rd_T68 l0_5 x10_1).f0) = a1
      ·
       rw [if_pos c8] at H
       have c8b0 : (((rd_T68 l0_5 x10_1).f0) == a1) = true := beq_iff_eq.mpr c8
       have c8b1 : (((rd_T68 l0_5 x10_1).f0) != a1) = false := bne_eq_false_iff_eq.mpr c8
       clear c8
       obtain rfl := Option.some.inj H
       have p405 : 0 ≤ (x10_1 : Int) := of_decide_eq_true ‹_›
       have q405 : x10_1 < (l0_5.length : Int) := of_decide_eq_true ‹_›
       obtain ⟨ad405, e405, hx405_0, hx405_1⟩ := atQ68 HR0_5.out HB.out x10_1 p405 q405
       cases e405
       replace p405 := eq_true p405
       replace q405 := eq_true q405
       go_wp2_with (first | ((with_reducible refine gate_dst (N := 6) rfl ?_); refine box_event ?hg (N := 6) ?hd (cs := #[.int .i64 0, .int .i64 0]) (t := 68) ?hr ?_; (case hd => rfl); (case hg => rfl); (case hr => go_simp; try rfl); intro gb406 hg w9 hbox hb; have n0_ := Aside0.mk (bbQ hb BK404.out); have n1_ := Aside0.mk (bs1Q hb (by repeat with_reducible first | exact HB.out | apply pw_below_drewN | apply below_drew1 | refine below_set ?_ GE404.out)); have n2_ := Aside0.mk (hbox); have n3_ := Aside0.mk (gw1Q hg (by repeat with_reducible first | exact HB.out | apply pw_below_drewN | apply below_drew1 | refine below_set ?_ GE404.out)); have n4_ := Aside0.mk (gw1Q hg (by repeat with_reducible first | exact HB.out | apply pw_below_drewN | apply below_drew1 | refine below_set ?_ GE404.out)); have n5_ := Aside0.mk ((by rw [hg]; exact Nat.ne_of_lt (blk_lt (g := gb404) (o := .cells #[.string a0_0, .slice A0_1 l0_1.length c0_1, .int .i64 a0_2, .slice A0_3 l0_3.length c0_3, .slice A0_4 l0_4.length c0_4, .slice (some ad405) l0_5.length c0_5] 27 (0, 0)) (by exact BK404.out)) : gb404 ≠ gb406)); have n6_ := Aside0.mk ((by rw [hg]; exact Nat.ne_of_gt (blk_lt (g := gb404) (o := .cells #[.string a0_0, .slice A0_1 l0_1.length c0_1, .int .i64 a0_2, .slice A0_3 l0_3.length c0_3, .slice A0_4 l0_4.length c0_4, .slice (some ad405) l0_5.length c0_5] 27 (0, 0)) (by exact BK404.out)) : gb406 ≠ gb404)); clear BK404; clear HB; have BK404 := n0_; have HB := n1_; have BK406 := n2_; have GW406 := n3_; have GE406 := n4_; have NB404_406 := n5_; have NB406_404 := n6_; clear n0_ n1_ n2_ n3_ n4_ n5_ n6_; clear hb hbox hg; have hnb10 := NB406_404.out; have hnc10 := NB404_406.out; obtain ⟨hcz11_0, hcz11_1⟩ := bcQ2 BK406.out; obtain ⟨hfz11_0, hfz11_1⟩ := fzQ2 BK406.out))
       go_ret
       exact ⟨by first | rfl | (simp [errW_none, errW_some] <;> rfl) | (simp [*, errW_none, errW_some] <;> rfl), by repeat with_reducible first | exact HB.out | apply pw_below_drewN | apply below_drew1 | refine below_set ?_ GE404.out | refine below_set ?_ GE406.out⟩
      ·
       rw [if_neg c8] at H
       have c8b0 : (((rd_T68 l0_5 x10_1).f0) == a1) = false := beq_eq_false_iff_ne.mpr c8
       have c8b1 : (((rd_T68 l0_5 x10_1).f0) != a1) = true := bne_iff_ne.mpr c8
       have H' := Aside0.mk H
       clear H
       have p405 : 0 ≤ (x10_1 : Int) := of_decide_eq_true ‹_›
       have q405 : x10_1 < (l0_5.length : Int) := of_decide_eq_true ‹_›
       obtain ⟨ad405, e405, hx405_0, hx405_1⟩ := atQ68 HR0_5.out HB.out x10_1 p405 q405
       cases e405
       replace p405 := eq_true p405
       replace q405 := eq_true q405
       go_wp2_with (first | ((with_reducible refine gate_dst (N := 6) rfl ?_); refine box_event ?hg (N := 6) ?hd (cs := #[.int .i64 0, .int .i64 0]) (t := 68) ?hr ?_; (case hd => rfl); (case hg => rfl); (case hr => go_simp; try rfl); intro gb406 hg w12 hbox hb; have n0_ := Aside0.mk (bbQ hb BK404.out); have n1_ := Aside0.mk (bs1Q hb (by repeat with_reducible first | exact HB.out | apply pw_below_drewN | apply below_drew1 | refine below_set ?_ GE404.out)); have n2_ := Aside0.mk (hbox); have n3_ := Aside0.mk (gw1Q hg (by repeat with_reducible first | exact HB.out | apply pw_below_drewN | apply below_drew1 | refine below_set ?_ GE404.out)); have n4_ := Aside0.mk (gw1Q hg (by repeat with_reducible first | exact HB.out | apply pw_below_drewN | apply below_drew1 | refine below_set ?_ GE404.out)); have n5_ := Aside0.mk ((by rw [hg]; exact Nat.ne_of_lt (blk_lt (g := gb404) (o := .cells #[.string a0_0, .slice A0_1 l0_1.length c0_1, .int .i64 a0_2, .slice A0_3 l0_3.length c0_3, .slice A0_4 l0_4.length c0_4, .slice (some ad405) l0_5.length c0_5] 27 (0, 0)) (by exact BK404.out)) : gb404 ≠ gb406)); have n6_ := Aside0.mk ((by rw [hg]; exact Nat.ne_of_gt (blk_lt (g := gb404) (o := .cells #[.string a0_0, .slice A0_1 l0_1.length c0_1, .int .i64 a0_2, .slice A0_3 l0_3.length c0_3, .slice A0_4 l0_4.length c0_4, .slice (some ad405) l0_5.length c0_5] 27 (0, 0)) (by exact BK404.out)) : gb406 ≠ gb404)); clear BK404; clear HB; have BK404 := n0_; have HB := n1_; have BK406 := n2_; have GW406 := n3_; have GE406 := n4_; have NB404_406 := n5_; have NB406_404 := n6_; clear n0_ n1_ n2_ n3_ n4_ n5_ n6_; clear hb hbox hg; have hnb13 := NB406_404.out; have hnc13 := NB404_406.out; obtain ⟨hcz14_0, hcz14_1⟩ := bcQ2 BK406.out; obtain ⟨hfz14_0, hfz14_1⟩ := fzQ2 BK406.out))
       go_roundg k1
       case measure => have := HK1.out; omega
       case rel => exact ⟨(wrap64 (x10_1 + 1)), (by first | rfl | (simp; done) | (simp [*]; done)), H', ⟨by have := HK1.out; omega⟩, ⟨by refine blk_far ?_ NB404_406.out _; refine blk_far ?_ NB404_406.out _; exact BK404.out⟩, ⟨by repeat with_reducible first | exact HB.out | apply pw_below_drewN | apply below_drew1 | refine below_set ?_ GE404.out | refine below_set ?_ GE406.out⟩⟩
     ·
      rw [if_neg c7] at H
      exact absurd H (by simp)
    ·
     rw [if_neg c6] at H
     exact absurd H (by simp)
   ·
    rw [if_neg c5] at H
    have c5b0 : decide (x10_1 < (l0_5.length : Int)) = false := decide_eq_false c5
    clear c5
    obtain rfl := Option.some.inj H
    go_wp2
    go_ret
    exact ⟨by first | rfl | (simp [errW_none, errW_some] <;> rfl) | (simp [*, errW_none, errW_some] <;> rfl), by repeat with_reducible first | exact HB.out | apply pw_below_drewN | apply below_drew1 | refine below_set ?_ GE404.out⟩
end Go.Proofs.YtiaohbbafaaibabDoor.P

/- OWN TEXT: objects over plain lists: names, what is found by a name or a place, the reference's check: all come to the same as the program's. -/
set_option linter.unusedVariables false
set_option linter.unusedSimpArgs false
namespace Go.Proofs.YtiaohbbafaaibabDoor.P
open Go.RowKit Go.Maps Go.Proofs.YtiaohbbafaaibabDoorW.PrintWords Go.Proofs.YtiaohbbafaaibabDoorW.PrintLast Go.Proofs.YtiaohbbafaaibabDoorW.PrintMore Go.Proofs.YtiaohbbafaaibabDoor.MapB

theorem wrapS {i n : Nat} (hi : i < n) (hn : n ≤ 1000000000) : wrap64 ((i : Int) + 1) = ((i + 1 : Nat) : Int) := by rw [wrap64_id (by omega) (by omega)]; rfl
theorem sy_get {l : List Sym} {i : Nat} (h : i < l.length) : rd_T75 l (i : Int) = l[i] := by
 unfold rd_T75
 simp [List.getD_eq_getElem?_getD, List.getElem?_eq_getElem h]
theorem rl_get {l : List Rel} {i : Nat} (h : i < l.length) : rd_T68 l (i : Int) = l[i] := by
 unfold rd_T68
 simp [List.getD_eq_getElem?_getD, List.getElem?_eq_getElem h]
theorem sy_at {l : List Sym} {i : Nat} (h : i < l.length) : sy l i = l[i] := sy_get h
theorem rl_at {l : List Rel} {i : Nat} (h : i < l.length) : rl l i = l[i] := rl_get h
theorem toList_loop (s : ByteArray) : ∀ (d i : Nat) (r : List UInt8), i + d = s.size → ByteArray.toList.loop s i r = r.reverse ++ s.data.toList.drop i := by
 intro d
 induction d with
 | zero =>
  intro i r hi
  rw [ByteArray.toList.loop, if_neg (by omega), List.drop_eq_nil_of_le (by rw [data_length]; omega), List.append_nil]
 | succ d ih =>
  intro i r hi
  have hlt : i < s.data.toList.length := by rw [data_length]; omega
  rw [ByteArray.toList.loop, if_pos (by omega), ih (i + 1) _ (by omega), List.drop_eq_getElem_cons hlt, List.reverse_cons, List.append_assoc]
  have e : s.get! i = s.data.toList[i] := by
   have h2 : i < s.data.size := by simpa using hlt
   simp only [ByteArray.get!]
   exact getElem!_pos s.data i h2
  rw [e]
  rfl
theorem toList_eq (s : ByteArray) : s.toList = s.data.toList := by
 have := toList_loop s s.size 0 [] (by omega)
 simpa [ByteArray.toList] using this
theorem toList_inj {a b : ByteArray} : a.toList = b.toList ↔ a = b := by
 rw [toList_eq, toList_eq]
 constructor
 ·
  intro h
  have : a.data = b.data := Array.toList_inj.1 h
  cases a; cases b; simp at this; subst this; rfl
 ·
  intro h; rw [h]
theorem key_inj {a b : ByteArray} : (keyN a).sameKey (keyN b) = true ↔ a = b := by
 unfold keyN
 show (a.data.toList == b.data.toList) = true ↔ _
 rw [beq_iff_eq, ← toList_eq, ← toList_eq]
 exact toList_inj
theorem seen_iff (l : List Sym) (s : ByteArray) : ∀ i, nameSeen l i (keyN s) = true ↔ ∃ j, j < i ∧ (sy l j).f0 = s
  | 0 => by simp [nameSeen]
  | i + 1 => by
    show addS (nameSeen l i) (keyN (sy l i).f0) (keyN s) = true ↔ _
    unfold addS
    rw [Bool.or_eq_true, seen_iff l s i, key_inj]
    constructor
    · rintro (h | ⟨j, hj, h⟩)
      · exact ⟨i, by omega, h.symm⟩
      · exact ⟨j, by omega, h⟩
    · rintro ⟨j, hj, h⟩
      by_cases e : j = i
      · subst e; exact .inl h.symm
      · exact .inr ⟨j, by omega, h⟩

def ofN (nm : ByteArray) : List Sym → Nat → Int
 | [], _ => -1
 | s :: r, i => if s.f0.toList = nm.toList then (i : Int) else ofN nm r (i + 1)
def atN (p : Int) : List Rel → Nat → Int
 | [], _ => -1
 | s :: r, i => if s.f0 = p then (i : Int) else atN p r (i + 1)
theorem ato1 (l : List Rel) (hl : l.length ≤ 1000000000) (a : ByteArray) (c : List Int) (d : Int) (e : List Int) (f : List Sym) (p : Int) : Ev (fun k => object_At.f k a c d e f l p) (atN p l 0) := by
 unfold object_At.f
 have : ∀ d i : Nat, i + d = l.length → Ev (fun k => object_At.l0 k p l (l.length : Int) (i : Int)) (atN p (l.drop i) i) := by
  intro d
  induction d with
  | zero =>
   intro i hi
   rw [List.drop_eq_nil_of_le (by omega)]
   exact Ev.succ (Ev.iteF (by omega) (Ev.val rfl))
  | succ d ih =>
   intro i hi
   have hlt : i < l.length := by omega
   rw [drop_get hlt]
   unfold atN
   refine Ev.succ (Ev.iteT (by omega) (Ev.iteT (by omega) (Ev.iteT (by omega) ?_)))
   simp only [rl_get hlt, wrapS hlt hl]
   refine Ev.ite2 (fun h => Ev.val (by rw [if_pos h])) (fun h => ?_)
   rw [if_neg h]
   exact ih (i + 1) (by omega)
 exact this l.length 0 (by omega)
theorem ofN_at (nm : ByteArray) : ∀ (l : List Sym) (b i : Nat), (h : i < l.length) → l[i].f0 = nm → (∀ j, (hj : j < i) → (l[j]'(by omega)).f0 ≠ nm) → ofN nm l b = ((b + i : Nat) : Int)
  | s :: r, b, 0, h, hn, _ => by
    unfold ofN
    rw [if_pos (by rw [← hn]; rfl)]
    rfl
  | s :: r, b, i + 1, h, hn, hb => by
    unfold ofN
    have h0 : s.f0 ≠ nm := hb 0 (by omega)
    rw [if_neg (fun e => h0 (toList_inj.1 e)), ofN_at nm r (b + 1) i (by simpa using h) (by simpa using hn) (fun j hj => by have := hb (j + 1) (by omega); simpa using this)]
    congr 1
    omega
theorem ofN_lt (nm : ByteArray) : ∀ (l : List Sym) (b j : Nat), (h : j < l.length) → l[j].f0 = nm → ofN nm l b ≤ ((b + j : Nat) : Int)
  | s :: r, b, j, h, hn => by
    unfold ofN
    by_cases c : s.f0.toList = nm.toList
    · rw [if_pos c]; omega
    · rw [if_neg c]
      cases j with
      | zero => exact absurd (toList_inj.2 hn) c
      | succ j =>
        have := ofN_lt nm r (b + 1) j (by simpa using h) (by simpa using hn)
        omega
theorem ofN_seen {l : List Sym} {i : Nat} (h : i < l.length) : ofN (sy l i).f0 l 0 = (i : Int) ↔ nameSeen l i (keyN (sy l i).f0) = false := by
 rw [← Bool.not_eq_true, seen_iff]
 constructor
 ·
  rintro e ⟨j, hj, hn⟩
  rw [sy_at (by omega)] at hn
  have := ofN_lt (sy l i).f0 l 0 j (by omega) hn
  omega
 ·
  intro hn
  have := ofN_at (sy l i).f0 l 0 i h (by rw [sy_at h]) (fun j hj e => hn ⟨j, hj, by rw [sy_at (by omega)]; exact e⟩)
  rw [this]
  simp

theorem mark_of {l : List Rel} {k : Nat} : ∀ {n : Nat}, markB l n k = true → ∃ j, j < n ∧ k = (rl l j).f0.toNat
  | 0, h => by cases h
  | n + 1, h => by
    have h : (decide (k = (rl l n).f0.toNat) || markB l n k) = true := h
    rw [Bool.or_eq_true, decide_eq_true_eq] at h
    rcases h with h | h
    · exact ⟨n, by omega, h⟩
    · obtain ⟨j, hj, e⟩ := mark_of h
      exact ⟨j, by omega, e⟩
theorem relE_ok {code : List Int} {ns : Int} {l : List Rel} {i : Nat} (h : relE code ns l i = 0) : lastR l i < (rl l i).f0 ∧ (rl l i).f0 < (code.length : Int) ∧ 0 ≤ (rl l i).f1 ∧ (rl l i).f1 < ns ∧ (tgtS (rd code (rl l i).f0)).2 = true ∧ (tgtS (rd code (rl l i).f0)).1 = 0 := by
 rw [relE_eq] at h
 split at h
 ·
  exact absurd h (by decide)
 split at h
 ·
  exact absurd h (by decide)
 split at h
 ·
  exact absurd h (by decide)
 split at h
 ·
  exact absurd h (by decide)
 split at h
 ·
  rename_i h5
  split at h
  ·
   rename_i h6
   exact ⟨by omega, by omega, by omega, by omega, h5, h6⟩
  ·
   exact absurd h (by decide)
 ·
  exact absurd h (by decide)
theorem scan_plain {code : List Int} {ns : Int} {l : List Rel} (hz : ∀ j, j < l.length → relE code ns l j = 0) (k : Nat) : scanE code (markB l l.length) k = if (tgtS (rd code (k : Int))).2 = true then (if (tgtS (rd code (k : Int))).1 > (code.length : Int) then 22 else 0) else 0 := by
 rw [scanE_eq]
 by_cases h : (tgtS (rd code (k : Int))).2 = true
 ·
  rw [if_pos h, if_pos h]
  by_cases hn : markB l l.length k = true
  ·
   rw [if_pos hn]
   obtain ⟨j, hj, e⟩ := mark_of hn
   obtain ⟨h1, _, _, _, _, h6⟩ := relE_ok (hz j hj)
   have hlo := lastR_lo code ns l j (fun q hq => hz q (by omega))
   rw [show ((rl l j).f0) = (k : Int) by omega] at h6
   rw [if_neg (by omega)]
  ·
   rw [if_neg hn]
 ·
  rw [if_neg h, if_neg h]
theorem firstS_iff {g : Nat → Int} {n : Nat} (h : (firstS g n n).1 = 0) : ∀ j, j < n → g j = 0 := by
  intro j hj
  have key : ∀ d i, i + d = n → (∀ q, q < i → g q = 0) → ∀ q, q < n → g q = 0 := by
    intro d
    induction d with
    | zero => intro i hi hz q hq; exact hz q (by omega)
    | succ d ih =>
      intro i hi hz q hq
      by_cases e : g i = 0
      · exact ih (i + 1) (by omega) (fun p hp => by
          by_cases e2 : p = i
          · rw [e2]; exact e
          · exact hz p (by omega)) q hq
      · rw [firstS_at (by omega) hz e] at h
        exact absurd h e
  exact key n 0 (by omega) (fun q hq => absurd hq (Nat.not_lt_zero _)) j hj
end Go.Proofs.YtiaohbbafaaibabDoor.P

/- OWN TEXT: what holds in an object that may be, over plain lists; a word more, a relocation less, a symbol twice. -/
set_option linter.unusedVariables false
set_option linter.unusedSimpArgs false
namespace Go.Proofs.YtiaohbbafaaibabDoor.P
open Go.RowKit Go.Maps Go.Proofs.YtiaohbbafaaibabDoorW.PrintWords Go.Proofs.YtiaohbbafaaibabDoorW.PrintLast Go.Proofs.YtiaohbbafaaibabDoorW.PrintMore Go.Proofs.YtiaohbbafaaibabDoor.MapB

def plainE (code : List Int) (k : Nat) : Int := if (tgtS (rd code (k : Int))).2 = true then (if (tgtS (rd code (k : Int))).1 > (code.length : Int) then 22 else 0) else 0
structure OkO (nm : ByteArray) (code : List Int) (dat : Int) (data : List Int) (syms : List Sym) (rels : List Rel) : Prop where
  osize : (sizeS nm code dat data syms.length rels.length).1 = 0
  osyms : ∀ j, j < syms.length → symE syms (code.length : Int) j = 0
  orels : ∀ j, j < rels.length → relE code (syms.length : Int) rels j = 0
  oscan : ∀ k, k < code.length → plainE code k = 0
section
variable {nm : ByteArray} {code : List Int} {dat : Int} {data : List Int} {syms : List Sym} {rels : List Rel}
theorem scanS_iff {g : Nat → Int} {n : Nat} (h : (scanS g n n).1 = 0) : ∀ j, j < n → g j = 0 := by
  intro j hj
  have key : ∀ d i, i + d = n → (∀ q, q < i → g q = 0) → ∀ q, q < n → g q = 0 := by
    intro d
    induction d with
    | zero => intro i hi hz q hq; exact hz q (by omega)
    | succ d ih =>
      intro i hi hz q hq
      by_cases e : g i = 0
      · exact ih (i + 1) (by omega) (fun p hp => by
          by_cases e2 : p = i
          · rw [e2]; exact e
          · exact hz p (by omega)) q hq
      · rw [scanS_at (by omega) hz e] at h
        exact absurd h e
  exact key n 0 (by omega) (fun q hq => absurd hq (Nat.not_lt_zero _)) j hj
theorem okO_of (h : (chkO nm code dat data syms rels).1 = 0) : OkO nm code dat data syms rels := by
 unfold chkO at h
 by_cases h1 : (sizeS nm code dat data syms.length rels.length).1 = 0
 ·
  rw [if_pos h1] at h
  by_cases h2 : (symsS syms (code.length : Int)).1 = 0
  ·
   rw [if_pos h2] at h
   by_cases h3 : (relocsS code (syms.length : Int) rels).1 = 0
   ·
    have hs := firstS_iff (g := symE syms (code.length : Int)) h2
    have hr : ∀ j, j < rels.length → relE code (syms.length : Int) rels j = 0 := by
     unfold relocsS at h3
     by_cases h4 : (firstS (relE code (syms.length : Int) rels) rels.length rels.length).1 = 0
     ·
      exact firstS_iff h4
     ·
      rw [if_neg h4] at h3; exact absurd h3 h4
    rw [relocs_scan hr] at h3
    have hk := scanS_iff h3
    exact ⟨h1, hs, hr, fun k hk' => (scan_plain hr k).symm.trans (hk k hk')⟩
   ·
    rw [if_neg h3] at h; exact absurd h h3
  ·
   rw [if_neg h2] at h; exact absurd h h2
 ·
  rw [if_neg h1] at h; exact absurd h h1
theorem OkO.chk (h : OkO nm code dat data syms rels) : chkO nm code dat data syms rels = (0, 0) := by
 unfold chkO
 rw [if_pos h.osize]
 have h2 : symsS syms (code.length : Int) = (0, 0) := firstS_zero h.osyms
 rw [h2, if_pos rfl]
 have h3 : relocsS code (syms.length : Int) rels = (0, 0) := by
  rw [relocs_scan h.orels]
  exact scanS_zero (fun j hj => (scan_plain h.orels j).trans (h.oscan j hj))
 rw [h3, if_pos rfl]
theorem symE_ok {l : List Sym} {n : Int} {i : Nat} (h : symE l n i = 0) : nameS (sy l i).f0 = true ∧ nameSeen l i (keyN (sy l i).f0) = false ∧ 0 ≤ (sy l i).f1 ∧ (sy l i).f1 ≤ 3 ∧ 0 ≤ (sy l i).f2 ∧ (sy l i).f2 ≤ n ∧ ((sy l i).f1 = 3 → (sy l i).f2 = 0) := by
 rw [symE_eq] at h
 split at h
 ·
  rename_i h0
  refine ⟨h0, ?_⟩
  split at h
  ·
   exact absurd h (by decide)
  rename_i h1
  refine ⟨by simpa using h1, ?_⟩
  split at h
  ·
   exact absurd h (by decide)
  split at h
  ·
   exact absurd h (by decide)
  split at h
  ·
   exact absurd h (by decide)
  split at h
  ·
   exact absurd h (by decide)
  split at h
  ·
   split at h
   ·
    exact ⟨by omega, by omega, by omega, by omega, fun _ => by assumption⟩
   ·
    exact absurd h (by decide)
  ·
   exact ⟨by omega, by omega, by omega, by omega, fun e => by contradiction⟩
 ·
  exact absurd h (by decide)
theorem symE_mk {l : List Sym} {n : Int} {i : Nat} (h0 : nameS (sy l i).f0 = true) (h1 : nameSeen l i (keyN (sy l i).f0) = false) (h2 : 0 ≤ (sy l i).f1) (h3 : (sy l i).f1 ≤ 3) (h4 : 0 ≤ (sy l i).f2) (h5 : (sy l i).f2 ≤ n) (h6 : (sy l i).f1 = 3 → (sy l i).f2 = 0) : symE l n i = 0 := by
 rw [symE_eq, if_pos h0, if_neg (by rw [h1]; decide), if_neg (by omega), if_neg (by omega), if_neg (by omega), if_neg (by omega)]
 by_cases c : (sy l i).f1 = 3
 ·
  rw [if_pos c, if_pos (h6 c)]
 ·
  rw [if_neg c]
theorem relE_mk {l : List Rel} {ns : Int} {i : Nat} (h1 : lastR l i < (rl l i).f0) (h2 : (rl l i).f0 < (code.length : Int)) (h3 : 0 ≤ (rl l i).f1) (h4 : (rl l i).f1 < ns) (h5 : (tgtS (rd code (rl l i).f0)).2 = true) (h6 : (tgtS (rd code (rl l i).f0)).1 = 0) : relE code ns l i = 0 := by
 rw [relE_eq, if_neg (by omega), if_neg (by omega), if_neg (by omega), if_neg (by omega), if_pos h5, if_pos h6]
theorem lastR_rise {ns : Int} (h : ∀ j, j < rels.length → relE code ns rels j = 0) : ∀ i, i < rels.length → ∀ j, j < i → (rl rels j).f0 < (rl rels i).f0
  | 0, _, j, hj => absurd hj (Nat.not_lt_zero _)
  | i + 1, hi, j, hj => by
    have h1 : (rl rels i).f0 < (rl rels (i + 1)).f0 := (relE_ok (h (i + 1) hi)).1
    by_cases e : j = i
    · rw [e]; exact h1
    · have := lastR_rise h i (by omega) j (by omega)
      omega
theorem atN_at (p : Int) : ∀ (l : List Rel) (b i : Nat), (h : i < l.length) → l[i].f0 = p → (∀ j, (hj : j < i) → (l[j]'(by omega)).f0 ≠ p) → atN p l b = ((b + i : Nat) : Int)
  | s :: r, b, 0, h, hn, _ => by
    unfold atN
    rw [if_pos (by rw [← hn]; rfl)]
    rfl
  | s :: r, b, i + 1, h, hn, hb => by
    unfold atN
    have h0 : s.f0 ≠ p := hb 0 (by omega)
    rw [if_neg h0, atN_at p r (b + 1) i (by simpa using h) (by simpa using hn) (fun j hj => by have := hb (j + 1) (by omega); simpa using this)]
    congr 1
    omega
theorem OkO.at (h : OkO nm code dat data syms rels) {i : Nat} (hi : i < rels.length) : atN (rl rels i).f0 rels 0 = (i : Int) := by
 have := atN_at (rl rels i).f0 rels 0 i hi (by rw [rl_at hi]) (fun j hj e => by
  have := lastR_rise h.orels i hi j hj
  rw [rl_at (show j < rels.length by omega), e] at this
  omega)
 rw [this]
 simp
theorem OkO.of (h : OkO nm code dat data syms rels) {i : Nat} (hi : i < syms.length) : ofN (sy syms i).f0 syms 0 = (i : Int) := (ofN_seen hi).2 (symE_ok (h.osyms i hi)).2.1
theorem rd_app {l m : List Int} {x : Int} (h0 : 0 ≤ x) (h1 : x < (l.length : Int)) : rd (l ++ m) x = rd l x := by
 unfold rd
 rw [List.getD_eq_getElem?_getD, List.getD_eq_getElem?_getD, List.getElem?_append_left (by omega)]
theorem rel_lo (h : OkO nm code dat data syms rels) {j : Nat} (hj : j < rels.length) : 0 ≤ (rl rels j).f0 := by
 have h1 := (relE_ok (h.orels j hj)).1
 have h2 := lastR_lo code (syms.length : Int) rels j (fun q hq => h.orels q (by omega))
 omega
set_option maxRecDepth 100000 in
theorem tgt_one : (tgtS 1).2 = false := by kernel_rfl
theorem sizeS_mk {ns nr : Nat} (h0 : nameS nm = true) (h1 : code.length ≤ 16384) (h2 : ns ≤ 256) (h3 : nr ≤ code.length) (h4 : 0 ≤ dat) (h5 : dat + (data.length : Int) ≤ 4096) : (sizeS nm code dat data ns nr).1 = 0 := by
 unfold sizeS
 rw [if_pos h0, if_neg (by omega), if_neg (by omega), if_neg (by omega), if_neg (by omega), if_neg (by omega), if_neg (by omega)]
theorem OkO.word (h : OkO nm code dat data syms rels) (hl : code.length < 16384) : OkO nm (code ++ [1]) dat data syms rels := by
 obtain ⟨a0, a1, a2, a3, a4, a5⟩ := sizeS_ok h.osize
 have hlen : (code ++ [1]).length = code.length + 1 := by simp
 refine ⟨sizeS_mk a0 (by omega) a2 (by omega) a4 a5, fun j hj => ?_, fun j hj => ?_, fun k hk => ?_⟩
 ·
  obtain ⟨b0, b1, b2, b3, b4, b5, b6⟩ := symE_ok (h.osyms j hj)
  exact symE_mk b0 b1 b2 b3 b4 (by omega) b6
 ·
  obtain ⟨b0, b1, b2, b3, b4, b5⟩ := relE_ok (h.orels j hj)
  have hlo := rel_lo h hj
  exact relE_mk b0 (by omega) b2 b3 (by rw [rd_app hlo b1]; exact b4) (by rw [rd_app hlo b1]; exact b5)
 ·
  unfold plainE
  by_cases e : k < code.length
  ·
   have hs := h.oscan k e
   unfold plainE at hs
   rw [rd_app (by omega) (by omega)]
   by_cases c : (tgtS (rd code (k : Int))).2 = true
   ·
    rw [if_pos c] at hs ⊢
    by_cases c2 : (tgtS (rd code (k : Int))).1 > (code.length : Int)
    ·
     rw [if_pos c2] at hs; exact absurd hs (by decide)
    ·
     rw [if_neg (by omega)]
   ·
    rw [if_neg c]
  ·
   obtain rfl : k = code.length := by omega
   have : rd (code ++ [1]) (code.length : Int) = 1 := by unfold rd; simp
   rw [this, tgt_one, if_neg (by decide)]
theorem rl_take {n j : Nat} (hj : j < n) : rl (rels.take n) j = rl rels j := by
 unfold rl rd_T68
 simp only [List.getD_eq_getElem?_getD, Int.toNat_natCast, List.getElem?_take_of_lt hj]
theorem lastR_take {n j : Nat} (hj : j ≤ n) : lastR (rels.take n) j = lastR rels j := by
 cases j with
 | zero => rfl
 | succ j => show (rl (rels.take n) j).f0 = (rl rels j).f0; rw [rl_take (by omega)]
theorem OkO.less (h : OkO nm code dat data syms rels) {n : Nat} (hn : n ≤ rels.length) : OkO nm code dat data syms (rels.take n) := by
 obtain ⟨a0, a1, a2, a3, a4, a5⟩ := sizeS_ok h.osize
 have hlen : (rels.take n).length = n := by simp; omega
 refine ⟨sizeS_mk a0 a1 a2 (by omega) a4 a5, h.osyms, fun j hj => ?_, h.oscan⟩
 rw [hlen] at hj
 obtain ⟨b0, b1, b2, b3, b4, b5⟩ := relE_ok (h.orels j (by omega))
 refine relE_mk ?_ ?_ ?_ ?_ ?_ ?_
 ·
  rw [rl_take hj, lastR_take (by omega)]; exact b0
 ·
  rw [rl_take hj]; exact b1
 ·
  rw [rl_take hj]; exact b2
 ·
  rw [rl_take hj]; exact b3
 ·
  rw [rl_take hj]; exact b4
 ·
  rw [rl_take hj]; exact b5
theorem sy_app {s : Sym} {j : Nat} (hj : j < syms.length) : sy (syms ++ [s]) j = sy syms j := by
 rw [sy_at (by simp; omega), sy_at hj, List.getElem_append_left hj]
theorem seen_app {s : Sym} : ∀ j, j ≤ syms.length → nameSeen (syms ++ [s]) j = nameSeen syms j
  | 0, _ => rfl
  | j + 1, h => by
    show addS (nameSeen (syms ++ [s]) j) (keyN (sy (syms ++ [s]) j).f0) = addS (nameSeen syms j) (keyN (sy syms j).f0)
    rw [seen_app j (by omega), sy_app (by omega)]
theorem OkO.twice (h : OkO nm code dat data syms rels) (hl : syms.length < 256) {p : Nat} (hp : p < syms.length) {s : Sym} (hs : s.f0 = (sy syms p).f0) : chkO nm code dat data (syms ++ [s]) rels = (26, (syms.length : Int)) := by
 obtain ⟨a0, a1, a2, a3, a4, a5⟩ := sizeS_ok h.osize
 have hlen : (syms ++ [s]).length = syms.length + 1 := by simp
 have hlast : sy (syms ++ [s]) syms.length = s := by rw [sy_at (by omega)]; simp
 have hsy : symsS (syms ++ [s]) (code.length : Int) = (26, (syms.length : Int)) := by
  have h26 : symE (syms ++ [s]) (code.length : Int) syms.length = 26 := by
   rw [symE_eq, hlast, if_pos (by rw [hs]; exact (symE_ok (h.osyms p hp)).1), if_pos (by rw [seen_app _ (Nat.le_refl _), seen_iff]; exact ⟨p, hp, hs.symm⟩)]
  have := firstS_at (g := symE (syms ++ [s]) (code.length : Int)) (n := (syms ++ [s]).length) (i := syms.length) (by omega) (fun j hj => by
   obtain ⟨b0, b1, b2, b3, b4, b5, b6⟩ := symE_ok (h.osyms j hj)
   rw [← sy_app (s := s) hj] at b0 b1 b2 b3 b4 b5 b6
   rw [← seen_app (s := s) j (by omega)] at b1
   exact symE_mk b0 b1 b2 b3 b4 b5 b6) (by rw [h26]; decide)
  rw [h26] at this
  exact this
 unfold chkO
 rw [if_pos (sizeS_mk a0 a1 (by omega) a3 a4 a5), hsy]
 exact if_neg (show ¬ (26 : Int) = 0 by decide)
end
end Go.Proofs.YtiaohbbafaaibabDoor.P

/- OWN TEXT: the first of a kind and name, the objects' own checks, the rows: plain laws, without the document's answer. -/
set_option linter.unusedVariables false
set_option linter.unusedSimpArgs false
namespace Go.Proofs.YtiaohbbafaaibabDoor.P
open Go.RowKit Go.Maps Go.Proofs.YtiaohbbafaaibabDoorW.PrintWords Go.Proofs.YtiaohbbafaaibabDoorW.PrintLast Go.Proofs.YtiaohbbafaaibabDoorW.PrintMore Go.Proofs.YtiaohbbafaaibabDoor.Arr Go.Proofs.YtiaohbbafaaibabDoor.MapB Go.Proofs.YtiaohbbafaaibabDoor.SymM


structure Small (l : List ObjT) : Prop where
  len : l.length ≤ 1000000
  code : ∀ p, p < l.length → (ob l p).f1.length ≤ 100000000
  syms : ∀ p, p < l.length → (ob l p).f4.length ≤ 100000000
  rels : ∀ p, p < l.length → (ob l p).f5.length ≤ 100000000
  words : ∀ p, p < l.length → wordsO (ob l p).f1 = true
theorem symF_keep {syms : List Sym} {s : ByteArray} {kind a : Int} {q : Nat} (h : symF syms s kind q = some a) : ∀ d, symF syms s kind (q + d) = some a
  | 0 => h
  | d + 1 => by
    show (match symF syms s kind (q + d) with | some a => some a | none => _) = some a
    rw [symF_keep h d]
theorem rowF_keep {l : List ObjT} {s : ByteArray} {kind : Int} {x : Int × Int} {q : Nat} (h : rowF l s kind q = some x) : ∀ d, rowF l s kind (q + d) = some x
  | 0 => h
  | d + 1 => by
    show (match rowF l s kind (q + d) with | some a => some a | none => _) = some x
    rw [rowF_keep h d]
theorem rowF_step {l : List ObjT} {s : ByteArray} {kind : Int} {p : Nat} (h : rowF l s kind p = none) : rowF l s kind (p + 1) = (symF (ob l p).f4 s kind (ob l p).f4.length).map fun a => ((p : Int), a) := by
 show (match rowF l s kind p with | some x => some x | none => _) = _
 rw [h]
theorem symF_step {syms : List Sym} {s : ByteArray} {kind : Int} {j : Nat} (h : symF syms s kind j = none) : symF syms s kind (j + 1) = if (sy syms j).f0 = s ∧ (sy syms j).f1 = kind then some (sy syms j).f2 else none := by
 show (match symF syms s kind j with | some a => some a | none => _) = _
 rw [h]
theorem objSeen_iff (l : List ObjT) (s : ByteArray) : ∀ i, objSeen l i (keyN s) = true ↔ ∃ j, j < i ∧ (ob l j).f0 = s
  | 0 => by simp [objSeen]
  | i + 1 => by
    show ((keyN s).sameKey (keyN (ob l i).f0) || objSeen l i (keyN s)) = true ↔ _
    rw [Bool.or_eq_true, key_inj, objSeen_iff l s i]
    constructor
    · rintro (h | ⟨j, h1, h2⟩)
      · exact ⟨i, Nat.lt_succ_self i, h.symm⟩
      · exact ⟨j, by omega, h2⟩
    · rintro ⟨j, h1, h2⟩
      by_cases e : j = i
      · rw [e] at h2; exact .inl h2.symm
      · exact .inr ⟨j, by omega, h2⟩
theorem objCheck {l : List ObjT} (hS : Small l) {p : Nat} (hp : p < l.length) : object_Check.f (ob l p).f0 (ob l p).f1 (ob l p).f2 (ob l p).f3 (ob l p).f4 (ob l p).f5 = some (chkO (ob l p).f0 (ob l p).f1 (ob l p).f2 (ob l p).f3 (ob l p).f4 (ob l p).f5) := by
 unfold object_Check.f
 rw [if_pos (hS.words p hp)]
theorem chkR_ne (l : List ObjT) : ∀ n x, chkSy l n = some (some x) → x.1 ≠ 0
  | 0, x, h => by cases h
  | n + 1, x, h => by
    cases hc : chkSy l n with
    | none => simp only [chkSy, hc] at h; cases h
    | some o =>
      cases o with
      | some y =>
        simp only [chkSy, hc] at h
        injection h with h; injection h with h
        rw [← h]; exact chkR_ne l n y hc
      | none =>
        rw [chkR_step l n hc] at h
        split at h
        · cases h
        · split at h
          · injection h with h; injection h with h
            rw [← h]; assumption
          · split at h
            · injection h with h; injection h with h
              rw [← h]; exact (show ¬ (26 : Int) = 0 by decide)
            · injection h with h; cases h
structure Fine (l : List ObjT) : Prop where
  each : ∀ p, p < l.length → OkO (ob l p).f0 (ob l p).f1 (ob l p).f2 (ob l p).f3 (ob l p).f4 (ob l p).f5
  names : ∀ p, p < l.length → ∀ q, q < p → ¬ (ob l q).f0 = (ob l p).f0
theorem chkR_back (l : List ObjT) {n p : Nat} (h : chkSy l n = some none) (hp : p ≤ n) : chkSy l p = some none := by
 cases hc : chkSy l p with
 | none =>
  have := chkR_none l p (n - p) hc
  rw [show p + (n - p) = n by omega, h] at this; cases this
 | some o =>
  cases o with
  | none => rfl
  | some x =>
   have := chkR_some l p (n - p) x hc
   rw [show p + (n - p) = n by omega, h] at this; cases this
theorem fine_of {l : List ObjT} (hS : Small l) (h : chkSy l l.length = some none) : Fine l := by
 have key : ∀ p, p < l.length → (chkO (ob l p).f0 (ob l p).f1 (ob l p).f2 (ob l p).f3 (ob l p).f4 (ob l p).f5).1 = 0 ∧ ∀ q, q < p → ¬ (ob l q).f0 = (ob l p).f0 := by
  intro p hp
  have h1 := chkR_step l p (chkR_back l h (Nat.le_of_lt hp))
  rw [chkR_back l h (show p + 1 ≤ l.length by omega), objCheck hS hp] at h1
  generalize chkO (ob l p).f0 (ob l p).f1 (ob l p).f2 (ob l p).f3 (ob l p).f4 (ob l p).f5 = x at h1 ⊢
  obtain ⟨e, n⟩ := x
  simp only at h1
  by_cases he : e = 0
  ·
   subst he
   refine ⟨rfl, fun q hq hqn => ?_⟩
   rw [if_neg (by decide), if_pos ((objSeen_iff l _ p).2 ⟨q, hq, hqn⟩)] at h1
   injection h1 with h1; cases h1
  ·
   rw [if_pos he] at h1
   injection h1 with h1; cases h1
 exact ⟨fun p hp => okO_of (key p hp).1, fun p hp => (key p hp).2⟩
theorem bound_row {L : List Ent} {l : List ObjT} {p q : Nat} (h : ¬ unbound L l p q) : ∃ x, symX L (p : Int) (sy (ob l p).f4 q) = some x ∧ rowL L (ob l p).f4 (p : Int) (q + 1) = rowL L (ob l p).f4 (p : Int) q ++ [x] := by
 unfold unbound at h
 cases hx : symX L (p : Int) (sy (ob l p).f4 q) with
 | none => exact absurd hx h
 | some x =>
  refine ⟨x, rfl, ?_⟩
  show rowL L (ob l p).f4 (p : Int) q ++ (symX L (p : Int) (sy (ob l p).f4 q)).toList = _
  rw [hx]; rfl
theorem rowL_length {L : List Ent} {l : List ObjT} {p : Nat} : ∀ q, (∀ q', q' < q → ¬ unbound L l p q') → (rowL L (ob l p).f4 (p : Int) q).length = q
  | 0, _ => rfl
  | q + 1, h => by
    obtain ⟨x, _, hx⟩ := bound_row (h q (by omega))
    rw [hx, List.length_append, rowL_length q (fun q' h' => h q' (by omega))]
    rfl
theorem rowsL_length (L : List Ent) (l : List ObjT) : ∀ n, (rowsL L l n).length = n
  | 0 => rfl
  | n + 1 => by
    show (rowsL L l n ++ [_]).length = _
    rw [List.length_append, rowsL_length L l n]; rfl
end Go.Proofs.YtiaohbbafaaibabDoor.P

/- OWN TEXT: what binding means, over plain lists: where a bound symbol stands; one more Wanted symbol. -/
set_option linter.unusedVariables false
set_option linter.unusedSimpArgs false
namespace Go.Proofs.YtiaohbbafaaibabDoor.P
open Go.RowKit Go.Maps Go.Proofs.YtiaohbbafaaibabDoorW.PrintWords Go.Proofs.YtiaohbbafaaibabDoorW.PrintLast Go.Proofs.YtiaohbbafaaibabDoorW.PrintMore Go.Proofs.YtiaohbbafaaibabDoor.Arr Go.Proofs.YtiaohbbafaaibabDoor.MapB Go.Proofs.YtiaohbbafaaibabDoor.SymM

theorem ok_of {l : List ObjT} {d : List (List DefT)} {n m : Int} (h : resolveR l = some (d, 0, n, m)) : l.length ≤ 32 ∧ chkSy l l.length = some none ∧ NoneBad l (twice l) ∧ NoneBad l (unbound (gObj l l.length) l) ∧ d = rowsL (gObj l l.length) l l.length := by
 by_cases c : (l.length : Int) > 32
 ·
  unfold resolveR at h
  rw [if_pos c] at h
  simp at h
 ·
  have hl : l.length ≤ 32 := by omega
  cases hc : chkSy l l.length with
  | none => unfold resolveR at h; rw [if_neg c, hc] at h; cases h
  | some o =>
   cases o with
   | some x =>
    unfold resolveR at h
    rw [if_neg c, hc] at h
    obtain ⟨x1, x2, x3⟩ := x
    simp only [Option.some.injEq, Prod.mk.injEq] at h
    exact absurd h.2.1 (chkR_ne l _ _ hc)
   | none =>
    obtain ⟨x, hx, ht⟩ := resolve_told l hl hc
    rw [h] at hx
    have hx := Option.some.inj hx
    cases ht with
    | two hb => simp at hx
    | un h0 hb => simp at hx
    | ok h0 hn =>
     simp only [Prod.mk.injEq] at hx
     exact ⟨hl, rfl, h0, hn, hx.1⟩
theorem rowsL_get (L : List Ent) (l : List ObjT) (i : Nat) : ∀ n, i < n → (rowsL L l n).getD i [] = rowL L (ob l i).f4 (i : Int) (ob l i).f4.length
  | n + 1, h => by
    show (rowsL L l n ++ [_]).getD i [] = _
    have hl := rowsL_length L l n
    by_cases e : i = n
    · subst e
      rw [List.getD_eq_getElem?_getD, List.getElem?_append_right (by omega), hl, Nat.sub_self]
      rfl
    · rw [List.getD_eq_getElem?_getD, List.getElem?_append_left (by omega), ← List.getD_eq_getElem?_getD]
      exact rowsL_get L l i n (by omega)
theorem rowL_get {L : List Ent} {l : List ObjT} {p k : Nat} {x z : DefT} (hx : symX L (p : Int) (sy (ob l p).f4 k) = some x) : ∀ n, k < n → (∀ q, q < n → ¬ unbound L l p q) → (rowL L (ob l p).f4 (p : Int) n).getD k z = x
  | n + 1, h, hn => by
    obtain ⟨y, hy, hrow⟩ := bound_row (hn n (Nat.lt_succ_self n))
    have hl := rowL_length n (fun q hq => hn q (by omega))
    rw [hrow]
    by_cases e : k = n
    · subst e
      rw [List.getD_eq_getElem?_getD, List.getElem?_append_right (by omega), hl, Nat.sub_self]
      rw [hx] at hy
      rw [Option.some.inj hy]
      rfl
    · rw [List.getD_eq_getElem?_getD, List.getElem?_append_left (by omega), ← List.getD_eq_getElem?_getD]
      exact rowL_get hx n (by omega) (fun q hq => hn q (by omega))
theorem symF_is {syms : List Sym} {s : ByteArray} {kind a : Int} : ∀ n, symF syms s kind n = some a → ∃ q, q < n ∧ (sy syms q).f0 = s ∧ (sy syms q).f1 = kind ∧ (sy syms q).f2 = a
  | n + 1, h => by
    cases hs : symF syms s kind n with
    | some b =>
      rw [symF_keep hs 1] at h
      obtain ⟨q, h1, h2⟩ := symF_is n hs
      rw [Option.some.inj h] at h2
      exact ⟨q, by omega, h2⟩
    | none =>
      rw [symF_step hs] at h
      split at h
      · rename_i c
        exact ⟨n, Nat.lt_succ_self n, c.1, c.2, Option.some.inj h⟩
      · cases h
theorem rowF_is {l : List ObjT} {s : ByteArray} {kind : Int} {x : Int × Int} : ∀ n, rowF l s kind n = some x → ∃ p q, p < n ∧ q < (ob l p).f4.length ∧ (sy (ob l p).f4 q).f0 = s ∧ (sy (ob l p).f4 q).f1 = kind ∧ x = ((p : Int), (sy (ob l p).f4 q).f2)
  | n + 1, h => by
    cases hs : rowF l s kind n with
    | some b =>
      rw [rowF_keep hs 1] at h
      obtain ⟨p, q, h1, h2⟩ := rowF_is n hs
      rw [Option.some.inj h] at h2
      exact ⟨p, q, by omega, h2⟩
    | none =>
      rw [rowF_step hs] at h
      cases ha : symF (ob l n).f4 s kind (ob l n).f4.length with
      | none => rw [ha] at h; cases h
      | some a =>
        rw [ha] at h
        obtain ⟨q, h1, h2, h3, h4⟩ := symF_is _ ha
        refine ⟨n, q, Nat.lt_succ_self n, h1, h2, h3, ?_⟩
        rw [h4]
        exact (Option.some.inj h).symm
theorem findF_is {l : List ObjT} {s : ByteArray} (h : (findF l s l.length).2.2 = true) : ∃ p q, p < l.length ∧ q < (ob l p).f4.length ∧ findF l s l.length = ((p : Int), (sy (ob l p).f4 q).f2, true) := by
 unfold findF at h ⊢
 cases h1 : rowF l s 1 l.length with
 | some x =>
  obtain ⟨p, q, a, b, _, _, e⟩ := rowF_is _ h1
  subst e
  exact ⟨p, q, a, b, rfl⟩
 | none =>
  rw [h1] at h
  cases h2 : rowF l s 2 l.length with
  | some x =>
   obtain ⟨p, q, a, b, _, _, e⟩ := rowF_is _ h2
   subst e
   exact ⟨p, q, a, b, rfl⟩
  | none => rw [h2] at h; cases h
section
variable {l l' : List ObjT}
end
end Go.Proofs.YtiaohbbafaaibabDoor.P
