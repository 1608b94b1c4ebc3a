/- OWN TEXT and printed parts of this claim, laid together: P20, P21. -/
import Derived.Test.YtiaohbbafaaibabZrM0
import Derived.Test.YtiaohbbafaaibabZrM5
import Derived.Test.YtiaohbbafaaibabZrM1
import Derived.Test.YtiaohbbafaaibabZrM7
/- What the Go functions named below come to, as plain functions, each with its proof; written by this session's prt.py over the kit's print. -/
namespace Go.Proofs.Ytiaohbbafaaibab.P
open Go.RowKit Go.Proofs.YtiaohbbafaaibabW.PrintWords Go.Proofs.YtiaohbbafaaibabW.PrintLast Go.Proofs.YtiaohbbafaaibabW.PrintMore
attribute [local go_sem] max2_int min2_int max_two min_two max_three min_three max_four min_four   -- for this text's walks alone
set_option linter.unusedVariables false
set_option linter.unusedSimpArgs false
/-! ### pleatref08_names: function 44 -/
mutual
def pleatref08_names.l0 : Nat → List (S27) → Int → Option (Int × Int × Int)
 | 0, _, _ => none
 | k + 1, x0, x5 => if x5 < (x0.length : Int) then (pleatref08_names.l1 k x0 x5 0) else (pleatref08_names.l2 k x0 0)
def pleatref08_names.l1 : Nat → List (S27) → Int → Int → Option (Int × Int × Int)
 | 0, _, _, _ => none
 | k + 1, x0, x5, x6 => if 0 ≤ x5 then (if x5 < (x0.length : Int) then (if x6 < (((rd_T27 x0 x5).f4).length : Int) then (if 0 ≤ x6 then ((pleatref08_first.f k x0 ((rd_T37 ((rd_T27 x0 x5).f4) x6).f0) 1 x5 x6).bind fun bt525 => (if ((rd_T37 ((rd_T27 x0 x5).f4) x6).f1) = 1 then (if bt525.2.2 = true then (some (26, x5, x6)) else (pleatref08_names.l1 k x0 x5 (wrap64 (x6 + 1)))) else (pleatref08_names.l1 k x0 x5 (wrap64 (x6 + 1))))) else (none)) else (pleatref08_names.l0 k x0 (wrap64 (x5 + 1)))) else (none)) else (none)
def pleatref08_names.l2 : Nat → List (S27) → Int → Option (Int × Int × Int)
 | 0, _, _ => none
 | k + 1, x0, x10 => if x10 < (x0.length : Int) then (pleatref08_names.l3 k x0 x10 0) else (some (0, 0, 0))
def pleatref08_names.l3 : Nat → List (S27) → Int → Int → Option (Int × Int × Int)
 | 0, _, _, _ => none
 | k + 1, x0, x10, x11 => if 0 ≤ x10 then (if x10 < (x0.length : Int) then (if x11 < (((rd_T27 x0 x10).f4).length : Int) then (if 0 ≤ x11 then ((pleatref08_Find.f k x0 ((rd_T37 ((rd_T27 x0 x10).f4) x11).f0)).bind fun bt533 => (if ((rd_T37 ((rd_T27 x0 x10).f4) x11).f1) = 3 then (if bt533.2.2 = true then (pleatref08_names.l3 k x0 x10 (wrap64 (x11 + 1))) else (some (40, x10, x11))) else (pleatref08_names.l3 k x0 x10 (wrap64 (x11 + 1))))) else (none)) else (pleatref08_names.l2 k x0 (wrap64 (x10 + 1)))) else (none)) else (none)
end
def pleatref08_names.f (k : Nat) (l0 : List (S27)) : Option (Int × Int × Int) := pleatref08_names.l0 k l0 0
theorem pleatref08_names.mono_l : ∀ k, (∀ y0 y1, LeO (pleatref08_names.l0 k y0 y1) (pleatref08_names.l0 (k + 1) y0 y1)) ∧ (∀ y0 y1 y2, LeO (pleatref08_names.l1 k y0 y1 y2) (pleatref08_names.l1 (k + 1) y0 y1 y2)) ∧ (∀ y0 y1, LeO (pleatref08_names.l2 k y0 y1) (pleatref08_names.l2 (k + 1) y0 y1)) ∧ (∀ y0 y1 y2, LeO (pleatref08_names.l3 k y0 y1 y2) (pleatref08_names.l3 (k + 1) y0 y1 y2))
 | 0 => ⟨fun _ _ r h => by simp [pleatref08_names.l0] at h, fun _ _ _ r h => by simp [pleatref08_names.l1] at h, fun _ _ r h => by simp [pleatref08_names.l2] at h, fun _ _ _ r h => by simp [pleatref08_names.l3] at h⟩
 | k + 1 => by
  obtain ⟨ih0, ih1, ih2, ih3⟩ := pleatref08_names.mono_l k
  refine ⟨?_, ?_, ?_, ?_⟩
  ·
   intro y0 y1
   unfold pleatref08_names.l0
   repeat' first
   | (with_reducible first | exact ih0 _ _ | exact ih1 _ _ _ | exact ih2 _ _ | exact ih3 _ _ _ | exact pleatref08_Find.mono _ _ _ | exact pleatref08_first.mono _ _ _ _ _ _ | exact LeO.refl _ | exact LeO.none _ | refine LeO.ite ?_ ?_ | refine LeO.bind ?_ (fun _ => ?_))
  ·
   intro y0 y1 y2
   unfold pleatref08_names.l1
   repeat' first
   | (with_reducible first | exact ih0 _ _ | exact ih1 _ _ _ | exact ih2 _ _ | exact ih3 _ _ _ | exact pleatref08_Find.mono _ _ _ | exact pleatref08_first.mono _ _ _ _ _ _ | exact LeO.refl _ | exact LeO.none _ | refine LeO.ite ?_ ?_ | refine LeO.bind ?_ (fun _ => ?_))
  ·
   intro y0 y1
   unfold pleatref08_names.l2
   repeat' first
   | (with_reducible first | exact ih0 _ _ | exact ih1 _ _ _ | exact ih2 _ _ | exact ih3 _ _ _ | exact pleatref08_Find.mono _ _ _ | exact pleatref08_first.mono _ _ _ _ _ _ | exact LeO.refl _ | exact LeO.none _ | refine LeO.ite ?_ ?_ | refine LeO.bind ?_ (fun _ => ?_))
  ·
   intro y0 y1 y2
   unfold pleatref08_names.l3
   repeat' first
   | (with_reducible first | exact ih0 _ _ | exact ih1 _ _ _ | exact ih2 _ _ | exact ih3 _ _ _ | exact pleatref08_Find.mono _ _ _ | exact pleatref08_first.mono _ _ _ _ _ _ | exact LeO.refl _ | exact LeO.none _ | refine LeO.ite ?_ ?_ | refine LeO.bind ?_ (fun _ => ?_))
theorem pleatref08_names.mono : ∀ a0 k, LeO (pleatref08_names.f k a0) (pleatref08_names.f (k + 1) a0) := by
 intro a0 k
 obtain ⟨ih0, ih1, ih2, ih3⟩ := pleatref08_names.mono_l k
 unfold pleatref08_names.f
 repeat' first
   | (with_reducible first | exact ih0 _ _ | exact ih1 _ _ _ | exact ih2 _ _ | exact ih3 _ _ _ | exact pleatref08_Find.mono _ _ _ | exact pleatref08_first.mono _ _ _ _ _ _ | exact LeO.refl _ | exact LeO.none _ | refine LeO.ite ?_ ?_ | refine LeO.bind ?_ (fun _ => ?_))
set_option maxHeartbeats 8000000 in
set_option maxRecDepth 100000 in
theorem pleatref08_names.calls (k : Nat) (A0 : Option Addr) (c0 : Nat) (l0 : List (S27)) (r1 : Int) (r2 : Int) (r3 : Int) (w : World) (hr0 : Kd.C k27 w A0 l0.length l0) (hc0 : l0.length ≤ c0) (h : pleatref08_names.f k l0 = some (r1, r2, r3)) :
  Calls Try.prog 44 #[.slice A0 l0.length c0] w fun e w' => e = .returned (.tuple #[.int .i64 r1, .int .i64 r2, .int .i64 r3]) ∧ Below w.heap.size w w' := by
 have hu37 := Try.underlying37
 have hu57 := Try.underlying57
 have HR0 := Aside0.mk hr0
 have HC0 := Aside0.mk hc0
 clear hr0 hc0
 have HB := Aside0.mk (Below.refl w.heap.size w)
 have H : (pleatref08_names.l0 k l0 0) = some (r1, r2, r3) := h
 clear h
 have H' := Aside0.mk H
 clear H
 go_enter Try.func44, Try.ntmps44
 go_wp2
 go_loopg [5] k (fun kq v5 w' => ∃ (x5_1 : Int), v5 = .int .i64 x5_1 ∧ Aside0 (pleatref08_names.l0 kq l0 x5_1 = some (r1, r2, r3)) ∧ Aside0 (kq ≤ k) ∧ Aside0 (Below w.heap.size w w'))
 case atStart => exact ⟨(0), (by first | rfl | (simp; done) | (simp [*]; done)), H', ⟨Nat.le_refl _⟩, ⟨bwQ HB.out⟩⟩
 case round =>
  clear H'
  obtain ⟨x5_1, rfl, HA, HK1, HB⟩ := hrel
  cases gk with
  | zero => exact absurd HA.out (by simp [pleatref08_names.l0])
  | succ k1 =>
   have H := HA.out
   clear HA
   simp only [pleatref08_names.l0] at H
   by_cases c2 : x5_1 < (l0.length : Int)
   ·
    rw [if_pos c2] at H
    have c2b0 : decide (x5_1 < (l0.length : Int)) = true := decide_eq_true c2
    clear c2
    have H' := Aside0.mk H
    clear H
    go_wp2
    go_loopg [6] k1 (fun kq v6 w' => ∃ (x6_2 : Int), v6 = .int .i64 x6_2 ∧ Aside0 (pleatref08_names.l1 kq l0 x5_1 x6_2 = some (r1, r2, r3)) ∧ Aside0 (kq ≤ k1) ∧ Aside0 (Below w.heap.size w w'))
    case atStart => exact ⟨(0), (by first | rfl | (simp; done) | (simp [*]; done)), H', ⟨Nat.le_refl _⟩, ⟨bwQ HB.out⟩⟩
    case round =>
     clear H'
     try clear c2
     try clear c2b0
     try clear p2
     obtain ⟨x6_2, rfl, HA, HK2, HB⟩ := hrel
     cases gk with
     | zero => exact absurd HA.out (by simp [pleatref08_names.l1])
     | succ k2 =>
      have H := HA.out
      clear HA
      simp only [pleatref08_names.l1] at H
      by_cases c3 : 0 ≤ x5_1
      ·
       rw [if_pos c3] at H
       have c3b0 : decide (0 ≤ x5_1) = true := decide_eq_true c3
       clear c3
       by_cases c4 : x5_1 < (l0.length : Int)
       ·
        rw [if_pos c4] at H
        have c4b0 : decide (x5_1 < (l0.length : Int)) = true := decide_eq_true c4
        clear c4
        by_cases c5 : x6_2 < (((rd_T27 l0 x5_1).f4).length : Int)
        ·
         rw [if_pos c5] at H
         have c5b0 : decide (x6_2 < (((rd_T27 l0 x5_1).f4).length : Int)) = true := decide_eq_true c5
         clear c5
         by_cases c6 : 0 ≤ x6_2
         ·
          rw [if_pos c6] at H
          have c6b0 : decide (0 ≤ x6_2) = true := decide_eq_true c6
          clear c6
          replace H := Option.bind_eq_some_iff.mp H
          obtain ⟨⟨t525, t526, t527⟩, A70, H⟩ := H
          try dsimp only at H
          have A7 := Aside0.mk A70
          clear A70
          by_cases c8 : ((rd_T37 ((rd_T27 l0 x5_1).f4) x6_2).f1) = 1
          ·
           rw [if_pos c8] at H
           have c8b0 : (((rd_T37 ((rd_T27 l0 x5_1).f4) x6_2).f1) == 1) = true := beq_iff_eq.mpr c8
           have c8b1 : (((rd_T37 ((rd_T27 l0 x5_1).f4) x6_2).f1) != 1) = false := bne_eq_false_iff_eq.mpr c8
           clear c8
           by_cases c9 : t527 = true
           ·
            subst c9
            rw [if_pos rfl] at H
            simp only [Option.some.injEq, Prod.mk.injEq] at H
            obtain ⟨rfl, rfl, rfl⟩ := H
            have p521 : 0 ≤ (x5_1 : Int) := of_decide_eq_true ‹_›
            have q521 : x5_1 < (l0.length : Int) := of_decide_eq_true ‹_›
            obtain ⟨ad521, A521_1, c521_1, A521_3, c521_3, A521_4, c521_4, A521_5, c521_5, e521, hx521_0, hx521_1, hx521_2, hx521_3, hx521_4, hx521_5, -, -, -, -, hl521_4, hi521_4, -, -⟩ := atQ27 HR0.out HB.out x5_1 p521 q521
            cases e521
            have HR521_4 := Aside0.mk hi521_4
            have HC521_4 := Aside0.mk hl521_4
            clear hi521_4 hl521_4
            replace p521 := eq_true p521
            replace q521 := eq_true q521
            have p523 : 0 ≤ (x6_2 : Int) := of_decide_eq_true ‹_›
            have q523 : x6_2 < (((rd_T27 l0 x5_1).f4).length : Int) := of_decide_eq_true ‹_›
            obtain ⟨ad523, e523, hx523_0, hx523_1, hx523_2⟩ := atQ37 HR521_4.out HB.out x6_2 p523 q523
            cases e523
            replace p523 := eq_true p523
            replace q523 := eq_true q523
            go_wp2_with (first | ((with_reducible refine gate_dst (N := 7) rfl ?_); refine box_event ?hg (N := 7) ?hd (cs := #[.string (⟨#[]⟩ : ByteArray), .int .i8 0, .int .i64 0]) (t := 37) ?hr ?_; (case hd => rfl); (case hg => rfl); (case hr => go_simp; try rfl); intro gb524 hg w10 hbox hb; have BK524 := Aside0.mk (hbox); have GW524 := Aside0.mk (gwQ hg HB.out); have GE524 := Aside0.mk (gwQ hg HB.out); replace HB := Aside0.mk (bsQ hb HB.out); clear hb hbox hg; obtain ⟨hcz11_0, hcz11_1, hcz11_2⟩ := bcQ3 BK524.out; obtain ⟨hfz11_0, hfz11_1, hfz11_2⟩ := fzQ3 BK524.out) | ((with_reducible refine gate_callee (f := 46) rfl ?_); refine goesL_ (some 45) rfl rfl Try.func46 (by kernel_rfl) rfl #[.slice (some ad521) l0.length c0, .string ((rd_T37 ((rd_T27 l0 x5_1).f4) x6_2).f0), .int .i8 1, .int .i64 x5_1, .int .i64 x6_2] rfl (by (try simp only [List.map_toArray, List.map_cons, List.map_nil]); try rfl) ?_; (with_reducible refine (pleatref08_first.calls k2 _ _ l0 ((rd_T37 ((rd_T27 l0 x5_1).f4) x6_2).f0) 1 x5_1 x6_2 t525 t526 true _ ?side1 ?side2 A7.out).mono ?_); (case side1 => exact Kd.C_below HR0.out (by repeat with_reducible first | exact HB.out | apply pw_below_drewN | apply below_drew1 | refine below_set ?_ GE524.out)); (case side2 => exact HC0.out); rintro e w12 ⟨rfl, hb⟩; refine ⟨_, rfl, ?_⟩; have n0_ := Aside0.mk (blk_below (g := gb524) (o := .cells #[.string ((rd_T37 ((rd_T27 l0 x5_1).f4) x6_2).f0), .int .i8 ((rd_T37 ((rd_T27 l0 x5_1).f4) x6_2).f1), .int .i64 ((rd_T37 ((rd_T27 l0 x5_1).f4) x6_2).f2)] 37 (0, 0)) (by refine blk_put (cs := #[.string ((rd_T37 ((rd_T27 l0 x5_1).f4) x6_2).f0), .int .i8 ((rd_T37 ((rd_T27 l0 x5_1).f4) x6_2).f1), .int .i64 0]) ?_ 2 _ rfl; refine blk_put (cs := #[.string ((rd_T37 ((rd_T27 l0 x5_1).f4) x6_2).f0), .int .i8 0, .int .i64 0]) ?_ 1 _ rfl; refine blk_put (cs := #[.string (⟨#[]⟩ : ByteArray), .int .i8 0, .int .i64 0]) ?_ 0 _ rfl; exact BK524.out) hb); have n1_ := Aside0.mk (bs1Q hb (by repeat with_reducible first | exact HB.out | apply pw_below_drewN | apply below_drew1 | refine below_set ?_ GE524.out)); clear BK524; clear HB; have BK524 := n0_; have HB := n1_; clear n0_ n1_; (try clear hb); (try clear hb2); (try clear hk); (try clear hi)) | ((with_reducible refine gate_dst (N := 8) rfl ?_); refine box_event ?hg (N := 8) ?hd (cs := #[.int .i64 0, .int .i64 0]) (t := 57) ?hr ?_; (case hd => rfl); (case hg => rfl); (case hr => go_simp; try rfl); intro gb528 hg w13 hbox hb; have n0_ := Aside0.mk (bbQ hb BK524.out); have n1_ := Aside0.mk (bs1Q hb (by repeat with_reducible first | exact HB.out | apply pw_below_drewN | apply below_drew1 | refine below_set ?_ GE524.out)); have n2_ := Aside0.mk (hbox); have n3_ := Aside0.mk (gw1Q hg (by repeat with_reducible first | exact HB.out | apply pw_below_drewN | apply below_drew1 | refine below_set ?_ GE524.out)); have n4_ := Aside0.mk (gw1Q hg (by repeat with_reducible first | exact HB.out | apply pw_below_drewN | apply below_drew1 | refine below_set ?_ GE524.out)); have n5_ := Aside0.mk ((by rw [hg]; exact Nat.ne_of_lt (blk_lt (g := gb524) (o := .cells #[.string ((rd_T37 ((rd_T27 l0 x5_1).f4) x6_2).f0), .int .i8 ((rd_T37 ((rd_T27 l0 x5_1).f4) x6_2).f1), .int .i64 ((rd_T37 ((rd_T27 l0 x5_1).f4) x6_2).f2)] 37 (0, 0)) (by exact BK524.out)) : gb524 ≠ gb528)); have n6_ := Aside0.mk ((by rw [hg]; exact Nat.ne_of_gt (blk_lt (g := gb524) (o := .cells #[.string ((rd_T37 ((rd_T27 l0 x5_1).f4) x6_2).f0), .int .i8 ((rd_T37 ((rd_T27 l0 x5_1).f4) x6_2).f1), .int .i64 ((rd_T37 ((rd_T27 l0 x5_1).f4) x6_2).f2)] 37 (0, 0)) (by exact BK524.out)) : gb528 ≠ gb524)); clear BK524; clear HB; have BK524 := n0_; have HB := n1_; have BK528 := n2_; have GW528 := n3_; have GE528 := n4_; have NB524_528 := n5_; have NB528_524 := n6_; clear n0_ n1_ n2_ n3_ n4_ n5_ n6_; clear hb hbox hg; have hnb14 := NB528_524.out; have hnc14 := NB524_528.out; obtain ⟨hcz15_0, hcz15_1⟩ := bcQ2 BK528.out; obtain ⟨hfz15_0, hfz15_1⟩ := fzQ2 BK528.out; obtain ⟨hcz16_0, hcz16_1, hcz16_2⟩ := bcQ3 BK524.out; obtain ⟨hfz16_0, hfz16_1, hfz16_2⟩ := fzQ3 BK524.out))
            go_ret3
            exact ⟨by first | rfl | (simp [errW_none, errW_some] <;> rfl) | (simp [*, errW_none, errW_some] <;> rfl), by repeat with_reducible first | exact HB.out | apply pw_below_drewN | apply below_drew1 | refine below_set ?_ GE524.out | refine below_set ?_ GE528.out⟩
           ·
            replace c9 := Bool.eq_false_iff.mpr c9
            subst c9
            rw [if_neg Bool.false_ne_true] at H
            have H' := Aside0.mk H
            clear H
            have p521 : 0 ≤ (x5_1 : Int) := of_decide_eq_true ‹_›
            have q521 : x5_1 < (l0.length : Int) := of_decide_eq_true ‹_›
            obtain ⟨ad521, A521_1, c521_1, A521_3, c521_3, A521_4, c521_4, A521_5, c521_5, e521, hx521_0, hx521_1, hx521_2, hx521_3, hx521_4, hx521_5, -, -, -, -, hl521_4, hi521_4, -, -⟩ := atQ27 HR0.out HB.out x5_1 p521 q521
            cases e521
            have HR521_4 := Aside0.mk hi521_4
            have HC521_4 := Aside0.mk hl521_4
            clear hi521_4 hl521_4
            replace p521 := eq_true p521
            replace q521 := eq_true q521
            have p523 : 0 ≤ (x6_2 : Int) := of_decide_eq_true ‹_›
            have q523 : x6_2 < (((rd_T27 l0 x5_1).f4).length : Int) := of_decide_eq_true ‹_›
            obtain ⟨ad523, e523, hx523_0, hx523_1, hx523_2⟩ := atQ37 HR521_4.out HB.out x6_2 p523 q523
            cases e523
            replace p523 := eq_true p523
            replace q523 := eq_true q523
            go_wp2_with (first | ((with_reducible refine gate_dst (N := 7) rfl ?_); refine box_event ?hg (N := 7) ?hd (cs := #[.string (⟨#[]⟩ : ByteArray), .int .i8 0, .int .i64 0]) (t := 37) ?hr ?_; (case hd => rfl); (case hg => rfl); (case hr => go_simp; try rfl); intro gb524 hg w17 hbox hb; have BK524 := Aside0.mk (hbox); have GW524 := Aside0.mk (gwQ hg HB.out); have GE524 := Aside0.mk (gwQ hg HB.out); replace HB := Aside0.mk (bsQ hb HB.out); clear hb hbox hg; obtain ⟨hcz18_0, hcz18_1, hcz18_2⟩ := bcQ3 BK524.out; obtain ⟨hfz18_0, hfz18_1, hfz18_2⟩ := fzQ3 BK524.out) | ((with_reducible refine gate_callee (f := 46) rfl ?_); refine goesL_ (some 45) rfl rfl Try.func46 (by kernel_rfl) rfl #[.slice (some ad521) l0.length c0, .string ((rd_T37 ((rd_T27 l0 x5_1).f4) x6_2).f0), .int .i8 1, .int .i64 x5_1, .int .i64 x6_2] rfl (by (try simp only [List.map_toArray, List.map_cons, List.map_nil]); try rfl) ?_; (with_reducible refine (pleatref08_first.calls k2 _ _ l0 ((rd_T37 ((rd_T27 l0 x5_1).f4) x6_2).f0) 1 x5_1 x6_2 t525 t526 false _ ?side1 ?side2 A7.out).mono ?_); (case side1 => exact Kd.C_below HR0.out (by repeat with_reducible first | exact HB.out | apply pw_below_drewN | apply below_drew1 | refine below_set ?_ GE524.out)); (case side2 => exact HC0.out); rintro e w19 ⟨rfl, hb⟩; refine ⟨_, rfl, ?_⟩; have n0_ := Aside0.mk (blk_below (g := gb524) (o := .cells #[.string ((rd_T37 ((rd_T27 l0 x5_1).f4) x6_2).f0), .int .i8 ((rd_T37 ((rd_T27 l0 x5_1).f4) x6_2).f1), .int .i64 ((rd_T37 ((rd_T27 l0 x5_1).f4) x6_2).f2)] 37 (0, 0)) (by refine blk_put (cs := #[.string ((rd_T37 ((rd_T27 l0 x5_1).f4) x6_2).f0), .int .i8 ((rd_T37 ((rd_T27 l0 x5_1).f4) x6_2).f1), .int .i64 0]) ?_ 2 _ rfl; refine blk_put (cs := #[.string ((rd_T37 ((rd_T27 l0 x5_1).f4) x6_2).f0), .int .i8 0, .int .i64 0]) ?_ 1 _ rfl; refine blk_put (cs := #[.string (⟨#[]⟩ : ByteArray), .int .i8 0, .int .i64 0]) ?_ 0 _ rfl; exact BK524.out) hb); have n1_ := Aside0.mk (bs1Q hb (by repeat with_reducible first | exact HB.out | apply pw_below_drewN | apply below_drew1 | refine below_set ?_ GE524.out)); clear BK524; clear HB; have BK524 := n0_; have HB := n1_; clear n0_ n1_; (try clear hb); (try clear hb2); (try clear hk); (try clear hi)) | ((with_reducible refine gate_dst (N := 8) rfl ?_); refine box_event ?hg (N := 8) ?hd (cs := #[.int .i64 0, .int .i64 0]) (t := 57) ?hr ?_; (case hd => rfl); (case hg => rfl); (case hr => go_simp; try rfl); intro gb528 hg w20 hbox hb; have n0_ := Aside0.mk (bbQ hb BK524.out); have n1_ := Aside0.mk (bs1Q hb (by repeat with_reducible first | exact HB.out | apply pw_below_drewN | apply below_drew1 | refine below_set ?_ GE524.out)); have n2_ := Aside0.mk (hbox); have n3_ := Aside0.mk (gw1Q hg (by repeat with_reducible first | exact HB.out | apply pw_below_drewN | apply below_drew1 | refine below_set ?_ GE524.out)); have n4_ := Aside0.mk (gw1Q hg (by repeat with_reducible first | exact HB.out | apply pw_below_drewN | apply below_drew1 | refine below_set ?_ GE524.out)); have n5_ := Aside0.mk ((by rw [hg]; exact Nat.ne_of_lt (blk_lt (g := gb524) (o := .cells #[.string ((rd_T37 ((rd_T27 l0 x5_1).f4) x6_2).f0), .int .i8 ((rd_T37 ((rd_T27 l0 x5_1).f4) x6_2).f1), .int .i64 ((rd_T37 ((rd_T27 l0 x5_1).f4) x6_2).f2)] 37 (0, 0)) (by exact BK524.out)) : gb524 ≠ gb528)); have n6_ := Aside0.mk ((by rw [hg]; exact Nat.ne_of_gt (blk_lt (g := gb524) (o := .cells #[.string ((rd_T37 ((rd_T27 l0 x5_1).f4) x6_2).f0), .int .i8 ((rd_T37 ((rd_T27 l0 x5_1).f4) x6_2).f1), .int .i64 ((rd_T37 ((rd_T27 l0 x5_1).f4) x6_2).f2)] 37 (0, 0)) (by exact BK524.out)) : gb528 ≠ gb524)); clear BK524; clear HB; have BK524 := n0_; have HB := n1_; have BK528 := n2_; have GW528 := n3_; have GE528 := n4_; have NB524_528 := n5_; have NB528_524 := n6_; clear n0_ n1_ n2_ n3_ n4_ n5_ n6_; clear hb hbox hg; have hnb21 := NB528_524.out; have hnc21 := NB524_528.out; obtain ⟨hcz22_0, hcz22_1⟩ := bcQ2 BK528.out; obtain ⟨hfz22_0, hfz22_1⟩ := fzQ2 BK528.out; obtain ⟨hcz23_0, hcz23_1, hcz23_2⟩ := bcQ3 BK524.out; obtain ⟨hfz23_0, hfz23_1, hfz23_2⟩ := fzQ3 BK524.out))
            go_roundg k2
            case measure => have := HK1.out; have := HK2.out; omega
            case rel => exact ⟨(wrap64 (x6_2 + 1)), (by first | rfl | (simp; done) | (simp [*]; done)), H', ⟨by have := HK1.out; have := HK2.out; omega⟩, ⟨by repeat with_reducible first | exact HB.out | apply pw_below_drewN | apply below_drew1 | refine below_set ?_ GE524.out | refine below_set ?_ GE528.out⟩⟩
          ·
           rw [if_neg c8] at H
           have c8b0 : (((rd_T37 ((rd_T27 l0 x5_1).f4) x6_2).f1) == 1) = false := beq_eq_false_iff_ne.mpr c8
           have c8b1 : (((rd_T37 ((rd_T27 l0 x5_1).f4) x6_2).f1) != 1) = true := bne_iff_ne.mpr c8
           have H' := Aside0.mk H
           clear H
           have p521 : 0 ≤ (x5_1 : Int) := of_decide_eq_true ‹_›
           have q521 : x5_1 < (l0.length : Int) := of_decide_eq_true ‹_›
           obtain ⟨ad521, A521_1, c521_1, A521_3, c521_3, A521_4, c521_4, A521_5, c521_5, e521, hx521_0, hx521_1, hx521_2, hx521_3, hx521_4, hx521_5, -, -, -, -, hl521_4, hi521_4, -, -⟩ := atQ27 HR0.out HB.out x5_1 p521 q521
           cases e521
           have HR521_4 := Aside0.mk hi521_4
           have HC521_4 := Aside0.mk hl521_4
           clear hi521_4 hl521_4
           replace p521 := eq_true p521
           replace q521 := eq_true q521
           have p523 : 0 ≤ (x6_2 : Int) := of_decide_eq_true ‹_›
           have q523 : x6_2 < (((rd_T27 l0 x5_1).f4).length : Int) := of_decide_eq_true ‹_›
           obtain ⟨ad523, e523, hx523_0, hx523_1, hx523_2⟩ := atQ37 HR521_4.out HB.out x6_2 p523 q523
           cases e523
           replace p523 := eq_true p523
           replace q523 := eq_true q523
           go_wp2_with (first | ((with_reducible refine gate_dst (N := 7) rfl ?_); refine box_event ?hg (N := 7) ?hd (cs := #[.string (⟨#[]⟩ : ByteArray), .int .i8 0, .int .i64 0]) (t := 37) ?hr ?_; (case hd => rfl); (case hg => rfl); (case hr => go_simp; try rfl); intro gb524 hg w24 hbox hb; have BK524 := Aside0.mk (hbox); have GW524 := Aside0.mk (gwQ hg HB.out); have GE524 := Aside0.mk (gwQ hg HB.out); replace HB := Aside0.mk (bsQ hb HB.out); clear hb hbox hg; obtain ⟨hcz25_0, hcz25_1, hcz25_2⟩ := bcQ3 BK524.out; obtain ⟨hfz25_0, hfz25_1, hfz25_2⟩ := fzQ3 BK524.out) | ((with_reducible refine gate_callee (f := 46) rfl ?_); refine goesL_ (some 45) rfl rfl Try.func46 (by kernel_rfl) rfl #[.slice (some ad521) l0.length c0, .string ((rd_T37 ((rd_T27 l0 x5_1).f4) x6_2).f0), .int .i8 1, .int .i64 x5_1, .int .i64 x6_2] rfl (by (try simp only [List.map_toArray, List.map_cons, List.map_nil]); try rfl) ?_; (with_reducible refine (pleatref08_first.calls k2 _ _ l0 ((rd_T37 ((rd_T27 l0 x5_1).f4) x6_2).f0) 1 x5_1 x6_2 t525 t526 t527 _ ?side1 ?side2 A7.out).mono ?_); (case side1 => exact Kd.C_below HR0.out (by repeat with_reducible first | exact HB.out | apply pw_below_drewN | apply below_drew1 | refine below_set ?_ GE524.out)); (case side2 => exact HC0.out); rintro e w26 ⟨rfl, hb⟩; refine ⟨_, rfl, ?_⟩; have n0_ := Aside0.mk (blk_below (g := gb524) (o := .cells #[.string ((rd_T37 ((rd_T27 l0 x5_1).f4) x6_2).f0), .int .i8 ((rd_T37 ((rd_T27 l0 x5_1).f4) x6_2).f1), .int .i64 ((rd_T37 ((rd_T27 l0 x5_1).f4) x6_2).f2)] 37 (0, 0)) (by refine blk_put (cs := #[.string ((rd_T37 ((rd_T27 l0 x5_1).f4) x6_2).f0), .int .i8 ((rd_T37 ((rd_T27 l0 x5_1).f4) x6_2).f1), .int .i64 0]) ?_ 2 _ rfl; refine blk_put (cs := #[.string ((rd_T37 ((rd_T27 l0 x5_1).f4) x6_2).f0), .int .i8 0, .int .i64 0]) ?_ 1 _ rfl; refine blk_put (cs := #[.string (⟨#[]⟩ : ByteArray), .int .i8 0, .int .i64 0]) ?_ 0 _ rfl; exact BK524.out) hb); have n1_ := Aside0.mk (bs1Q hb (by repeat with_reducible first | exact HB.out | apply pw_below_drewN | apply below_drew1 | refine below_set ?_ GE524.out)); clear BK524; clear HB; have BK524 := n0_; have HB := n1_; clear n0_ n1_; (try clear hb); (try clear hb2); (try clear hk); (try clear hi)) | ((with_reducible refine gate_dst (N := 8) rfl ?_); refine box_event ?hg (N := 8) ?hd (cs := #[.int .i64 0, .int .i64 0]) (t := 57) ?hr ?_; (case hd => rfl); (case hg => rfl); (case hr => go_simp; try rfl); intro gb528 hg w27 hbox hb; have n0_ := Aside0.mk (bbQ hb BK524.out); have n1_ := Aside0.mk (bs1Q hb (by repeat with_reducible first | exact HB.out | apply pw_below_drewN | apply below_drew1 | refine below_set ?_ GE524.out)); have n2_ := Aside0.mk (hbox); have n3_ := Aside0.mk (gw1Q hg (by repeat with_reducible first | exact HB.out | apply pw_below_drewN | apply below_drew1 | refine below_set ?_ GE524.out)); have n4_ := Aside0.mk (gw1Q hg (by repeat with_reducible first | exact HB.out | apply pw_below_drewN | apply below_drew1 | refine below_set ?_ GE524.out)); have n5_ := Aside0.mk ((by rw [hg]; exact Nat.ne_of_lt (blk_lt (g := gb524) (o := .cells #[.string ((rd_T37 ((rd_T27 l0 x5_1).f4) x6_2).f0), .int .i8 ((rd_T37 ((rd_T27 l0 x5_1).f4) x6_2).f1), .int .i64 ((rd_T37 ((rd_T27 l0 x5_1).f4) x6_2).f2)] 37 (0, 0)) (by exact BK524.out)) : gb524 ≠ gb528)); have n6_ := Aside0.mk ((by rw [hg]; exact Nat.ne_of_gt (blk_lt (g := gb524) (o := .cells #[.string ((rd_T37 ((rd_T27 l0 x5_1).f4) x6_2).f0), .int .i8 ((rd_T37 ((rd_T27 l0 x5_1).f4) x6_2).f1), .int .i64 ((rd_T37 ((rd_T27 l0 x5_1).f4) x6_2).f2)] 37 (0, 0)) (by exact BK524.out)) : gb528 ≠ gb524)); clear BK524; clear HB; have BK524 := n0_; have HB := n1_; have BK528 := n2_; have GW528 := n3_; have GE528 := n4_; have NB524_528 := n5_; have NB528_524 := n6_; clear n0_ n1_ n2_ n3_ n4_ n5_ n6_; clear hb hbox hg; have hnb28 := NB528_524.out; have hnc28 := NB524_528.out; obtain ⟨hcz29_0, hcz29_1⟩ := bcQ2 BK528.out; obtain ⟨hfz29_0, hfz29_1⟩ := fzQ2 BK528.out; obtain ⟨hcz30_0, hcz30_1, hcz30_2⟩ := bcQ3 BK524.out; obtain ⟨hfz30_0, hfz30_1, hfz30_2⟩ := fzQ3 BK524.out))
           go_roundg k2
           case measure => have := HK1.out; have := HK2.out; omega
           case rel => exact ⟨(wrap64 (x6_2 + 1)), (by first | rfl | (simp; done) | (simp [*]; done)), H', ⟨by have := HK1.out; have := HK2.out; omega⟩, ⟨by repeat with_reducible first | exact HB.out | apply pw_below_drewN | apply below_drew1 | refine below_set ?_ GE524.out | refine below_set ?_ GE528.out⟩⟩
         ·
          rw [if_neg c6] at H
          exact absurd H (by simp)
        ·
         rw [if_neg c5] at H
         have c5b0 : decide (x6_2 < (((rd_T27 l0 x5_1).f4).length : Int)) = false := decide_eq_false c5
         clear c5
         have H' := Aside0.mk H
         clear H
         have p521 : 0 ≤ (x5_1 : Int) := of_decide_eq_true ‹_›
         have q521 : x5_1 < (l0.length : Int) := of_decide_eq_true ‹_›
         obtain ⟨ad521, A521_1, c521_1, A521_3, c521_3, A521_4, c521_4, A521_5, c521_5, e521, hx521_0, hx521_1, hx521_2, hx521_3, hx521_4, hx521_5, -, -, -, -, -, -, -, -⟩ := atQ27 HR0.out HB.out x5_1 p521 q521
         cases e521
         replace p521 := eq_true p521
         replace q521 := eq_true q521
         go_wp2
         go_roundg k2
         case measure => have := HK1.out; have := HK2.out; omega
         case rel => exact ⟨(wrap64 (x5_1 + 1)), (by first | rfl | (simp; done) | (simp [*]; done)), H', ⟨by have := HK1.out; have := HK2.out; omega⟩, ⟨bwQ HB.out⟩⟩
       ·
        rw [if_neg c4] at H
        exact absurd H (by simp)
      ·
       rw [if_neg c3] at H
       exact absurd H (by simp)
   ·
    rw [if_neg c2] at H
    have c2b0 : decide (x5_1 < (l0.length : Int)) = false := decide_eq_false c2
    clear c2
    have H' := Aside0.mk H
    clear H
    go_wp2
    go_loopg [10] k1 (fun kq v10 w' => ∃ (x10_2 : Int), v10 = .int .i64 x10_2 ∧ Aside0 (pleatref08_names.l2 kq l0 x10_2 = some (r1, r2, r3)) ∧ Aside0 (kq ≤ k1) ∧ Aside0 (Below w.heap.size w w'))
    case atStart => exact ⟨(0), (by first | rfl | (simp; done) | (simp [*]; done)), H', ⟨Nat.le_refl _⟩, ⟨bwQ HB.out⟩⟩
    case round =>
     clear H'
     try clear c1
     try clear c2
     try clear c2b0
     try clear p2
     try clear c3
     try clear c3b0
     try clear c4
     try clear c4b0
     try clear c5
     try clear c5b0
     try clear p5
     try clear q5
     try clear hx5
     try clear c6
     try clear c6b0
     try clear p6
     try clear c8
     try clear c8b0
     try clear c8b1
     try clear c9
     try clear c14
     try clear c21
     try clear c28
     try clear hcz11_0 hcz11_1 hcz11_2
     try clear hcz15_0 hcz15_1
     try clear hcz16_0 hcz16_1 hcz16_2
     try clear hcz18_0 hcz18_1 hcz18_2
     try clear hcz22_0 hcz22_1
     try clear hcz23_0 hcz23_1 hcz23_2
     try clear hcz25_0 hcz25_1 hcz25_2
     try clear hcz29_0 hcz29_1
     try clear hcz30_0 hcz30_1 hcz30_2
     try clear hfz11_0 hfz11_1 hfz11_2
     try clear hfz15_0 hfz15_1
     try clear hfz16_0 hfz16_1 hfz16_2
     try clear hfz18_0 hfz18_1 hfz18_2
     try clear hfz22_0 hfz22_1
     try clear hfz23_0 hfz23_1 hfz23_2
     try clear hfz25_0 hfz25_1 hfz25_2
     try clear hfz29_0 hfz29_1
     try clear hfz30_0 hfz30_1 hfz30_2
     try clear hx521_0
     try clear hx521_1
     try clear hx521_2
     try clear hx521_3
     try clear hx521_4
     try clear hx521_5
     try clear hx522_0
     try clear hx522_1
     try clear hx522_2
     try clear hx522_3
     try clear hx522_4
     try clear hx522_5
     try clear hx523_0
     try clear hx523_1
     try clear hx523_2
     try clear p2
     try clear p521
     try clear p522
     try clear p523
     try clear q521
     try clear q522
     try clear q523
     obtain ⟨x10_2, rfl, HA, HK2, HB⟩ := hrel
     cases gk with
     | zero => exact absurd HA.out (by simp [pleatref08_names.l2])
     | succ k2 =>
      have H := HA.out
      clear HA
      simp only [pleatref08_names.l2] at H
      by_cases c31 : x10_2 < (l0.length : Int)
      ·
       rw [if_pos c31] at H
       have c31b0 : decide (x10_2 < (l0.length : Int)) = true := decide_eq_true c31
       clear c31
       have H' := Aside0.mk H
       clear H
       go_wp2
       go_loopg [11] k2 (fun kq v11 w' => ∃ (x11_3 : Int), v11 = .int .i64 x11_3 ∧ Aside0 (pleatref08_names.l3 kq l0 x10_2 x11_3 = some (r1, r2, r3)) ∧ Aside0 (kq ≤ k2) ∧ Aside0 (Below w.heap.size w w'))
       case atStart => exact ⟨(0), (by first | rfl | (simp; done) | (simp [*]; done)), H', ⟨Nat.le_refl _⟩, ⟨bwQ HB.out⟩⟩
       case round =>
        clear H'
        try clear c1
        try clear c2
        try clear c2b0
        try clear p2
        try clear c3
        try clear c3b0
        try clear c4
        try clear c4b0
        try clear c5
        try clear c5b0
        try clear p5
        try clear q5
        try clear hx5
        try clear c6
        try clear c6b0
        try clear p6
        try clear c8
        try clear c8b0
        try clear c8b1
        try clear c9
        try clear c14
        try clear c21
        try clear c28
        try clear c31
        try clear c31b0
        try clear hcz11_0 hcz11_1 hcz11_2
        try clear hcz15_0 hcz15_1
        try clear hcz16_0 hcz16_1 hcz16_2
        try clear hcz18_0 hcz18_1 hcz18_2
        try clear hcz22_0 hcz22_1
        try clear hcz23_0 hcz23_1 hcz23_2
        try clear hcz25_0 hcz25_1 hcz25_2
        try clear hcz29_0 hcz29_1
        try clear hcz30_0 hcz30_1 hcz30_2
        try clear hfz11_0 hfz11_1 hfz11_2
        try clear hfz15_0 hfz15_1
        try clear hfz16_0 hfz16_1 hfz16_2
        try clear hfz18_0 hfz18_1 hfz18_2
        try clear hfz22_0 hfz22_1
        try clear hfz23_0 hfz23_1 hfz23_2
        try clear hfz25_0 hfz25_1 hfz25_2
        try clear hfz29_0 hfz29_1
        try clear hfz30_0 hfz30_1 hfz30_2
        try clear hx521_0
        try clear hx521_1
        try clear hx521_2
        try clear hx521_3
        try clear hx521_4
        try clear hx521_5
        try clear hx522_0
        try clear hx522_1
        try clear hx522_2
        try clear hx522_3
        try clear hx522_4
        try clear hx522_5
        try clear hx523_0
        try clear hx523_1
        try clear hx523_2
        try clear p2
        try clear p5
        try clear p521
        try clear p522
        try clear p523
        try clear p6
        try clear q5
        try clear q521
        try clear q522
        try clear q523
        obtain ⟨x11_3, rfl, HA, HK3, HB⟩ := hrel
        cases gk with
        | zero => exact absurd HA.out (by simp [pleatref08_names.l3])
        | succ k3 =>
         have H := HA.out
         clear HA
         simp only [pleatref08_names.l3] at H
         by_cases c32 : 0 ≤ x10_2
         ·
          rw [if_pos c32] at H
          have c32b0 : decide (0 ≤ x10_2) = true := decide_eq_true c32
          clear c32
          by_cases c33 : x10_2 < (l0.length : Int)
          ·
           rw [if_pos c33] at H
           have c33b0 : decide (x10_2 < (l0.length : Int)) = true := decide_eq_true c33
           clear c33
           by_cases c34 : x11_3 < (((rd_T27 l0 x10_2).f4).length : Int)
           ·
            rw [if_pos c34] at H
            have c34b0 : decide (x11_3 < (((rd_T27 l0 x10_2).f4).length : Int)) = true := decide_eq_true c34
            clear c34
            by_cases c35 : 0 ≤ x11_3
            ·
             rw [if_pos c35] at H
             have c35b0 : decide (0 ≤ x11_3) = true := decide_eq_true c35
             clear c35
             replace H := Option.bind_eq_some_iff.mp H
             obtain ⟨⟨t533, t534, t535⟩, A360, H⟩ := H
             try dsimp only at H
             have A36 := Aside0.mk A360
             clear A360
             by_cases c37 : ((rd_T37 ((rd_T27 l0 x10_2).f4) x11_3).f1) = 3
             ·
              rw [if_pos c37] at H
              have c37b0 : (((rd_T37 ((rd_T27 l0 x10_2).f4) x11_3).f1) == 3) = true := beq_iff_eq.mpr c37
              have c37b1 : (((rd_T37 ((rd_T27 l0 x10_2).f4) x11_3).f1) != 3) = false := bne_eq_false_iff_eq.mpr c37
              clear c37
              by_cases c38 : t535 = true
              ·
               subst c38
               rw [if_pos rfl] at H
               have H' := Aside0.mk H
               clear H
               have p529 : 0 ≤ (x10_2 : Int) := of_decide_eq_true ‹_›
               have q529 : x10_2 < (l0.length : Int) := of_decide_eq_true ‹_›
               obtain ⟨ad529, A529_1, c529_1, A529_3, c529_3, A529_4, c529_4, A529_5, c529_5, e529, hx529_0, hx529_1, hx529_2, hx529_3, hx529_4, hx529_5, -, -, -, -, hl529_4, hi529_4, -, -⟩ := atQ27 HR0.out HB.out x10_2 p529 q529
               cases e529
               have HR529_4 := Aside0.mk hi529_4
               have HC529_4 := Aside0.mk hl529_4
               clear hi529_4 hl529_4
               replace p529 := eq_true p529
               replace q529 := eq_true q529
               have p531 : 0 ≤ (x11_3 : Int) := of_decide_eq_true ‹_›
               have q531 : x11_3 < (((rd_T27 l0 x10_2).f4).length : Int) := of_decide_eq_true ‹_›
               obtain ⟨ad531, e531, hx531_0, hx531_1, hx531_2⟩ := atQ37 HR529_4.out HB.out x11_3 p531 q531
               cases e531
               replace p531 := eq_true p531
               replace q531 := eq_true q531
               go_wp2_with (first | ((with_reducible refine gate_dst (N := 12) rfl ?_); refine box_event ?hg (N := 12) ?hd (cs := #[.string (⟨#[]⟩ : ByteArray), .int .i8 0, .int .i64 0]) (t := 37) ?hr ?_; (case hd => rfl); (case hg => rfl); (case hr => go_simp; try rfl); intro gb532 hg w39 hbox hb; have BK532 := Aside0.mk (hbox); have GW532 := Aside0.mk (gwQ hg HB.out); have GE532 := Aside0.mk (gwQ hg HB.out); replace HB := Aside0.mk (bsQ hb HB.out); clear hb hbox hg; obtain ⟨hcz40_0, hcz40_1, hcz40_2⟩ := bcQ3 BK532.out; obtain ⟨hfz40_0, hfz40_1, hfz40_2⟩ := fzQ3 BK532.out) | ((with_reducible refine gate_callee (f := 19) rfl ?_); refine goesL_ (some 84) rfl rfl Try.func19 (by kernel_rfl) rfl #[.slice (some ad529) l0.length c0, .string ((rd_T37 ((rd_T27 l0 x10_2).f4) x11_3).f0)] rfl (by (try simp only [List.map_toArray, List.map_cons, List.map_nil]); try rfl) ?_; (with_reducible refine (pleatref08_Find.calls k3 _ _ l0 ((rd_T37 ((rd_T27 l0 x10_2).f4) x11_3).f0) t533 t534 true _ ?side1 ?side2 A36.out).mono ?_); (case side1 => exact Kd.C_below HR0.out (by repeat with_reducible first | exact HB.out | apply pw_below_drewN | apply below_drew1 | refine below_set ?_ GE532.out)); (case side2 => exact HC0.out); rintro e w41 ⟨rfl, hb⟩; refine ⟨_, rfl, ?_⟩; have n0_ := Aside0.mk (blk_below (g := gb532) (o := .cells #[.string ((rd_T37 ((rd_T27 l0 x10_2).f4) x11_3).f0), .int .i8 ((rd_T37 ((rd_T27 l0 x10_2).f4) x11_3).f1), .int .i64 ((rd_T37 ((rd_T27 l0 x10_2).f4) x11_3).f2)] 37 (0, 0)) (by refine blk_put (cs := #[.string ((rd_T37 ((rd_T27 l0 x10_2).f4) x11_3).f0), .int .i8 ((rd_T37 ((rd_T27 l0 x10_2).f4) x11_3).f1), .int .i64 0]) ?_ 2 _ rfl; refine blk_put (cs := #[.string ((rd_T37 ((rd_T27 l0 x10_2).f4) x11_3).f0), .int .i8 0, .int .i64 0]) ?_ 1 _ rfl; refine blk_put (cs := #[.string (⟨#[]⟩ : ByteArray), .int .i8 0, .int .i64 0]) ?_ 0 _ rfl; exact BK532.out) hb); have n1_ := Aside0.mk (bs1Q hb (by repeat with_reducible first | exact HB.out | apply pw_below_drewN | apply below_drew1 | refine below_set ?_ GE532.out)); clear BK532; clear HB; have BK532 := n0_; have HB := n1_; clear n0_ n1_; (try clear hb); (try clear hb2); (try clear hk); (try clear hi)) | ((with_reducible refine gate_dst (N := 13) rfl ?_); refine box_event ?hg (N := 13) ?hd (cs := #[.int .i64 0, .int .i64 0]) (t := 57) ?hr ?_; (case hd => rfl); (case hg => rfl); (case hr => go_simp; try rfl); intro gb536 hg w42 hbox hb; have n0_ := Aside0.mk (bbQ hb BK532.out); have n1_ := Aside0.mk (bs1Q hb (by repeat with_reducible first | exact HB.out | apply pw_below_drewN | apply below_drew1 | refine below_set ?_ GE532.out)); have n2_ := Aside0.mk (hbox); have n3_ := Aside0.mk (gw1Q hg (by repeat with_reducible first | exact HB.out | apply pw_below_drewN | apply below_drew1 | refine below_set ?_ GE532.out)); have n4_ := Aside0.mk (gw1Q hg (by repeat with_reducible first | exact HB.out | apply pw_below_drewN | apply below_drew1 | refine below_set ?_ GE532.out)); have n5_ := Aside0.mk ((by rw [hg]; exact Nat.ne_of_lt (blk_lt (g := gb532) (o := .cells #[.string ((rd_T37 ((rd_T27 l0 x10_2).f4) x11_3).f0), .int .i8 ((rd_T37 ((rd_T27 l0 x10_2).f4) x11_3).f1), .int .i64 ((rd_T37 ((rd_T27 l0 x10_2).f4) x11_3).f2)] 37 (0, 0)) (by exact BK532.out)) : gb532 ≠ gb536)); have n6_ := Aside0.mk ((by rw [hg]; exact Nat.ne_of_gt (blk_lt (g := gb532) (o := .cells #[.string ((rd_T37 ((rd_T27 l0 x10_2).f4) x11_3).f0), .int .i8 ((rd_T37 ((rd_T27 l0 x10_2).f4) x11_3).f1), .int .i64 ((rd_T37 ((rd_T27 l0 x10_2).f4) x11_3).f2)] 37 (0, 0)) (by exact BK532.out)) : gb536 ≠ gb532)); clear BK532; clear HB; have BK532 := n0_; have HB := n1_; have BK536 := n2_; have GW536 := n3_; have GE536 := n4_; have NB532_536 := n5_; have NB536_532 := n6_; clear n0_ n1_ n2_ n3_ n4_ n5_ n6_; clear hb hbox hg; have hnb43 := NB536_532.out; have hnc43 := NB532_536.out; obtain ⟨hcz44_0, hcz44_1⟩ := bcQ2 BK536.out; obtain ⟨hfz44_0, hfz44_1⟩ := fzQ2 BK536.out; obtain ⟨hcz45_0, hcz45_1, hcz45_2⟩ := bcQ3 BK532.out; obtain ⟨hfz45_0, hfz45_1, hfz45_2⟩ := fzQ3 BK532.out))
               go_roundg k3
               case measure => have := HK1.out; have := HK2.out; have := HK3.out; omega
               case rel => exact ⟨(wrap64 (x11_3 + 1)), (by first | rfl | (simp; done) | (simp [*]; done)), H', ⟨by have := HK1.out; have := HK2.out; have := HK3.out; omega⟩, ⟨by repeat with_reducible first | exact HB.out | apply pw_below_drewN | apply below_drew1 | refine below_set ?_ GE532.out | refine below_set ?_ GE536.out⟩⟩
              ·
               replace c38 := Bool.eq_false_iff.mpr c38
               subst c38
               rw [if_neg Bool.false_ne_true] at H
               simp only [Option.some.injEq, Prod.mk.injEq] at H
               obtain ⟨rfl, rfl, rfl⟩ := H
               have p529 : 0 ≤ (x10_2 : Int) := of_decide_eq_true ‹_›
               have q529 : x10_2 < (l0.length : Int) := of_decide_eq_true ‹_›
               obtain ⟨ad529, A529_1, c529_1, A529_3, c529_3, A529_4, c529_4, A529_5, c529_5, e529, hx529_0, hx529_1, hx529_2, hx529_3, hx529_4, hx529_5, -, -, -, -, hl529_4, hi529_4, -, -⟩ := atQ27 HR0.out HB.out x10_2 p529 q529
               cases e529
               have HR529_4 := Aside0.mk hi529_4
               have HC529_4 := Aside0.mk hl529_4
               clear hi529_4 hl529_4
               replace p529 := eq_true p529
               replace q529 := eq_true q529
               have p531 : 0 ≤ (x11_3 : Int) := of_decide_eq_true ‹_›
               have q531 : x11_3 < (((rd_T27 l0 x10_2).f4).length : Int) := of_decide_eq_true ‹_›
               obtain ⟨ad531, e531, hx531_0, hx531_1, hx531_2⟩ := atQ37 HR529_4.out HB.out x11_3 p531 q531
               cases e531
               replace p531 := eq_true p531
               replace q531 := eq_true q531
               go_wp2_with (first | ((with_reducible refine gate_dst (N := 12) rfl ?_); refine box_event ?hg (N := 12) ?hd (cs := #[.string (⟨#[]⟩ : ByteArray), .int .i8 0, .int .i64 0]) (t := 37) ?hr ?_; (case hd => rfl); (case hg => rfl); (case hr => go_simp; try rfl); intro gb532 hg w46 hbox hb; have BK532 := Aside0.mk (hbox); have GW532 := Aside0.mk (gwQ hg HB.out); have GE532 := Aside0.mk (gwQ hg HB.out); replace HB := Aside0.mk (bsQ hb HB.out); clear hb hbox hg; obtain ⟨hcz47_0, hcz47_1, hcz47_2⟩ := bcQ3 BK532.out; obtain ⟨hfz47_0, hfz47_1, hfz47_2⟩ := fzQ3 BK532.out) | ((with_reducible refine gate_callee (f := 19) rfl ?_); refine goesL_ (some 84) rfl rfl Try.func19 (by kernel_rfl) rfl #[.slice (some ad529) l0.length c0, .string ((rd_T37 ((rd_T27 l0 x10_2).f4) x11_3).f0)] rfl (by (try simp only [List.map_toArray, List.map_cons, List.map_nil]); try rfl) ?_; (with_reducible refine (pleatref08_Find.calls k3 _ _ l0 ((rd_T37 ((rd_T27 l0 x10_2).f4) x11_3).f0) t533 t534 false _ ?side1 ?side2 A36.out).mono ?_); (case side1 => exact Kd.C_below HR0.out (by repeat with_reducible first | exact HB.out | apply pw_below_drewN | apply below_drew1 | refine below_set ?_ GE532.out)); (case side2 => exact HC0.out); rintro e w48 ⟨rfl, hb⟩; refine ⟨_, rfl, ?_⟩; have n0_ := Aside0.mk (blk_below (g := gb532) (o := .cells #[.string ((rd_T37 ((rd_T27 l0 x10_2).f4) x11_3).f0), .int .i8 ((rd_T37 ((rd_T27 l0 x10_2).f4) x11_3).f1), .int .i64 ((rd_T37 ((rd_T27 l0 x10_2).f4) x11_3).f2)] 37 (0, 0)) (by refine blk_put (cs := #[.string ((rd_T37 ((rd_T27 l0 x10_2).f4) x11_3).f0), .int .i8 ((rd_T37 ((rd_T27 l0 x10_2).f4) x11_3).f1), .int .i64 0]) ?_ 2 _ rfl; refine blk_put (cs := #[.string ((rd_T37 ((rd_T27 l0 x10_2).f4) x11_3).f0), .int .i8 0, .int .i64 0]) ?_ 1 _ rfl; refine blk_put (cs := #[.string (⟨#[]⟩ : ByteArray), .int .i8 0, .int .i64 0]) ?_ 0 _ rfl; exact BK532.out) hb); have n1_ := Aside0.mk (bs1Q hb (by repeat with_reducible first | exact HB.out | apply pw_below_drewN | apply below_drew1 | refine below_set ?_ GE532.out)); clear BK532; clear HB; have BK532 := n0_; have HB := n1_; clear n0_ n1_; (try clear hb); (try clear hb2); (try clear hk); (try clear hi)) | ((with_reducible refine gate_dst (N := 13) rfl ?_); refine box_event ?hg (N := 13) ?hd (cs := #[.int .i64 0, .int .i64 0]) (t := 57) ?hr ?_; (case hd => rfl); (case hg => rfl); (case hr => go_simp; try rfl); intro gb536 hg w49 hbox hb; have n0_ := Aside0.mk (bbQ hb BK532.out); have n1_ := Aside0.mk (bs1Q hb (by repeat with_reducible first | exact HB.out | apply pw_below_drewN | apply below_drew1 | refine below_set ?_ GE532.out)); have n2_ := Aside0.mk (hbox); have n3_ := Aside0.mk (gw1Q hg (by repeat with_reducible first | exact HB.out | apply pw_below_drewN | apply below_drew1 | refine below_set ?_ GE532.out)); have n4_ := Aside0.mk (gw1Q hg (by repeat with_reducible first | exact HB.out | apply pw_below_drewN | apply below_drew1 | refine below_set ?_ GE532.out)); have n5_ := Aside0.mk ((by rw [hg]; exact Nat.ne_of_lt (blk_lt (g := gb532) (o := .cells #[.string ((rd_T37 ((rd_T27 l0 x10_2).f4) x11_3).f0), .int .i8 ((rd_T37 ((rd_T27 l0 x10_2).f4) x11_3).f1), .int .i64 ((rd_T37 ((rd_T27 l0 x10_2).f4) x11_3).f2)] 37 (0, 0)) (by exact BK532.out)) : gb532 ≠ gb536)); have n6_ := Aside0.mk ((by rw [hg]; exact Nat.ne_of_gt (blk_lt (g := gb532) (o := .cells #[.string ((rd_T37 ((rd_T27 l0 x10_2).f4) x11_3).f0), .int .i8 ((rd_T37 ((rd_T27 l0 x10_2).f4) x11_3).f1), .int .i64 ((rd_T37 ((rd_T27 l0 x10_2).f4) x11_3).f2)] 37 (0, 0)) (by exact BK532.out)) : gb536 ≠ gb532)); clear BK532; clear HB; have BK532 := n0_; have HB := n1_; have BK536 := n2_; have GW536 := n3_; have GE536 := n4_; have NB532_536 := n5_; have NB536_532 := n6_; clear n0_ n1_ n2_ n3_ n4_ n5_ n6_; clear hb hbox hg; have hnb50 := NB536_532.out; have hnc50 := NB532_536.out; obtain ⟨hcz51_0, hcz51_1⟩ := bcQ2 BK536.out; obtain ⟨hfz51_0, hfz51_1⟩ := fzQ2 BK536.out; obtain ⟨hcz52_0, hcz52_1, hcz52_2⟩ := bcQ3 BK532.out; obtain ⟨hfz52_0, hfz52_1, hfz52_2⟩ := fzQ3 BK532.out))
               go_ret3
               exact ⟨by first | rfl | (simp [errW_none, errW_some] <;> rfl) | (simp [*, errW_none, errW_some] <;> rfl), by repeat with_reducible first | exact HB.out | apply pw_below_drewN | apply below_drew1 | refine below_set ?_ GE532.out | refine below_set ?_ GE536.out⟩
             ·
              rw [if_neg c37] at H
              have c37b0 : (((rd_T37 ((rd_T27 l0 x10_2).f4) x11_3).f1) == 3) = false := beq_eq_false_iff_ne.mpr c37
              have c37b1 : (((rd_T37 ((rd_T27 l0 x10_2).f4) x11_3).f1) != 3) = true := bne_iff_ne.mpr c37
              have H' := Aside0.mk H
              clear H
              have p529 : 0 ≤ (x10_2 : Int) := of_decide_eq_true ‹_›
              have q529 : x10_2 < (l0.length : Int) := of_decide_eq_true ‹_›
              obtain ⟨ad529, A529_1, c529_1, A529_3, c529_3, A529_4, c529_4, A529_5, c529_5, e529, hx529_0, hx529_1, hx529_2, hx529_3, hx529_4, hx529_5, -, -, -, -, hl529_4, hi529_4, -, -⟩ := atQ27 HR0.out HB.out x10_2 p529 q529
              cases e529
              have HR529_4 := Aside0.mk hi529_4
              have HC529_4 := Aside0.mk hl529_4
              clear hi529_4 hl529_4
              replace p529 := eq_true p529
              replace q529 := eq_true q529
              have p531 : 0 ≤ (x11_3 : Int) := of_decide_eq_true ‹_›
              have q531 : x11_3 < (((rd_T27 l0 x10_2).f4).length : Int) := of_decide_eq_true ‹_›
              obtain ⟨ad531, e531, hx531_0, hx531_1, hx531_2⟩ := atQ37 HR529_4.out HB.out x11_3 p531 q531
              cases e531
              replace p531 := eq_true p531
              replace q531 := eq_true q531
              go_wp2_with (first | ((with_reducible refine gate_dst (N := 12) rfl ?_); refine box_event ?hg (N := 12) ?hd (cs := #[.string (⟨#[]⟩ : ByteArray), .int .i8 0, .int .i64 0]) (t := 37) ?hr ?_; (case hd => rfl); (case hg => rfl); (case hr => go_simp; try rfl); intro gb532 hg w53 hbox hb; have BK532 := Aside0.mk (hbox); have GW532 := Aside0.mk (gwQ hg HB.out); have GE532 := Aside0.mk (gwQ hg HB.out); replace HB := Aside0.mk (bsQ hb HB.out); clear hb hbox hg; obtain ⟨hcz54_0, hcz54_1, hcz54_2⟩ := bcQ3 BK532.out; obtain ⟨hfz54_0, hfz54_1, hfz54_2⟩ := fzQ3 BK532.out) | ((with_reducible refine gate_callee (f := 19) rfl ?_); refine goesL_ (some 84) rfl rfl Try.func19 (by kernel_rfl) rfl #[.slice (some ad529) l0.length c0, .string ((rd_T37 ((rd_T27 l0 x10_2).f4) x11_3).f0)] rfl (by (try simp only [List.map_toArray, List.map_cons, List.map_nil]); try rfl) ?_; (with_reducible refine (pleatref08_Find.calls k3 _ _ l0 ((rd_T37 ((rd_T27 l0 x10_2).f4) x11_3).f0) t533 t534 t535 _ ?side1 ?side2 A36.out).mono ?_); (case side1 => exact Kd.C_below HR0.out (by repeat with_reducible first | exact HB.out | apply pw_below_drewN | apply below_drew1 | refine below_set ?_ GE532.out)); (case side2 => exact HC0.out); rintro e w55 ⟨rfl, hb⟩; refine ⟨_, rfl, ?_⟩; have n0_ := Aside0.mk (blk_below (g := gb532) (o := .cells #[.string ((rd_T37 ((rd_T27 l0 x10_2).f4) x11_3).f0), .int .i8 ((rd_T37 ((rd_T27 l0 x10_2).f4) x11_3).f1), .int .i64 ((rd_T37 ((rd_T27 l0 x10_2).f4) x11_3).f2)] 37 (0, 0)) (by refine blk_put (cs := #[.string ((rd_T37 ((rd_T27 l0 x10_2).f4) x11_3).f0), .int .i8 ((rd_T37 ((rd_T27 l0 x10_2).f4) x11_3).f1), .int .i64 0]) ?_ 2 _ rfl; refine blk_put (cs := #[.string ((rd_T37 ((rd_T27 l0 x10_2).f4) x11_3).f0), .int .i8 0, .int .i64 0]) ?_ 1 _ rfl; refine blk_put (cs := #[.string (⟨#[]⟩ : ByteArray), .int .i8 0, .int .i64 0]) ?_ 0 _ rfl; exact BK532.out) hb); have n1_ := Aside0.mk (bs1Q hb (by repeat with_reducible first | exact HB.out | apply pw_below_drewN | apply below_drew1 | refine below_set ?_ GE532.out)); clear BK532; clear HB; have BK532 := n0_; have HB := n1_; clear n0_ n1_; (try clear hb); (try clear hb2); (try clear hk); (try clear hi)) | ((with_reducible refine gate_dst (N := 13) rfl ?_); refine box_event ?hg (N := 13) ?hd (cs := #[.int .i64 0, .int .i64 0]) (t := 57) ?hr ?_; (case hd => rfl); (case hg => rfl); (case hr => go_simp; try rfl); intro gb536 hg w56 hbox hb; have n0_ := Aside0.mk (bbQ hb BK532.out); have n1_ := Aside0.mk (bs1Q hb (by repeat with_reducible first | exact HB.out | apply pw_below_drewN | apply below_drew1 | refine below_set ?_ GE532.out)); have n2_ := Aside0.mk (hbox); have n3_ := Aside0.mk (gw1Q hg (by repeat with_reducible first | exact HB.out | apply pw_below_drewN | apply below_drew1 | refine below_set ?_ GE532.out)); have n4_ := Aside0.mk (gw1Q hg (by repeat with_reducible first | exact HB.out | apply pw_below_drewN | apply below_drew1 | refine below_set ?_ GE532.out)); have n5_ := Aside0.mk ((by rw [hg]; exact Nat.ne_of_lt (blk_lt (g := gb532) (o := .cells #[.string ((rd_T37 ((rd_T27 l0 x10_2).f4) x11_3).f0), .int .i8 ((rd_T37 ((rd_T27 l0 x10_2).f4) x11_3).f1), .int .i64 ((rd_T37 ((rd_T27 l0 x10_2).f4) x11_3).f2)] 37 (0, 0)) (by exact BK532.out)) : gb532 ≠ gb536)); have n6_ := Aside0.mk ((by rw [hg]; exact Nat.ne_of_gt (blk_lt (g := gb532) (o := .cells #[.string ((rd_T37 ((rd_T27 l0 x10_2).f4) x11_3).f0), .int .i8 ((rd_T37 ((rd_T27 l0 x10_2).f4) x11_3).f1), .int .i64 ((rd_T37 ((rd_T27 l0 x10_2).f4) x11_3).f2)] 37 (0, 0)) (by exact BK532.out)) : gb536 ≠ gb532)); clear BK532; clear HB; have BK532 := n0_; have HB := n1_; have BK536 := n2_; have GW536 := n3_; have GE536 := n4_; have NB532_536 := n5_; have NB536_532 := n6_; clear n0_ n1_ n2_ n3_ n4_ n5_ n6_; clear hb hbox hg; have hnb57 := NB536_532.out; have hnc57 := NB532_536.out; obtain ⟨hcz58_0, hcz58_1⟩ := bcQ2 BK536.out; obtain ⟨hfz58_0, hfz58_1⟩ := fzQ2 BK536.out; obtain ⟨hcz59_0, hcz59_1, hcz59_2⟩ := bcQ3 BK532.out; obtain ⟨hfz59_0, hfz59_1, hfz59_2⟩ := fzQ3 BK532.out))
              go_roundg k3
              case measure => have := HK1.out; have := HK2.out; have := HK3.out; omega
              case rel => exact ⟨(wrap64 (x11_3 + 1)), (by first | rfl | (simp; done) | (simp [*]; done)), H', ⟨by have := HK1.out; have := HK2.out; have := HK3.out; omega⟩, ⟨by repeat with_reducible first | exact HB.out | apply pw_below_drewN | apply below_drew1 | refine below_set ?_ GE532.out | refine below_set ?_ GE536.out⟩⟩
            ·
             rw [if_neg c35] at H
             exact absurd H (by simp)
           ·
            rw [if_neg c34] at H
            have c34b0 : decide (x11_3 < (((rd_T27 l0 x10_2).f4).length : Int)) = false := decide_eq_false c34
            clear c34
            have H' := Aside0.mk H
            clear H
            have p529 : 0 ≤ (x10_2 : Int) := of_decide_eq_true ‹_›
            have q529 : x10_2 < (l0.length : Int) := of_decide_eq_true ‹_›
            obtain ⟨ad529, A529_1, c529_1, A529_3, c529_3, A529_4, c529_4, A529_5, c529_5, e529, hx529_0, hx529_1, hx529_2, hx529_3, hx529_4, hx529_5, -, -, -, -, -, -, -, -⟩ := atQ27 HR0.out HB.out x10_2 p529 q529
            cases e529
            replace p529 := eq_true p529
            replace q529 := eq_true q529
            go_wp2
            go_roundg k3
            case measure => have := HK1.out; have := HK2.out; have := HK3.out; omega
            case rel => exact ⟨(wrap64 (x10_2 + 1)), (by first | rfl | (simp; done) | (simp [*]; done)), H', ⟨by have := HK1.out; have := HK2.out; have := HK3.out; omega⟩, ⟨bwQ HB.out⟩⟩
          ·
           rw [if_neg c33] at H
           exact absurd H (by simp)
         ·
          rw [if_neg c32] at H
          exact absurd H (by simp)
      ·
       rw [if_neg c31] at H
       have c31b0 : decide (x10_2 < (l0.length : Int)) = false := decide_eq_false c31
       clear c31
       simp only [Option.some.injEq, Prod.mk.injEq] at H
       obtain ⟨rfl, rfl, rfl⟩ := H
       go_wp2
       go_ret3
       exact ⟨by first | rfl | (simp [errW_none, errW_some] <;> rfl) | (simp [*, errW_none, errW_some] <;> rfl), bwQ HB.out⟩
end Go.Proofs.Ytiaohbbafaaibab.P

/- What the Go functions named below come to, as plain functions, each with its proof; written by this session's prt.py over the kit's print. -/
namespace Go.Proofs.Ytiaohbbafaaibab.P
open Go.RowKit Go.Proofs.YtiaohbbafaaibabW.PrintWords Go.Proofs.YtiaohbbafaaibabW.PrintLast Go.Proofs.YtiaohbbafaaibabW.PrintMore
attribute [local go_sem] max2_int min2_int max_two min_two max_three min_three max_four min_four   -- for this text's walks alone
set_option linter.unusedVariables false
set_option linter.unusedSimpArgs false
/-! ### pleatref08_Resolve: function 17 -/
mutual
def pleatref08_Resolve.l0 : Nat → List (S27) → List (List (S57)) → Int → Option ((List (List (S57))) × Int × Int × Int)
 | 0, _, _, _ => none
 | k + 1, x0, x9, x10 => if x10 < (x0.length : Int) then (pleatref08_Resolve.l1 k x0 x9 x10 ([] : List (S57)) 0) else (some (x9, 0, 0, 0))
def pleatref08_Resolve.l1 : Nat → List (S27) → List (List (S57)) → Int → List (S57) → Int → Option ((List (List (S57))) × Int × Int × Int)
 | 0, _, _, _, _, _ => none
 | k + 1, x0, x9, x10, x11, x12 => if 0 ≤ x10 then (if x10 < (x0.length : Int) then (if x12 < (((rd_T27 x0 x10).f4).length : Int) then (if 0 ≤ x12 then (if ((rd_T37 ((rd_T27 x0 x10).f4) x12).f1) = 0 then (if x11.length < 8796093022208 then (pleatref08_Resolve.l1 k x0 x9 x10 (x11 ++ [(⟨x10, (rd_T37 ((rd_T27 x0 x10).f4) x12).f2⟩ : S57)]) (wrap64 (x12 + 1))) else (none)) else ((pleatref08_Find.f k x0 ((rd_T37 ((rd_T27 x0 x10).f4) x12).f0)).bind fun bt551 => (if x11.length < 8796093022208 then (pleatref08_Resolve.l1 k x0 x9 x10 (x11 ++ [(⟨bt551.1, bt551.2.1⟩ : S57)]) (wrap64 (x12 + 1))) else (none)))) else (none)) else (if x9.length < 5864062014805 then (pleatref08_Resolve.l0 k x0 (x9 ++ [x11]) (wrap64 (x10 + 1))) else (none))) else (none)) else (none)
end
def pleatref08_Resolve.f (k : Nat) (l0 : List (S27)) : Option ((List (List (S57))) × Int × Int × Int) := (pleatref08_check.f k l0).bind fun bt537 => (if bt537.1 = 0 then ((pleatref08_names.f k l0).bind fun bt540 => (if bt540.1 = 0 then (pleatref08_Resolve.l0 k l0 ([] : List (List (S57))) 0) else (some (([] : List (List (S57))), bt540.1, bt540.2.1, bt540.2.2)))) else (some (([] : List (List (S57))), bt537.1, bt537.2.1, bt537.2.2)))
theorem pleatref08_Resolve.mono_l : ∀ k, (∀ y0 y1 y2, LeO (pleatref08_Resolve.l0 k y0 y1 y2) (pleatref08_Resolve.l0 (k + 1) y0 y1 y2)) ∧ (∀ y0 y1 y2 y3 y4, LeO (pleatref08_Resolve.l1 k y0 y1 y2 y3 y4) (pleatref08_Resolve.l1 (k + 1) y0 y1 y2 y3 y4))
 | 0 => ⟨fun _ _ _ r h => by simp [pleatref08_Resolve.l0] at h, fun _ _ _ _ _ r h => by simp [pleatref08_Resolve.l1] at h⟩
 | k + 1 => by
  obtain ⟨ih0, ih1⟩ := pleatref08_Resolve.mono_l k
  refine ⟨?_, ?_⟩
  ·
   intro y0 y1 y2
   unfold pleatref08_Resolve.l0
   repeat' first
   | (with_reducible first | exact ih0 _ _ _ | exact ih1 _ _ _ _ _ | exact pleatref08_Find.mono _ _ _ | exact pleatref08_check.mono _ _ | exact pleatref08_names.mono _ _ | exact LeO.refl _ | exact LeO.none _ | refine LeO.ite ?_ ?_ | refine LeO.bind ?_ (fun _ => ?_))
  ·
   intro y0 y1 y2 y3 y4
   unfold pleatref08_Resolve.l1
   repeat' first
   | (with_reducible first | exact ih0 _ _ _ | exact ih1 _ _ _ _ _ | exact pleatref08_Find.mono _ _ _ | exact pleatref08_check.mono _ _ | exact pleatref08_names.mono _ _ | exact LeO.refl _ | exact LeO.none _ | refine LeO.ite ?_ ?_ | refine LeO.bind ?_ (fun _ => ?_))
theorem pleatref08_Resolve.mono : ∀ a0 k, LeO (pleatref08_Resolve.f k a0) (pleatref08_Resolve.f (k + 1) a0) := by
 intro a0 k
 obtain ⟨ih0, ih1⟩ := pleatref08_Resolve.mono_l k
 unfold pleatref08_Resolve.f
 repeat' first
   | (with_reducible first | exact ih0 _ _ _ | exact ih1 _ _ _ _ _ | exact pleatref08_Find.mono _ _ _ | exact pleatref08_check.mono _ _ | exact pleatref08_names.mono _ _ | exact LeO.refl _ | exact LeO.none _ | refine LeO.ite ?_ ?_ | refine LeO.bind ?_ (fun _ => ?_))
set_option maxHeartbeats 8000000 in
set_option maxRecDepth 100000 in
theorem pleatref08_Resolve.calls (k : Nat) (A0 : Option Addr) (c0 : Nat) (l0 : List (S27)) (r1 : List (List (S57))) (r2 : Int) (r3 : Int) (r4 : Int) (w : World) (hr0 : Kd.C k27 w A0 l0.length l0) (hc0 : l0.length ≤ c0) (h : pleatref08_Resolve.f k l0 = some (r1, r2, r3, r4)) :
  Calls Try.prog 17 #[.slice A0 l0.length c0] w fun e w' => ∃ v0_ : Value, e = .returned (.tuple #[v0_, .int .i64 r2, .int .i64 r3, .int .i64 r4]) ∧ Kd.S (Kd.slice 57 k57) 88 w' w.heap.size (fun _ => True) v0_ r1 ∧ Below w.heap.size w w' := by
 have hu37 := Try.underlying37
 have hu57 := Try.underlying57
 have HR0 := Aside0.mk hr0
 have HC0 := Aside0.mk hc0
 clear hr0 hc0
 have HB := Aside0.mk (Below.refl w.heap.size w)
 have H : ((pleatref08_check.f k l0).bind fun bt537 => (if bt537.1 = 0 then ((pleatref08_names.f k l0).bind fun bt540 => (if bt540.1 = 0 then (pleatref08_Resolve.l0 k l0 ([] : List (List (S57))) 0) else (some (([] : List (List (S57))), bt540.1, bt540.2.1, bt540.2.2)))) else (some (([] : List (List (S57))), bt537.1, bt537.2.1, bt537.2.2)))) = some (r1, r2, r3, r4) := h
 clear h
 replace H := Option.bind_eq_some_iff.mp H
 obtain ⟨⟨t537, t538, t539⟩, A20, H⟩ := H
 try dsimp only at H
 have A2 := Aside0.mk A20
 clear A20
 by_cases c3 : t537 = 0
 ·
  rw [if_pos c3] at H
  have c3b0 : (t537 == 0) = true := beq_iff_eq.mpr c3
  have c3b1 : (t537 != 0) = false := bne_eq_false_iff_eq.mpr c3
  clear c3
  replace H := Option.bind_eq_some_iff.mp H
  obtain ⟨⟨t540, t541, t542⟩, A40, H⟩ := H
  try dsimp only at H
  have A4 := Aside0.mk A40
  clear A40
  by_cases c5 : t540 = 0
  ·
   rw [if_pos c5] at H
   have c5b0 : (t540 == 0) = true := beq_iff_eq.mpr c5
   have c5b1 : (t540 != 0) = false := bne_eq_false_iff_eq.mpr c5
   clear c5
   have H' := Aside0.mk H
   clear H
   go_enter Try.func17, Try.ntmps17
   go_wp2_with (first | ((with_reducible refine gate_callee (f := 43) rfl ?_); refine goesL_ (some 17) rfl rfl Try.func43 (by kernel_rfl) rfl #[.slice A0 l0.length c0] rfl (by (try simp only [List.map_toArray, List.map_cons, List.map_nil]); try rfl) ?_; (with_reducible refine (pleatref08_check.calls k _ _ l0 t537 t538 t539 _ ?side1 ?side2 A2.out).mono ?_); (case side1 => repeat (first | exact HR0.out | (with_reducible refine Kd.C_alloc ?_ _) | (with_reducible refine Kd.C_drewN ?_ _) | (with_reducible refine Kd.C_drew ?_))); (case side2 => exact HC0.out); rintro e w6 ⟨rfl, hb⟩; refine ⟨_, rfl, ?_⟩; replace HB := Aside0.mk (bsQ hb HB.out); (try clear hb); (try clear hb2); (try clear hk); (try clear hi)) | ((with_reducible refine gate_callee (f := 44) rfl ?_); refine goesL_ (some 28) rfl rfl Try.func44 (by kernel_rfl) rfl #[.slice A0 l0.length c0] rfl (by (try simp only [List.map_toArray, List.map_cons, List.map_nil]); try rfl) ?_; (with_reducible refine (pleatref08_names.calls k _ _ l0 t540 t541 t542 _ ?side1 ?side2 A4.out).mono ?_); (case side1 => exact cbQ HB.out HR0.out); (case side2 => exact HC0.out); rintro e w7 ⟨rfl, hb⟩; refine ⟨_, rfl, ?_⟩; replace HB := Aside0.mk (bsQ hb HB.out); (try clear hb); (try clear hb2); (try clear hk); (try clear hi)))
   go_loopg [9, 10] k (fun kq v9 v10 w' => ∃ (x9_1 : List (List (S57))) (x10_1 : Int), v10 = .int .i64 x10_1 ∧ Aside0 (pleatref08_Resolve.l0 kq l0 x9_1 x10_1 = some (r1, r2, r3, r4)) ∧ Aside0 (kq ≤ k) ∧ Aside0 (Kd.S (Kd.slice 57 k57) 88 w' w.heap.size (fun _ => True) v9 x9_1) ∧ Aside0 (Below w.heap.size w w'))
   case atStart => exact ⟨(([] : List (List (S57)))), (0), (by first | rfl | (simp; done) | (simp [*]; done)), H', ⟨Nat.le_refl _⟩, ⟨by first | exact Kd.S_nil _ _ _ _ _ | exact Kd.N_nil _ _ _ _ _ | exact Kd.V_nil _ _ _ _ _ | exact Kd.Q_nil _ _ _ _ _ | exact Kd.R_nil _ _ _ _ _⟩, ⟨bwQ HB.out⟩⟩
   case round =>
    clear H'
    try clear c1
    try clear p2
    try clear c3
    try clear c3b0
    try clear c3b1
    try clear c4
    try clear c5
    try clear c5b0
    try clear c5b1
    obtain ⟨x9_1, x10_1, rfl, HA, HK1, HO_9, HB⟩ := hrel
    cases gk with
    | zero => exact absurd HA.out (by simp [pleatref08_Resolve.l0])
    | succ k1 =>
     have H := HA.out
     clear HA
     simp only [pleatref08_Resolve.l0] at H
     by_cases c8 : x10_1 < (l0.length : Int)
     ·
      rw [if_pos c8] at H
      have c8b0 : decide (x10_1 < (l0.length : Int)) = true := decide_eq_true c8
      clear c8
      have H' := Aside0.mk H
      clear H
      go_wp2
      go_loopg [11, 12] k1 (fun kq v11 v12 w' => ∃ (x11_2 : List (S57)) (x12_2 : Int), v12 = .int .i64 x12_2 ∧ Aside0 (pleatref08_Resolve.l1 kq l0 x9_1 x10_1 x11_2 x12_2 = some (r1, r2, r3, r4)) ∧ Aside0 (kq ≤ k1) ∧ Aside0 (Kd.S (Kd.slice 57 k57) 88 w' w.heap.size (fun k_ => some k_ ≠ (v11 : Value).ownBlock) u9 x9_1) ∧ Aside0 (Kd.R k57 57 w' w.heap.size (fun _ => True) v11 x11_2) ∧ Aside0 (Below w.heap.size w w'))
      case atStart => exact ⟨(([] : List (S57))), (0), (by first | rfl | (simp; done) | (simp [*]; done)), H', ⟨Nat.le_refl _⟩, ⟨by (with_reducible repeat (first | apply Kd.S_alloc | apply Kd.S_drewN | apply Kd.S_drew)); exact Kd.S_mono HO_9.out (fun _ hk => (by simp [Value.ownBlock]))⟩, ⟨by first | exact Kd.R_nil _ _ _ _ _ | exact Kd.N_nil _ _ _ _ _ | exact Kd.V_nil _ _ _ _ _ | exact Kd.Q_nil _ _ _ _ _ | exact Kd.S_nil _ _ _ _ _⟩, ⟨bwQ HB.out⟩⟩
      case round =>
       clear H'
       try clear c1
       try clear p2
       try clear c3
       try clear c3b0
       try clear c3b1
       try clear c4
       try clear c5
       try clear c5b0
       try clear c5b1
       try clear c8
       try clear c8b0
       try clear p2
       obtain ⟨x11_2, x12_2, rfl, HA, HK2, HO_9, HO_11, HB⟩ := hrel
       cases gk with
       | zero => exact absurd HA.out (by simp [pleatref08_Resolve.l1])
       | succ k2 =>
        have H := HA.out
        clear HA
        simp only [pleatref08_Resolve.l1] at H
        by_cases c9 : 0 ≤ x10_1
        ·
         rw [if_pos c9] at H
         have c9b0 : decide (0 ≤ x10_1) = true := decide_eq_true c9
         clear c9
         by_cases c10 : x10_1 < (l0.length : Int)
         ·
          rw [if_pos c10] at H
          have c10b0 : decide (x10_1 < (l0.length : Int)) = true := decide_eq_true c10
          clear c10
          by_cases c11 : x12_2 < (((rd_T27 l0 x10_1).f4).length : Int)
          ·
           rw [if_pos c11] at H
           have c11b0 : decide (x12_2 < (((rd_T27 l0 x10_1).f4).length : Int)) = true := decide_eq_true c11
           clear c11
           by_cases c12 : 0 ≤ x12_2
           ·
            rw [if_pos c12] at H
            have c12b0 : decide (0 ≤ x12_2) = true := decide_eq_true c12
            clear c12
            by_cases c13 : ((rd_T37 ((rd_T27 l0 x10_1).f4) x12_2).f1) = 0
            ·
             rw [if_pos c13] at H
             have c13b0 : (((rd_T37 ((rd_T27 l0 x10_1).f4) x12_2).f1) == 0) = true := beq_iff_eq.mpr c13
             have c13b1 : (((rd_T37 ((rd_T27 l0 x10_1).f4) x12_2).f1) != 0) = false := bne_eq_false_iff_eq.mpr c13
             clear c13
             by_cases c14 : x11_2.length < 8796093022208
             ·
              rw [if_pos c14] at H
              have LMc14 := Aside0.mk c14
              clear c14
              obtain ⟨y548, hy548⟩ : ∃ y_ : List (S57), y_ = (x11_2 ++ [(⟨x10_1, (rd_T37 ((rd_T27 l0 x10_1).f4) x12_2).f2⟩ : S57)]) := ⟨_, rfl⟩
              replace H : (pleatref08_Resolve.l1 k2 l0 x9_1 x10_1 y548 (wrap64 (x12_2 + 1))) = some (r1, r2, r3, r4) := by first | (rw [hy548]; with_reducible exact H) | (have H2_ := (Option.bind_some _ _).symm.trans H; rw [hy548]; with_reducible exact H2_) | (have H2_ := (Option.bind_some _ _).symm.trans H; with_reducible exact H2_) | with_reducible exact H | (rw [hy548]; exact H) | exact H
              have Ny548 := Aside0.mk hy548
              clear hy548
              have H' := Aside0.mk H
              clear H
              have p543 : 0 ≤ (x10_1 : Int) := of_decide_eq_true ‹_›
              have q543 : x10_1 < (l0.length : Int) := of_decide_eq_true ‹_›
              obtain ⟨ad543, A543_1, c543_1, A543_3, c543_3, A543_4, c543_4, A543_5, c543_5, e543, hx543_0, hx543_1, hx543_2, hx543_3, hx543_4, hx543_5, -, -, -, -, hl543_4, hi543_4, -, -⟩ := atQ27 HR0.out HB.out x10_1 p543 q543
              cases e543
              have HR543_4 := Aside0.mk hi543_4
              have HC543_4 := Aside0.mk hl543_4
              clear hi543_4 hl543_4
              replace p543 := eq_true p543
              replace q543 := eq_true q543
              have p545 : 0 ≤ (x12_2 : Int) := of_decide_eq_true ‹_›
              have q545 : x12_2 < (((rd_T27 l0 x10_1).f4).length : Int) := of_decide_eq_true ‹_›
              obtain ⟨ad545, e545, hx545_0, hx545_1, hx545_2⟩ := atQ37 HR543_4.out HB.out x12_2 p545 q545
              cases e545
              replace p545 := eq_true p545
              replace q545 := eq_true q545
              go_wp2_with (first | ((with_reducible refine gate_dst (N := 13) rfl ?_); refine box_event ?hg (N := 13) ?hd (cs := #[.string (⟨#[]⟩ : ByteArray), .int .i8 0, .int .i64 0]) (t := 37) ?hr ?_; (case hd => rfl); (case hg => rfl); (case hr => go_simp; try rfl); intro gb546 hg w15 hbox hb; have n0_ := Aside0.mk (Kd.S_below (by (with_reducible repeat (first | apply Kd.S_alloc | apply Kd.S_drewN | apply Kd.S_drew)); exact HO_9.out) hb); have n1_ := Aside0.mk (Kd.R_below (by (with_reducible repeat (first | apply Kd.R_alloc | apply Kd.R_drewN | apply Kd.R_drew)); exact HO_11.out) hb); have n2_ := Aside0.mk (bsQ hb HB.out); have n3_ := Aside0.mk (hbox); have n4_ := Aside0.mk (gwQ hg HB.out); have n5_ := Aside0.mk (gwQ hg HB.out); clear HO_9; clear HO_11; clear HB; have HO_9 := n0_; have HO_11 := n1_; have HB := n2_; have BK546 := n3_; have GW546 := n4_; have GE546 := n5_; clear n0_ n1_ n2_ n3_ n4_ n5_; clear hb hbox hg; obtain ⟨hcz16_0, hcz16_1, hcz16_2⟩ := bcQ3 BK546.out; obtain ⟨hfz16_0, hfz16_1, hfz16_2⟩ := fzQ3 BK546.out) | ((with_reducible refine gate_dst (N := 14) rfl ?_); refine box_event ?hg (N := 14) ?hd (cs := #[.int .i64 0, .int .i64 0]) (t := 57) ?hr ?_; (case hd => rfl); (case hg => rfl); (case hr => go_simp; try rfl); intro gb547 hg w17 hbox hb; have n0_ := Aside0.mk (Kd.S_below (Kd.S_elderB (by (with_reducible repeat (first | apply Kd.S_alloc | apply Kd.S_drewN | apply Kd.S_drew)); exact (Kd.S_mono (Kd.S_far (p := ⟨gb546, 2, none⟩) (Kd.S_far (p := ⟨gb546, 1, none⟩) (Kd.S_far (p := ⟨gb546, 0, none⟩) (Kd.S_types HO_9.out BK546.out (by decide)) (fun _ hk => hk.2) (.string ((rd_T37 ((rd_T27 l0 x10_1).f4) x12_2).f0))) (fun _ hk => hk.2) (.int .i8 ((rd_T37 ((rd_T27 l0 x10_1).f4) x12_2).f1))) (fun _ hk => hk.2) (.int .i64 ((rd_T37 ((rd_T27 l0 x10_1).f4) x12_2).f2))) (fun _ h_ => h_.1))) gb547 (Nat.le_of_eq hg.symm)) hb); have n1_ := Aside0.mk (Kd.R_below (Kd.R_elderB (by (with_reducible repeat (first | apply Kd.R_alloc | apply Kd.R_drewN | apply Kd.R_drew)); exact (Kd.R_mono (Kd.R_far (p := ⟨gb546, 2, none⟩) (Kd.R_far (p := ⟨gb546, 1, none⟩) (Kd.R_far (p := ⟨gb546, 0, none⟩) (Kd.R_types HO_11.out BK546.out (by decide)) (fun _ hk => hk.2) (.string ((rd_T37 ((rd_T27 l0 x10_1).f4) x12_2).f0))) (fun _ hk => hk.2) (.int .i8 ((rd_T37 ((rd_T27 l0 x10_1).f4) x12_2).f1))) (fun _ hk => hk.2) (.int .i64 ((rd_T37 ((rd_T27 l0 x10_1).f4) x12_2).f2))) (fun _ h_ => h_.1))) gb547 (Nat.le_of_eq hg.symm)) hb); have n2_ := Aside0.mk (blk_below (g := gb546) (o := .cells #[.string ((rd_T37 ((rd_T27 l0 x10_1).f4) x12_2).f0), .int .i8 ((rd_T37 ((rd_T27 l0 x10_1).f4) x12_2).f1), .int .i64 ((rd_T37 ((rd_T27 l0 x10_1).f4) x12_2).f2)] 37 (0, 0)) (by refine blk_put (cs := #[.string ((rd_T37 ((rd_T27 l0 x10_1).f4) x12_2).f0), .int .i8 ((rd_T37 ((rd_T27 l0 x10_1).f4) x12_2).f1), .int .i64 0]) ?_ 2 _ rfl; refine blk_put (cs := #[.string ((rd_T37 ((rd_T27 l0 x10_1).f4) x12_2).f0), .int .i8 0, .int .i64 0]) ?_ 1 _ rfl; refine blk_put (cs := #[.string (⟨#[]⟩ : ByteArray), .int .i8 0, .int .i64 0]) ?_ 0 _ rfl; exact BK546.out) hb); have n3_ := Aside0.mk (bs1Q hb (by repeat with_reducible first | exact HB.out | apply pw_below_drewN | apply below_drew1 | refine below_set ?_ GE546.out)); have n4_ := Aside0.mk (hbox); have n5_ := Aside0.mk (gw1Q hg (by repeat with_reducible first | exact HB.out | apply pw_below_drewN | apply below_drew1 | refine below_set ?_ GE546.out)); have n6_ := Aside0.mk (gw1Q hg (by repeat with_reducible first | exact HB.out | apply pw_below_drewN | apply below_drew1 | refine below_set ?_ GE546.out)); have n7_ := Aside0.mk ((by rw [hg]; exact Nat.ne_of_lt (blk_lt (g := gb546) (o := .cells #[.string ((rd_T37 ((rd_T27 l0 x10_1).f4) x12_2).f0), .int .i8 ((rd_T37 ((rd_T27 l0 x10_1).f4) x12_2).f1), .int .i64 ((rd_T37 ((rd_T27 l0 x10_1).f4) x12_2).f2)] 37 (0, 0)) (by refine blk_put (cs := #[.string ((rd_T37 ((rd_T27 l0 x10_1).f4) x12_2).f0), .int .i8 ((rd_T37 ((rd_T27 l0 x10_1).f4) x12_2).f1), .int .i64 0]) ?_ 2 _ rfl; refine blk_put (cs := #[.string ((rd_T37 ((rd_T27 l0 x10_1).f4) x12_2).f0), .int .i8 0, .int .i64 0]) ?_ 1 _ rfl; refine blk_put (cs := #[.string (⟨#[]⟩ : ByteArray), .int .i8 0, .int .i64 0]) ?_ 0 _ rfl; exact BK546.out)) : gb546 ≠ gb547)); have n8_ := Aside0.mk ((by rw [hg]; exact Nat.ne_of_gt (blk_lt (g := gb546) (o := .cells #[.string ((rd_T37 ((rd_T27 l0 x10_1).f4) x12_2).f0), .int .i8 ((rd_T37 ((rd_T27 l0 x10_1).f4) x12_2).f1), .int .i64 ((rd_T37 ((rd_T27 l0 x10_1).f4) x12_2).f2)] 37 (0, 0)) (by refine blk_put (cs := #[.string ((rd_T37 ((rd_T27 l0 x10_1).f4) x12_2).f0), .int .i8 ((rd_T37 ((rd_T27 l0 x10_1).f4) x12_2).f1), .int .i64 0]) ?_ 2 _ rfl; refine blk_put (cs := #[.string ((rd_T37 ((rd_T27 l0 x10_1).f4) x12_2).f0), .int .i8 0, .int .i64 0]) ?_ 1 _ rfl; refine blk_put (cs := #[.string (⟨#[]⟩ : ByteArray), .int .i8 0, .int .i64 0]) ?_ 0 _ rfl; exact BK546.out)) : gb547 ≠ gb546)); clear HO_9; clear HO_11; clear BK546; clear HB; have HO_9 := n0_; have HO_11 := n1_; have BK546 := n2_; have HB := n3_; have BK547 := n4_; have GW547 := n5_; have GE547 := n6_; have NB546_547 := n7_; have NB547_546 := n8_; clear n0_ n1_ n2_ n3_ n4_ n5_ n6_ n7_ n8_; clear hb hbox hg; have hnb18 := NB547_546.out; have hnc18 := NB546_547.out; obtain ⟨hcz19_0, hcz19_1⟩ := bcQ2 BK547.out; obtain ⟨hfz19_0, hfz19_1⟩ := fzQ2 BK547.out; obtain ⟨hcz20_0, hcz20_1, hcz20_2⟩ := bcQ3 BK546.out; obtain ⟨hfz20_0, hfz20_1, hfz20_2⟩ := fzQ3 BK546.out) | ((with_reducible refine gate_builtin (b := .append) (xs := #[.tmp 75, .tmp 77]) rfl ?_); at_builtin; refine Kd.R_append k57 (w0 := w) w.heap.size rfl (.tmp 75) (.tmp 77) 88 57 (.agg #[(.int .i64 0), (.int .i64 0)]) 16 rfl Try.underlying88 info57 rfl (by decide) (by omega) u11 x11_2 (⟨x10_1, (rd_T37 ((rd_T27 l0 x10_1).f4) x12_2).f2⟩ : S57) [.int .i64 x10_1, .int .i64 ((rd_T37 ((rd_T27 l0 x10_1).f4) x12_2).f2)] (fun k_ => k_ ≠ gb547) (fun _ => False) rfl (by first | (go_simp; done) | (go_simp; rfl)) ?aP (fun _ hk => hk.elim) ?aF ?aO ?aB ?aS ?aL ?_; (case aP => exact k57_mkM _ _ _ (⟨x10_1, (rd_T37 ((rd_T27 l0 x10_1).f4) x12_2).f2⟩ : S57)); (case aB => exact (by repeat with_reducible first | exact HB.out | apply pw_below_drewN | apply below_drew1 | refine below_set ?_ GE546.out | refine below_set ?_ GE547.out)); (case aF => exact (fun k_ hk => Kd.freshB (g := gb547) (o := .cells #[.int .i64 x10_1, .int .i64 ((rd_T37 ((rd_T27 l0 x10_1).f4) x12_2).f2)] 57 (0, 0)) (by refine blk_put (cs := #[.int .i64 x10_1, .int .i64 0]) ?_ 1 _ rfl; refine blk_put (cs := #[.int .i64 0, .int .i64 0]) ?_ 0 _ rfl; exact BK547.out) k_ hk)); (case aO => exact (by (with_reducible repeat (first | apply Kd.R_alloc | apply Kd.R_drewN | apply Kd.R_drew)); exact Kd.R_mono (Kd.R_far (p := ⟨gb547, 1, none⟩) (Kd.R_far (p := ⟨gb547, 0, none⟩) (Kd.R_mono HO_11.out (fun k_ hk => (⟨hk, hk.2⟩ : _ ∧ k_ ≠ gb547))) (fun _ hk => hk.2) (.int .i64 x10_1)) (fun _ hk => hk.2) (.int .i64 ((rd_T37 ((rd_T27 l0 x10_1).f4) x12_2).f2))) (fun _ hk => hk.1.2))); (case aS => exact (below_size (by repeat with_reducible first | exact HB.out | apply pw_below_drewN | apply below_drew1 | refine below_set ?_ GE546.out | refine below_set ?_ GE547.out))); (case aL => have := LMc14.out; omega); intro v549 w21 ho hb hg hat; rw [← Ny548.out] at ho; have n0_ := Aside0.mk (Kd.S_after (ok := (fun k_ => k_ ≠ gb547)) (by (with_reducible repeat (first | apply Kd.S_alloc | apply Kd.S_drewN | apply Kd.S_drew)); exact Kd.S_mono (Kd.S_far (p := ⟨gb547, 1, none⟩) (Kd.S_far (p := ⟨gb547, 0, none⟩) (Kd.S_mono HO_9.out (fun k_ hk => (⟨hk, hk.2⟩ : _ ∧ k_ ≠ gb547))) (fun _ hk => hk.2) (.int .i64 x10_1)) (fun _ hk => hk.2) (.int .i64 ((rd_T37 ((rd_T27 l0 x10_1).f4) x12_2).f2))) (fun _ hk => ⟨hk.1.2, hk.1.1⟩)) hg hat); have n1_ := Aside0.mk (blk_grown (g := gb546) (o := .cells #[.string ((rd_T37 ((rd_T27 l0 x10_1).f4) x12_2).f0), .int .i8 ((rd_T37 ((rd_T27 l0 x10_1).f4) x12_2).f1), .int .i64 ((rd_T37 ((rd_T27 l0 x10_1).f4) x12_2).f2)] 37 (0, 0)) (by refine blk_far ?_ NB546_547.out _; refine blk_far ?_ NB546_547.out _; exact BK546.out) hg (Kd.R_ne HO_11.out BK546.out (by decide))); have n2_ := Aside0.mk (blk_grown (g := gb547) (o := .cells #[.int .i64 x10_1, .int .i64 ((rd_T37 ((rd_T27 l0 x10_1).f4) x12_2).f2)] 57 (0, 0)) (by refine blk_put (cs := #[.int .i64 x10_1, .int .i64 0]) ?_ 1 _ rfl; refine blk_put (cs := #[.int .i64 0, .int .i64 0]) ?_ 0 _ rfl; exact BK547.out) hg (Kd.R_away HO_11.out (fun _ hk => hk.2))); have n3_ := Aside0.mk (hb); have n4_ := Aside0.mk (ho); clear HO_9; clear BK546; clear BK547; clear HB; clear HO_11; have HO_9 := n0_; have BK546 := n1_; have BK547 := n2_; have HB := n3_; have HO550 := n4_; clear n0_ n1_ n2_ n3_ n4_; clear ho hb hg hat))
              go_roundg k2
              case measure => have := HK1.out; have := HK2.out; omega
              case rel => exact ⟨(y548), (wrap64 (x12_2 + 1)), (by first | rfl | (simp; done) | (simp [*]; done)), H', ⟨by have := HK1.out; have := HK2.out; omega⟩, ⟨by (with_reducible repeat (first | apply Kd.S_alloc | apply Kd.S_drewN | apply Kd.S_drew)); exact Kd.S_mono HO_9.out (fun _ hk => hk.2)⟩, ⟨by (with_reducible repeat (first | apply Kd.R_alloc | apply Kd.R_drewN | apply Kd.R_drew)); exact Kd.R_mono HO550.out (fun _ hk => trivial)⟩, ⟨by repeat with_reducible first | exact HB.out | apply pw_below_drewN | apply below_drew1 | refine below_set ?_ GE546.out | refine below_set ?_ GE547.out⟩⟩
             ·
              rw [if_neg c14] at H
              exact absurd H (by simp)
            ·
             rw [if_neg c13] at H
             have c13b0 : (((rd_T37 ((rd_T27 l0 x10_1).f4) x12_2).f1) == 0) = false := beq_eq_false_iff_ne.mpr c13
             have c13b1 : (((rd_T37 ((rd_T27 l0 x10_1).f4) x12_2).f1) != 0) = true := bne_iff_ne.mpr c13
             replace H := Option.bind_eq_some_iff.mp H
             obtain ⟨⟨t551, t552, t553⟩, A220, H⟩ := H
             try dsimp only at H
             have A22 := Aside0.mk A220
             clear A220
             by_cases c23 : x11_2.length < 8796093022208
             ·
              rw [if_pos c23] at H
              have LMc23 := Aside0.mk c23
              clear c23
              obtain ⟨y554, hy554⟩ : ∃ y_ : List (S57), y_ = (x11_2 ++ [(⟨t551, t552⟩ : S57)]) := ⟨_, rfl⟩
              replace H : (pleatref08_Resolve.l1 k2 l0 x9_1 x10_1 y554 (wrap64 (x12_2 + 1))) = some (r1, r2, r3, r4) := by first | (rw [hy554]; with_reducible exact H) | (have H2_ := (Option.bind_some _ _).symm.trans H; rw [hy554]; with_reducible exact H2_) | (have H2_ := (Option.bind_some _ _).symm.trans H; with_reducible exact H2_) | with_reducible exact H | (rw [hy554]; exact H) | exact H
              have Ny554 := Aside0.mk hy554
              clear hy554
              have H' := Aside0.mk H
              clear H
              have p543 : 0 ≤ (x10_1 : Int) := of_decide_eq_true ‹_›
              have q543 : x10_1 < (l0.length : Int) := of_decide_eq_true ‹_›
              obtain ⟨ad543, A543_1, c543_1, A543_3, c543_3, A543_4, c543_4, A543_5, c543_5, e543, hx543_0, hx543_1, hx543_2, hx543_3, hx543_4, hx543_5, -, -, -, -, hl543_4, hi543_4, -, -⟩ := atQ27 HR0.out HB.out x10_1 p543 q543
              cases e543
              have HR543_4 := Aside0.mk hi543_4
              have HC543_4 := Aside0.mk hl543_4
              clear hi543_4 hl543_4
              replace p543 := eq_true p543
              replace q543 := eq_true q543
              have p545 : 0 ≤ (x12_2 : Int) := of_decide_eq_true ‹_›
              have q545 : x12_2 < (((rd_T27 l0 x10_1).f4).length : Int) := of_decide_eq_true ‹_›
              obtain ⟨ad545, e545, hx545_0, hx545_1, hx545_2⟩ := atQ37 HR543_4.out HB.out x12_2 p545 q545
              cases e545
              replace p545 := eq_true p545
              replace q545 := eq_true q545
              go_wp2_with (first | ((with_reducible refine gate_dst (N := 13) rfl ?_); refine box_event ?hg (N := 13) ?hd (cs := #[.string (⟨#[]⟩ : ByteArray), .int .i8 0, .int .i64 0]) (t := 37) ?hr ?_; (case hd => rfl); (case hg => rfl); (case hr => go_simp; try rfl); intro gb546 hg w24 hbox hb; have n0_ := Aside0.mk (Kd.S_below (by (with_reducible repeat (first | apply Kd.S_alloc | apply Kd.S_drewN | apply Kd.S_drew)); exact HO_9.out) hb); have n1_ := Aside0.mk (Kd.R_below (by (with_reducible repeat (first | apply Kd.R_alloc | apply Kd.R_drewN | apply Kd.R_drew)); exact HO_11.out) hb); have n2_ := Aside0.mk (bsQ hb HB.out); have n3_ := Aside0.mk (hbox); have n4_ := Aside0.mk (gwQ hg HB.out); have n5_ := Aside0.mk (gwQ hg HB.out); clear HO_9; clear HO_11; clear HB; have HO_9 := n0_; have HO_11 := n1_; have HB := n2_; have BK546 := n3_; have GW546 := n4_; have GE546 := n5_; clear n0_ n1_ n2_ n3_ n4_ n5_; clear hb hbox hg; obtain ⟨hcz25_0, hcz25_1, hcz25_2⟩ := bcQ3 BK546.out; obtain ⟨hfz25_0, hfz25_1, hfz25_2⟩ := fzQ3 BK546.out) | ((with_reducible refine gate_dst (N := 14) rfl ?_); refine box_event ?hg (N := 14) ?hd (cs := #[.int .i64 0, .int .i64 0]) (t := 57) ?hr ?_; (case hd => rfl); (case hg => rfl); (case hr => go_simp; try rfl); intro gb547 hg w26 hbox hb; have n0_ := Aside0.mk (Kd.S_below (Kd.S_elderB (by (with_reducible repeat (first | apply Kd.S_alloc | apply Kd.S_drewN | apply Kd.S_drew)); exact (Kd.S_mono (Kd.S_far (p := ⟨gb546, 2, none⟩) (Kd.S_far (p := ⟨gb546, 1, none⟩) (Kd.S_far (p := ⟨gb546, 0, none⟩) (Kd.S_types HO_9.out BK546.out (by decide)) (fun _ hk => hk.2) (.string ((rd_T37 ((rd_T27 l0 x10_1).f4) x12_2).f0))) (fun _ hk => hk.2) (.int .i8 ((rd_T37 ((rd_T27 l0 x10_1).f4) x12_2).f1))) (fun _ hk => hk.2) (.int .i64 ((rd_T37 ((rd_T27 l0 x10_1).f4) x12_2).f2))) (fun _ h_ => h_.1))) gb547 (Nat.le_of_eq hg.symm)) hb); have n1_ := Aside0.mk (Kd.R_below (Kd.R_elderB (by (with_reducible repeat (first | apply Kd.R_alloc | apply Kd.R_drewN | apply Kd.R_drew)); exact (Kd.R_mono (Kd.R_far (p := ⟨gb546, 2, none⟩) (Kd.R_far (p := ⟨gb546, 1, none⟩) (Kd.R_far (p := ⟨gb546, 0, none⟩) (Kd.R_types HO_11.out BK546.out (by decide)) (fun _ hk => hk.2) (.string ((rd_T37 ((rd_T27 l0 x10_1).f4) x12_2).f0))) (fun _ hk => hk.2) (.int .i8 ((rd_T37 ((rd_T27 l0 x10_1).f4) x12_2).f1))) (fun _ hk => hk.2) (.int .i64 ((rd_T37 ((rd_T27 l0 x10_1).f4) x12_2).f2))) (fun _ h_ => h_.1))) gb547 (Nat.le_of_eq hg.symm)) hb); have n2_ := Aside0.mk (blk_below (g := gb546) (o := .cells #[.string ((rd_T37 ((rd_T27 l0 x10_1).f4) x12_2).f0), .int .i8 ((rd_T37 ((rd_T27 l0 x10_1).f4) x12_2).f1), .int .i64 ((rd_T37 ((rd_T27 l0 x10_1).f4) x12_2).f2)] 37 (0, 0)) (by refine blk_put (cs := #[.string ((rd_T37 ((rd_T27 l0 x10_1).f4) x12_2).f0), .int .i8 ((rd_T37 ((rd_T27 l0 x10_1).f4) x12_2).f1), .int .i64 0]) ?_ 2 _ rfl; refine blk_put (cs := #[.string ((rd_T37 ((rd_T27 l0 x10_1).f4) x12_2).f0), .int .i8 0, .int .i64 0]) ?_ 1 _ rfl; refine blk_put (cs := #[.string (⟨#[]⟩ : ByteArray), .int .i8 0, .int .i64 0]) ?_ 0 _ rfl; exact BK546.out) hb); have n3_ := Aside0.mk (bs1Q hb (by repeat with_reducible first | exact HB.out | apply pw_below_drewN | apply below_drew1 | refine below_set ?_ GE546.out)); have n4_ := Aside0.mk (hbox); have n5_ := Aside0.mk (gw1Q hg (by repeat with_reducible first | exact HB.out | apply pw_below_drewN | apply below_drew1 | refine below_set ?_ GE546.out)); have n6_ := Aside0.mk (gw1Q hg (by repeat with_reducible first | exact HB.out | apply pw_below_drewN | apply below_drew1 | refine below_set ?_ GE546.out)); have n7_ := Aside0.mk ((by rw [hg]; exact Nat.ne_of_lt (blk_lt (g := gb546) (o := .cells #[.string ((rd_T37 ((rd_T27 l0 x10_1).f4) x12_2).f0), .int .i8 ((rd_T37 ((rd_T27 l0 x10_1).f4) x12_2).f1), .int .i64 ((rd_T37 ((rd_T27 l0 x10_1).f4) x12_2).f2)] 37 (0, 0)) (by refine blk_put (cs := #[.string ((rd_T37 ((rd_T27 l0 x10_1).f4) x12_2).f0), .int .i8 ((rd_T37 ((rd_T27 l0 x10_1).f4) x12_2).f1), .int .i64 0]) ?_ 2 _ rfl; refine blk_put (cs := #[.string ((rd_T37 ((rd_T27 l0 x10_1).f4) x12_2).f0), .int .i8 0, .int .i64 0]) ?_ 1 _ rfl; refine blk_put (cs := #[.string (⟨#[]⟩ : ByteArray), .int .i8 0, .int .i64 0]) ?_ 0 _ rfl; exact BK546.out)) : gb546 ≠ gb547)); have n8_ := Aside0.mk ((by rw [hg]; exact Nat.ne_of_gt (blk_lt (g := gb546) (o := .cells #[.string ((rd_T37 ((rd_T27 l0 x10_1).f4) x12_2).f0), .int .i8 ((rd_T37 ((rd_T27 l0 x10_1).f4) x12_2).f1), .int .i64 ((rd_T37 ((rd_T27 l0 x10_1).f4) x12_2).f2)] 37 (0, 0)) (by refine blk_put (cs := #[.string ((rd_T37 ((rd_T27 l0 x10_1).f4) x12_2).f0), .int .i8 ((rd_T37 ((rd_T27 l0 x10_1).f4) x12_2).f1), .int .i64 0]) ?_ 2 _ rfl; refine blk_put (cs := #[.string ((rd_T37 ((rd_T27 l0 x10_1).f4) x12_2).f0), .int .i8 0, .int .i64 0]) ?_ 1 _ rfl; refine blk_put (cs := #[.string (⟨#[]⟩ : ByteArray), .int .i8 0, .int .i64 0]) ?_ 0 _ rfl; exact BK546.out)) : gb547 ≠ gb546)); clear HO_9; clear HO_11; clear BK546; clear HB; have HO_9 := n0_; have HO_11 := n1_; have BK546 := n2_; have HB := n3_; have BK547 := n4_; have GW547 := n5_; have GE547 := n6_; have NB546_547 := n7_; have NB547_546 := n8_; clear n0_ n1_ n2_ n3_ n4_ n5_ n6_ n7_ n8_; clear hb hbox hg; have hnb27 := NB547_546.out; have hnc27 := NB546_547.out; obtain ⟨hcz28_0, hcz28_1⟩ := bcQ2 BK547.out; obtain ⟨hfz28_0, hfz28_1⟩ := fzQ2 BK547.out; obtain ⟨hcz29_0, hcz29_1, hcz29_2⟩ := bcQ3 BK546.out; obtain ⟨hfz29_0, hfz29_1, hfz29_2⟩ := fzQ3 BK546.out) | ((with_reducible refine gate_callee (f := 19) rfl ?_); refine goesL_ (some 72) rfl rfl Try.func19 (by kernel_rfl) rfl #[.slice (some ad543) l0.length c0, .string ((rd_T37 ((rd_T27 l0 x10_1).f4) x12_2).f0)] rfl (by (try simp only [List.map_toArray, List.map_cons, List.map_nil]); try rfl) ?_; (with_reducible refine (pleatref08_Find.calls k2 _ _ l0 ((rd_T37 ((rd_T27 l0 x10_1).f4) x12_2).f0) t551 t552 t553 _ ?side1 ?side2 A22.out).mono ?_); (case side1 => exact Kd.C_below HR0.out (by repeat with_reducible first | exact HB.out | apply pw_below_drewN | apply below_drew1 | refine below_set ?_ GE546.out | refine below_set ?_ GE547.out)); (case side2 => exact HC0.out); rintro e w30 ⟨rfl, hb⟩; refine ⟨_, rfl, ?_⟩; have n0_ := Aside0.mk (Kd.S_below (by (with_reducible repeat (first | apply Kd.S_alloc | apply Kd.S_drewN | apply Kd.S_drew)); exact (Kd.S_mono (Kd.S_far (p := ⟨gb547, 1, none⟩) (Kd.S_far (p := ⟨gb547, 0, none⟩) (Kd.S_mono HO_9.out (fun k_ hk => (⟨hk, hk.2⟩ : _ ∧ k_ ≠ gb547))) (fun _ hk => hk.2) (.int .i64 x10_1)) (fun _ hk => hk.2) (.int .i64 ((rd_T37 ((rd_T27 l0 x10_1).f4) x12_2).f2))) (fun _ h_ => h_.1))) hb); have n1_ := Aside0.mk (Kd.R_below (by (with_reducible repeat (first | apply Kd.R_alloc | apply Kd.R_drewN | apply Kd.R_drew)); exact (Kd.R_mono (Kd.R_far (p := ⟨gb547, 1, none⟩) (Kd.R_far (p := ⟨gb547, 0, none⟩) (Kd.R_mono HO_11.out (fun k_ hk => (⟨hk, hk.2⟩ : _ ∧ k_ ≠ gb547))) (fun _ hk => hk.2) (.int .i64 x10_1)) (fun _ hk => hk.2) (.int .i64 ((rd_T37 ((rd_T27 l0 x10_1).f4) x12_2).f2))) (fun _ h_ => h_.1))) hb); have n2_ := Aside0.mk (blk_below (g := gb546) (o := .cells #[.string ((rd_T37 ((rd_T27 l0 x10_1).f4) x12_2).f0), .int .i8 ((rd_T37 ((rd_T27 l0 x10_1).f4) x12_2).f1), .int .i64 ((rd_T37 ((rd_T27 l0 x10_1).f4) x12_2).f2)] 37 (0, 0)) (by refine blk_far ?_ NB546_547.out _; refine blk_far ?_ NB546_547.out _; exact BK546.out) hb); have n3_ := Aside0.mk (blk_below (g := gb547) (o := .cells #[.int .i64 x10_1, .int .i64 ((rd_T37 ((rd_T27 l0 x10_1).f4) x12_2).f2)] 57 (0, 0)) (by refine blk_put (cs := #[.int .i64 x10_1, .int .i64 0]) ?_ 1 _ rfl; refine blk_put (cs := #[.int .i64 0, .int .i64 0]) ?_ 0 _ rfl; exact BK547.out) hb); have n4_ := Aside0.mk (bs1Q hb (by repeat with_reducible first | exact HB.out | apply pw_below_drewN | apply below_drew1 | refine below_set ?_ GE546.out | refine below_set ?_ GE547.out)); clear HO_9; clear HO_11; clear BK546; clear BK547; clear HB; have HO_9 := n0_; have HO_11 := n1_; have BK546 := n2_; have BK547 := n3_; have HB := n4_; clear n0_ n1_ n2_ n3_ n4_; (try clear hb); (try clear hb2); (try clear hk); (try clear hi); obtain ⟨hcz31_0, hcz31_1⟩ := bcQ2 BK547.out; obtain ⟨hfz31_0, hfz31_1⟩ := fzQ2 BK547.out) | ((with_reducible refine gate_builtin (b := .append) (xs := #[.tmp 75, .tmp 77]) rfl ?_); at_builtin; refine Kd.R_append k57 (w0 := w) w.heap.size rfl (.tmp 75) (.tmp 77) 88 57 (.agg #[(.int .i64 0), (.int .i64 0)]) 16 rfl Try.underlying88 info57 rfl (by decide) (by omega) u11 x11_2 (⟨t551, t552⟩ : S57) [.int .i64 t551, .int .i64 t552] (fun k_ => k_ ≠ gb547) (fun _ => False) rfl (by first | (go_simp; done) | (go_simp; rfl)) ?aP (fun _ hk => hk.elim) ?aF ?aO ?aB ?aS ?aL ?_; (case aP => exact k57_mkM _ _ _ (⟨t551, t552⟩ : S57)); (case aB => exact (by repeat with_reducible first | exact HB.out | apply pw_below_drewN | apply below_drew1 | refine below_set ?_ GE546.out | refine below_set ?_ GE547.out)); (case aF => exact (fun k_ hk => Kd.freshB (g := gb547) (o := .cells #[.int .i64 t551, .int .i64 t552] 57 (0, 0)) (by refine blk_put (cs := #[.int .i64 t551, .int .i64 ((rd_T37 ((rd_T27 l0 x10_1).f4) x12_2).f2)]) ?_ 1 _ rfl; refine blk_put (cs := #[.int .i64 x10_1, .int .i64 ((rd_T37 ((rd_T27 l0 x10_1).f4) x12_2).f2)]) ?_ 0 _ rfl; exact BK547.out) k_ hk)); (case aO => exact (by (with_reducible repeat (first | apply Kd.R_alloc | apply Kd.R_drewN | apply Kd.R_drew)); exact Kd.R_mono (Kd.R_far (p := ⟨gb547, 1, none⟩) (Kd.R_far (p := ⟨gb547, 0, none⟩) (Kd.R_mono HO_11.out (fun k_ hk => (⟨hk, hk.2⟩ : _ ∧ k_ ≠ gb547))) (fun _ hk => hk.2) (.int .i64 t551)) (fun _ hk => hk.2) (.int .i64 t552)) (fun _ hk => hk.1.2))); (case aS => exact (below_size (by repeat with_reducible first | exact HB.out | apply pw_below_drewN | apply below_drew1 | refine below_set ?_ GE546.out | refine below_set ?_ GE547.out))); (case aL => have := LMc23.out; omega); intro v555 w32 ho hb hg hat; rw [← Ny554.out] at ho; have n0_ := Aside0.mk (Kd.S_after (ok := (fun k_ => k_ ≠ gb547)) (by (with_reducible repeat (first | apply Kd.S_alloc | apply Kd.S_drewN | apply Kd.S_drew)); exact Kd.S_mono (Kd.S_far (p := ⟨gb547, 1, none⟩) (Kd.S_far (p := ⟨gb547, 0, none⟩) (Kd.S_mono HO_9.out (fun k_ hk => (⟨hk, hk.2⟩ : _ ∧ k_ ≠ gb547))) (fun _ hk => hk.2) (.int .i64 t551)) (fun _ hk => hk.2) (.int .i64 t552)) (fun _ hk => ⟨hk.1.2, hk.1.1⟩)) hg hat); have n1_ := Aside0.mk (blk_grown (g := gb546) (o := .cells #[.string ((rd_T37 ((rd_T27 l0 x10_1).f4) x12_2).f0), .int .i8 ((rd_T37 ((rd_T27 l0 x10_1).f4) x12_2).f1), .int .i64 ((rd_T37 ((rd_T27 l0 x10_1).f4) x12_2).f2)] 37 (0, 0)) (by refine blk_far ?_ NB546_547.out _; refine blk_far ?_ NB546_547.out _; exact BK546.out) hg (Kd.R_ne HO_11.out BK546.out (by decide))); have n2_ := Aside0.mk (blk_grown (g := gb547) (o := .cells #[.int .i64 t551, .int .i64 t552] 57 (0, 0)) (by refine blk_put (cs := #[.int .i64 t551, .int .i64 ((rd_T37 ((rd_T27 l0 x10_1).f4) x12_2).f2)]) ?_ 1 _ rfl; refine blk_put (cs := #[.int .i64 x10_1, .int .i64 ((rd_T37 ((rd_T27 l0 x10_1).f4) x12_2).f2)]) ?_ 0 _ rfl; exact BK547.out) hg (Kd.R_away HO_11.out (fun _ hk => hk.2))); have n3_ := Aside0.mk (hb); have n4_ := Aside0.mk (ho); clear HO_9; clear BK546; clear BK547; clear HB; clear HO_11; have HO_9 := n0_; have BK546 := n1_; have BK547 := n2_; have HB := n3_; have HO556 := n4_; clear n0_ n1_ n2_ n3_ n4_; clear ho hb hg hat))
              go_roundg k2
              case measure => have := HK1.out; have := HK2.out; omega
              case rel => exact ⟨(y554), (wrap64 (x12_2 + 1)), (by first | rfl | (simp; done) | (simp [*]; done)), H', ⟨by have := HK1.out; have := HK2.out; omega⟩, ⟨by (with_reducible repeat (first | apply Kd.S_alloc | apply Kd.S_drewN | apply Kd.S_drew)); exact Kd.S_mono HO_9.out (fun _ hk => hk.2)⟩, ⟨by (with_reducible repeat (first | apply Kd.R_alloc | apply Kd.R_drewN | apply Kd.R_drew)); exact Kd.R_mono HO556.out (fun _ hk => trivial)⟩, ⟨by repeat with_reducible first | exact HB.out | apply pw_below_drewN | apply below_drew1 | refine below_set ?_ GE546.out | refine below_set ?_ GE547.out⟩⟩
             ·
              rw [if_neg c23] at H
              exact absurd H (by simp)
           ·
            rw [if_neg c12] at H
            exact absurd H (by simp)
          ·
           rw [if_neg c11] at H
           have c11b0 : decide (x12_2 < (((rd_T27 l0 x10_1).f4).length : Int)) = false := decide_eq_false c11
           clear c11
           by_cases c33 : x9_1.length < 5864062014805
           ·
            rw [if_pos c33] at H
            have LMc33 := Aside0.mk c33
            clear c33
            obtain ⟨y557, hy557⟩ : ∃ y_ : List (List (S57)), y_ = (x9_1 ++ [x11_2]) := ⟨_, rfl⟩
            replace H : (pleatref08_Resolve.l0 k2 l0 y557 (wrap64 (x10_1 + 1))) = some (r1, r2, r3, r4) := by first | (rw [hy557]; with_reducible exact H) | (have H2_ := (Option.bind_some _ _).symm.trans H; rw [hy557]; with_reducible exact H2_) | (have H2_ := (Option.bind_some _ _).symm.trans H; with_reducible exact H2_) | with_reducible exact H | (rw [hy557]; exact H) | exact H
            have Ny557 := Aside0.mk hy557
            clear hy557
            have H' := Aside0.mk H
            clear H
            have p543 : 0 ≤ (x10_1 : Int) := of_decide_eq_true ‹_›
            have q543 : x10_1 < (l0.length : Int) := of_decide_eq_true ‹_›
            obtain ⟨ad543, A543_1, c543_1, A543_3, c543_3, A543_4, c543_4, A543_5, c543_5, e543, hx543_0, hx543_1, hx543_2, hx543_3, hx543_4, hx543_5, -, -, -, -, -, -, -, -⟩ := atQ27 HR0.out HB.out x10_1 p543 q543
            cases e543
            replace p543 := eq_true p543
            replace q543 := eq_true q543
            obtain ⟨Ao35, co35, eo35⟩ := Kd.R_slice HO_11.out
            subst eo35
            go_wp2_with (first | ((with_reducible refine gate_builtin (b := .append) (xs := #[.tmp 79, .tmp 81]) rfl ?_); at_builtin; refine Kd.S_append (Kd.slice 57 k57) (w0 := w) w.heap.size rfl (.tmp 79) (.tmp 81) 50 88 (.slice none 0 0) 24 rfl Try.underlying50 info88 rfl (by decide) (by omega) u9 x9_1 x11_2 [.slice Ao35 x11_2.length co35] (fun _ => True) (fun k_ => some k_ = (.slice Ao35 x11_2.length co35 : Value).ownBlock) rfl rfl ?aP (fun k_ hk_ => ((Kd.R_mono (ok' := fun k_ => ((fun _ => True)) k_ ∧ some k_ ≠ (u9 : Value).ownBlock) (Kd.R_apart' (HO_11.out) (Kd.S_typed HO_9.out) (by decide)) (fun k_ hk => ⟨trivial, hk.2⟩))).1 k_ hk_.symm) ?aF ?aO ?aB ?aS ?aL ?_; (case aP => exact Kd.M_row (Kd.R_mono (Kd.R_tight rfl (Kd.R_mono (ok' := fun k_ => ((fun _ => True)) k_ ∧ some k_ ≠ (u9 : Value).ownBlock) (Kd.R_apart' (HO_11.out) (Kd.S_typed HO_9.out) (by decide)) (fun k_ hk => ⟨trivial, hk.2⟩))) (fun _ h_ => h_))); (case aB => exact (bwQ HB.out)); (case aF => exact (fun _ _ => trivial)); (case aO => exact (by (with_reducible repeat (first | apply Kd.S_alloc | apply Kd.S_drewN | apply Kd.S_drew)); exact Kd.S_mono HO_9.out (fun k_ hk => ⟨trivial, fun e_ => hk e_⟩))); (case aS => exact (below_size (bwQ HB.out))); (case aL => have := LMc33.out; omega); intro v558 w34 ho hb hg hat; rw [← Ny557.out] at ho; replace HB := Aside0.mk (hb); have HO559 := Aside0.mk (ho); clear HO_9; clear HO_11; clear ho hb hg hat))
            go_roundg k2
            case measure => have := HK1.out; have := HK2.out; omega
            case rel => exact ⟨(y557), (wrap64 (x10_1 + 1)), (by first | rfl | (simp; done) | (simp [*]; done)), H', ⟨by have := HK1.out; have := HK2.out; omega⟩, ⟨by (with_reducible repeat (first | apply Kd.S_alloc | apply Kd.S_drewN | apply Kd.S_drew)); exact HO559.out⟩, ⟨bwQ HB.out⟩⟩
           ·
            rw [if_neg c33] at H
            exact absurd H (by simp)
         ·
          rw [if_neg c10] at H
          exact absurd H (by simp)
        ·
         rw [if_neg c9] at H
         exact absurd H (by simp)
     ·
      rw [if_neg c8] at H
      have c8b0 : decide (x10_1 < (l0.length : Int)) = false := decide_eq_false c8
      clear c8
      simp only [Option.some.injEq, Prod.mk.injEq] at H
      obtain ⟨rfl, rfl, rfl, rfl⟩ := H
      go_wp2
      refine bodyPost_ret (results_list (rs := [.tmp 2, .tmp 3, .tmp 4, .tmp 5]) rfl (by simp) (.tmp (.tmp (.tmp (.tmp .nil))))) rfl ?_
      exact ⟨_, by first | rfl | (simp [errW_none, errW_some] <;> rfl) | (simp [*, errW_none, errW_some] <;> rfl), by (with_reducible repeat (first | apply Kd.S_alloc | apply Kd.S_drewN | apply Kd.S_drew)); exact HO_9.out, bwQ HB.out⟩
  ·
   rw [if_neg c5] at H
   have c5b0 : (t540 == 0) = false := beq_eq_false_iff_ne.mpr c5
   have c5b1 : (t540 != 0) = true := bne_iff_ne.mpr c5
   simp only [Option.some.injEq, Prod.mk.injEq] at H
   obtain ⟨rfl, rfl, rfl, rfl⟩ := H
   go_enter Try.func17, Try.ntmps17
   go_wp2_with (first | ((with_reducible refine gate_callee (f := 43) rfl ?_); refine goesL_ (some 17) rfl rfl Try.func43 (by kernel_rfl) rfl #[.slice A0 l0.length c0] rfl (by (try simp only [List.map_toArray, List.map_cons, List.map_nil]); try rfl) ?_; (with_reducible refine (pleatref08_check.calls k _ _ l0 t537 t538 t539 _ ?side1 ?side2 A2.out).mono ?_); (case side1 => repeat (first | exact HR0.out | (with_reducible refine Kd.C_alloc ?_ _) | (with_reducible refine Kd.C_drewN ?_ _) | (with_reducible refine Kd.C_drew ?_))); (case side2 => exact HC0.out); rintro e w36 ⟨rfl, hb⟩; refine ⟨_, rfl, ?_⟩; replace HB := Aside0.mk (bsQ hb HB.out); (try clear hb); (try clear hb2); (try clear hk); (try clear hi)) | ((with_reducible refine gate_callee (f := 44) rfl ?_); refine goesL_ (some 28) rfl rfl Try.func44 (by kernel_rfl) rfl #[.slice A0 l0.length c0] rfl (by (try simp only [List.map_toArray, List.map_cons, List.map_nil]); try rfl) ?_; (with_reducible refine (pleatref08_names.calls k _ _ l0 t540 t541 t542 _ ?side1 ?side2 A4.out).mono ?_); (case side1 => exact cbQ HB.out HR0.out); (case side2 => exact HC0.out); rintro e w37 ⟨rfl, hb⟩; refine ⟨_, rfl, ?_⟩; replace HB := Aside0.mk (bsQ hb HB.out); (try clear hb); (try clear hb2); (try clear hk); (try clear hi)))
   refine bodyPost_ret (results_list (rs := [.tmp 2, .tmp 3, .tmp 4, .tmp 5]) rfl (by simp) (.tmp (.tmp (.tmp (.tmp .nil))))) rfl ?_
   exact ⟨_, by first | rfl | (simp [errW_none, errW_some] <;> rfl) | (simp [*, errW_none, errW_some] <;> rfl), by first | exact Kd.S_nil _ _ _ _ _ | exact Kd.N_nil _ _ _ _ _ | exact Kd.V_nil _ _ _ _ _ | exact Kd.Q_nil _ _ _ _ _ | exact Kd.R_nil _ _ _ _ _, bwQ HB.out⟩
 ·
  rw [if_neg c3] at H
  have c3b0 : (t537 == 0) = false := beq_eq_false_iff_ne.mpr c3
  have c3b1 : (t537 != 0) = true := bne_iff_ne.mpr c3
  simp only [Option.some.injEq, Prod.mk.injEq] at H
  obtain ⟨rfl, rfl, rfl, rfl⟩ := H
  go_enter Try.func17, Try.ntmps17
  go_wp2_with (first | ((with_reducible refine gate_callee (f := 43) rfl ?_); refine goesL_ (some 17) rfl rfl Try.func43 (by kernel_rfl) rfl #[.slice A0 l0.length c0] rfl (by (try simp only [List.map_toArray, List.map_cons, List.map_nil]); try rfl) ?_; (with_reducible refine (pleatref08_check.calls k _ _ l0 t537 t538 t539 _ ?side1 ?side2 A2.out).mono ?_); (case side1 => repeat (first | exact HR0.out | (with_reducible refine Kd.C_alloc ?_ _) | (with_reducible refine Kd.C_drewN ?_ _) | (with_reducible refine Kd.C_drew ?_))); (case side2 => exact HC0.out); rintro e w38 ⟨rfl, hb⟩; refine ⟨_, rfl, ?_⟩; replace HB := Aside0.mk (bsQ hb HB.out); (try clear hb); (try clear hb2); (try clear hk); (try clear hi)))
  refine bodyPost_ret (results_list (rs := [.tmp 2, .tmp 3, .tmp 4, .tmp 5]) rfl (by simp) (.tmp (.tmp (.tmp (.tmp .nil))))) rfl ?_
  exact ⟨_, by first | rfl | (simp [errW_none, errW_some] <;> rfl) | (simp [*, errW_none, errW_some] <;> rfl), by first | exact Kd.S_nil _ _ _ _ _ | exact Kd.N_nil _ _ _ _ _ | exact Kd.V_nil _ _ _ _ _ | exact Kd.Q_nil _ _ _ _ _ | exact Kd.R_nil _ _ _ _ _, bwQ HB.out⟩
end Go.Proofs.Ytiaohbbafaaibab.P
