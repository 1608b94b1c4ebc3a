/- OWN TEXT and printed parts of this claim, laid together: P34. -/
import Derived.Test.YtiaohbbafaaibaaZtM0
import Derived.Test.YtiaohbbafaaibaaZtM8
/- What the Go functions named below come to, as plain functions, each with its proof; written by this session's prt.py over the kit's print. -/
namespace Go.Proofs.Ytiaohbbafaaibaa.P
open Go.RowKit Go.Proofs.YtiaohbbafaaibaaW.PrintWords Go.Proofs.YtiaohbbafaaibaaW.PrintLast Go.Proofs.YtiaohbbafaaibaaW.PrintMore
attribute [local go_sem] max2_int min2_int max_two min_two max_three min_three max_four min_four   -- for this text's walks alone
set_option linter.unusedVariables false
set_option linter.unusedSimpArgs false
/-! ### pleatref03_symbols: function 116 -/
mutual
def pleatref03_symbols.l0 : Nat → Int → ByteArray → List Int → Int → List Int → List (S120) → List (S130) → Option (Int × Int)
 | 0, _, _, _, _, _, _, _ => none
 | k + 1, x4, x728000, x728001, x728002, x728003, x728004, x728005 => if x4 < (x728004.length : Int) then (if 0 ≤ x4 then ((pleatref03_Name.f k ((rd_T120 x728004 x4).f0)).bind fun t730 => (if t730 = true then ((pleatref03_Of.f k x728000 x728001 x728002 x728003 x728004 x728005 ((rd_T120 x728004 x4).f0)).bind fun t731 => (if t731 = x4 then (if ((rd_T120 x728004 x4).f1) < 0 then (pleatref03_symbols.j1 k x4 true x728000 x728001 x728002 x728003 x728004 x728005 ((rd_T120 x728004 x4).f0) ((rd_T120 x728004 x4).f1) ((rd_T120 x728004 x4).f2)) else (pleatref03_symbols.j1 k x4 (decide (((rd_T120 x728004 x4).f1) > 3)) x728000 x728001 x728002 x728003 x728004 x728005 ((rd_T120 x728004 x4).f0) ((rd_T120 x728004 x4).f1) ((rd_T120 x728004 x4).f2))) else (some (26, x4)))) else (some (20, x4)))) else (none)) else (some (0, 0))
def pleatref03_symbols.j1 : Nat → Int → Bool → ByteArray → List Int → Int → List Int → List (S120) → List (S130) → ByteArray → Int → Int → Option (Int × Int)
 | 0, _, _, _, _, _, _, _, _, _, _, _ => none
 | k + 1, x4, x37, x728000, x728001, x728002, x728003, x728004, x728005, x730000, x730001, x730002 => if x37 = true then (some (23, x4)) else (if x730002 < 0 then (some (22, x4)) else (if x730002 > (x728001.length : Int) then (some (22, x4)) else (if x730001 = 3 then (if x730002 = 0 then (pleatref03_symbols.l0 k (wrap64 (x4 + 1)) x728000 x728001 x728002 x728003 x728004 x728005) else (some (22, x4))) else (pleatref03_symbols.l0 k (wrap64 (x4 + 1)) x728000 x728001 x728002 x728003 x728004 x728005))))
end
def pleatref03_symbols.f (k : Nat) (a0_0 : ByteArray) (l0_1 : List Int) (a0_2 : Int) (l0_3 : List Int) (l0_4 : List (S120)) (l0_5 : List (S130)) : Option (Int × Int) := pleatref03_symbols.l0 k 0 a0_0 l0_1 a0_2 l0_3 l0_4 l0_5
theorem pleatref03_symbols.mono_l : ∀ k, (∀ y0 y1 y2 y3 y4 y5 y6, LeO (pleatref03_symbols.l0 k y0 y1 y2 y3 y4 y5 y6) (pleatref03_symbols.l0 (k + 1) y0 y1 y2 y3 y4 y5 y6)) ∧ (∀ y0 y1 y2 y3 y4 y5 y6 y7 y8 y9 y10, LeO (pleatref03_symbols.j1 k y0 y1 y2 y3 y4 y5 y6 y7 y8 y9 y10) (pleatref03_symbols.j1 (k + 1) y0 y1 y2 y3 y4 y5 y6 y7 y8 y9 y10))
 | 0 => ⟨fun _ _ _ _ _ _ _ r h => by simp [pleatref03_symbols.l0] at h, fun _ _ _ _ _ _ _ _ _ _ _ r h => by simp [pleatref03_symbols.j1] at h⟩
 | k + 1 => by
  obtain ⟨ih0, ih1⟩ := pleatref03_symbols.mono_l k
  refine ⟨?_, ?_⟩
  ·
   intro y0 y1 y2 y3 y4 y5 y6
   unfold pleatref03_symbols.l0
   repeat' first
   | (with_reducible exact ih0 _ _ _ _ _ _ _)
   | (with_reducible exact ih1 _ _ _ _ _ _ _ _ _ _ _)
   | (with_reducible exact pleatref03_Name.mono _ _)
   | (with_reducible exact pleatref03_Of.mono _ _ _ _ _ _ _ _)
   | (with_reducible exact LeO.refl _)
   | (with_reducible exact LeO.none _)
   | (with_reducible refine LeO.ite ?_ ?_)
   | (with_reducible refine LeO.bind ?_ (fun _ => ?_))
   | exact ih0 _ _ _ _ _ _ _
   | exact ih1 _ _ _ _ _ _ _ _ _ _ _
   | exact pleatref03_Name.mono _ _
   | exact pleatref03_Of.mono _ _ _ _ _ _ _ _
   | exact LeO.none _
   | refine LeO.ite ?_ ?_
   | refine LeO.bind ?_ (fun _ => ?_)
  ·
   intro y0 y1 y2 y3 y4 y5 y6 y7 y8 y9 y10
   unfold pleatref03_symbols.j1
   repeat' first
   | (with_reducible exact ih0 _ _ _ _ _ _ _)
   | (with_reducible exact ih1 _ _ _ _ _ _ _ _ _ _ _)
   | (with_reducible exact pleatref03_Name.mono _ _)
   | (with_reducible exact pleatref03_Of.mono _ _ _ _ _ _ _ _)
   | (with_reducible exact LeO.refl _)
   | (with_reducible exact LeO.none _)
   | (with_reducible refine LeO.ite ?_ ?_)
   | (with_reducible refine LeO.bind ?_ (fun _ => ?_))
   | exact ih0 _ _ _ _ _ _ _
   | exact ih1 _ _ _ _ _ _ _ _ _ _ _
   | exact pleatref03_Name.mono _ _
   | exact pleatref03_Of.mono _ _ _ _ _ _ _ _
   | exact LeO.none _
   | refine LeO.ite ?_ ?_
   | refine LeO.bind ?_ (fun _ => ?_)
theorem pleatref03_symbols.mono : ∀ a0 a1 a2 a3 a4 a5 k, LeO (pleatref03_symbols.f k a0 a1 a2 a3 a4 a5) (pleatref03_symbols.f (k + 1) a0 a1 a2 a3 a4 a5) := by
 intro a0 a1 a2 a3 a4 a5 k
 obtain ⟨ih0, ih1⟩ := pleatref03_symbols.mono_l k
 unfold pleatref03_symbols.f
 repeat' first
   | (with_reducible exact ih0 _ _ _ _ _ _ _)
   | (with_reducible exact ih1 _ _ _ _ _ _ _ _ _ _ _)
   | (with_reducible exact pleatref03_Name.mono _ _)
   | (with_reducible exact pleatref03_Of.mono _ _ _ _ _ _ _ _)
   | (with_reducible exact LeO.refl _)
   | (with_reducible exact LeO.none _)
   | (with_reducible refine LeO.ite ?_ ?_)
   | (with_reducible refine LeO.bind ?_ (fun _ => ?_))
   | exact ih0 _ _ _ _ _ _ _
   | exact ih1 _ _ _ _ _ _ _ _ _ _ _
   | exact pleatref03_Name.mono _ _
   | exact pleatref03_Of.mono _ _ _ _ _ _ _ _
   | exact LeO.none _
   | refine LeO.ite ?_ ?_
   | refine LeO.bind ?_ (fun _ => ?_)
set_option maxHeartbeats 8000000 in
set_option maxRecDepth 100000 in
theorem pleatref03_symbols.calls (k : Nat) (a0_0 : ByteArray) (A0_1 : Option Addr) (c0_1 : Nat) (l0_1 : List Int) (a0_2 : Int) (A0_3 : Option Addr) (c0_3 : Nat) (l0_3 : List Int) (A0_4 : Option Addr) (c0_4 : Nat) (l0_4 : List (S120)) (A0_5 : Option Addr) (c0_5 : Nat) (l0_5 : List (S130)) (r1 : Int) (r2 : Int) (w : World) (hr0_1 : Kd.C (Kd.int .u32) w A0_1 l0_1.length l0_1) (hc0_1 : l0_1.length ≤ c0_1) (hr0_3 : Kd.C (Kd.int .i64) w A0_3 l0_3.length l0_3) (hc0_3 : l0_3.length ≤ c0_3) (hr0_4 : Kd.C k120 w A0_4 l0_4.length l0_4) (hc0_4 : l0_4.length ≤ c0_4) (hr0_5 : Kd.C k130 w A0_5 l0_5.length l0_5) (hc0_5 : l0_5.length ≤ c0_5) (h : pleatref03_symbols.f k a0_0 l0_1 a0_2 l0_3 l0_4 l0_5 = some (r1, r2)) :
  Calls Try.prog 116 #[.agg #[.string a0_0, .slice A0_1 l0_1.length c0_1, .int .i64 a0_2, .slice A0_3 l0_3.length c0_3, .slice A0_4 l0_4.length c0_4, .slice A0_5 l0_5.length c0_5]] w fun e w' => e = .returned (.tuple #[.int .i64 r1, .int .i64 r2]) ∧ Below w.heap.size w w' := by
 have hu88 := Try.underlying88
 have hu120 := Try.underlying120
 have HR0_1 := Aside0.mk hr0_1
 have HC0_1 := Aside0.mk hc0_1
 clear hr0_1 hc0_1
 have HR0_3 := Aside0.mk hr0_3
 have HC0_3 := Aside0.mk hc0_3
 clear hr0_3 hc0_3
 have HR0_4 := Aside0.mk hr0_4
 have HC0_4 := Aside0.mk hc0_4
 clear hr0_4 hc0_4
 have HR0_5 := Aside0.mk hr0_5
 have HC0_5 := Aside0.mk hc0_5
 clear hr0_5 hc0_5
 have HB := Aside0.mk (Below.refl w.heap.size w)
 have H : (pleatref03_symbols.l0 k 0 a0_0 l0_1 a0_2 l0_3 l0_4 l0_5) = some (r1, r2) := h
 clear h
 have H' := Aside0.mk H
 clear H
 go_enter Try.func116, Try.ntmps116
 go_wp2_with (first | ((with_reducible refine gate_dst (N := 1) rfl ?_); (try (refine gate_guard (by rfl) ?_; dsimp only)); refine box_event ?hg (N := 1) ?hd (cs := #[.string a0_0, .slice A0_1 l0_1.length c0_1, .int .i64 a0_2, .slice A0_3 l0_3.length c0_3, .slice A0_4 l0_4.length c0_4, .slice A0_5 l0_5.length c0_5]) (t := 88) ?hr ?_; (case hd => rfl); (case hg => rfl); (case hr => first | (go_simp; done) | (go_simp; rfl)); intro gb727 hg w2 hbox hb; have n0_ := Aside0.mk (below_step (by repeat (first | (with_reducible first | exact HB.out | apply below_alloc | apply pw_below_drewN | apply below_drew1) | exact HB.out)) hb); have n1_ := Aside0.mk (hbox); have n2_ := Aside0.mk ((by rw [hg]; exact (below_size (by repeat (first | (with_reducible first | exact HB.out | apply below_alloc | apply pw_below_drewN | apply below_drew1) | exact HB.out))) : w.heap.size ≤ gb727)); have n3_ := Aside0.mk ((by rw [hg]; exact (below_size (by repeat (first | (with_reducible first | exact HB.out | apply below_alloc | apply pw_below_drewN | apply below_drew1) | exact HB.out))) : w.heap.size ≤ gb727)); clear HB; have HB := n0_; have BK727 := n1_; have GW727 := n2_; have GE727 := n3_; clear n0_ n1_ n2_ n3_; clear hb hbox hg))
 go_loopg [4] k (fun kq v4 w' => ∃ (x4_1 : Int), v4 = .int .i64 x4_1 ∧ Aside0 (pleatref03_symbols.l0 kq x4_1 a0_0 l0_1 a0_2 l0_3 l0_4 l0_5 = some (r1, r2)) ∧ Aside0 (kq ≤ k) ∧ Aside0 (w'.heap[gb727]? = some (.cells #[.string a0_0, (.slice A0_1 l0_1.length c0_1), .int .i64 a0_2, (.slice A0_3 l0_3.length c0_3), (.slice A0_4 l0_4.length c0_4), (.slice A0_5 l0_5.length c0_5)] 88 (0, 0))) ∧ Aside0 (Below w.heap.size w w'))
 case atStart => exact ⟨(0), (by first | rfl | (simp; done) | (simp [*]; done)), H', ⟨Nat.le_refl _⟩, ⟨by (with_reducible repeat (first | refine blk_drewN ?_ _ | refine blk_drew ?_ | refine blk_alloc ?_ _)); exact BK727.out⟩, ⟨by repeat (first | (with_reducible first | exact HB.out | apply below_alloc | apply pw_below_drewN | apply below_drew1 | refine below_set ?_ GE727.out) | exact HB.out)⟩⟩
 case round =>
  clear H'
  try clear c1
  try clear p2
  obtain ⟨x4_1, rfl, HA, HK1, BK727, HB⟩ := hrel
  cases gk with
  | zero => exact absurd HA.out (by simp [pleatref03_symbols.l0])
  | succ k1 =>
   have H := HA.out
   clear HA
   simp only [pleatref03_symbols.l0] at H
   by_cases c3 : x4_1 < (l0_4.length : Int)
   ·
    rw [if_pos c3] at H
    have c3b0 : decide (x4_1 < (l0_4.length : Int)) = true := decide_eq_true c3
    clear c3
    by_cases c4 : 0 ≤ x4_1
    ·
     rw [if_pos c4] at H
     have c4b0 : decide (0 ≤ x4_1) = true := decide_eq_true c4
     clear c4
     replace H := Option.bind_eq_some_iff.mp H
     obtain ⟨t730, A50, H⟩ := H
     try dsimp only at H
     have A5 := Aside0.mk A50
     clear A50
     by_cases c6 : t730 = true
     ·
      subst c6
      have H1 : ((pleatref03_Of.f k1 a0_0 l0_1 a0_2 l0_3 l0_4 l0_5 ((rd_T120 l0_4 x4_1).f0)).bind fun t731 => (if t731 = x4_1 then (if ((rd_T120 l0_4 x4_1).f1) < 0 then (pleatref03_symbols.j1 k1 x4_1 true a0_0 l0_1 a0_2 l0_3 l0_4 l0_5 ((rd_T120 l0_4 x4_1).f0) ((rd_T120 l0_4 x4_1).f1) ((rd_T120 l0_4 x4_1).f2)) else (pleatref03_symbols.j1 k1 x4_1 (decide (((rd_T120 l0_4 x4_1).f1) > 3)) a0_0 l0_1 a0_2 l0_3 l0_4 l0_5 ((rd_T120 l0_4 x4_1).f0) ((rd_T120 l0_4 x4_1).f1) ((rd_T120 l0_4 x4_1).f2))) else (some (26, x4_1)))) = some (r1, r2) := by rw [if_pos rfl] at H; exact H
      clear H
      have H := H1
      clear H1
      replace H := Option.bind_eq_some_iff.mp H
      obtain ⟨t731, A70, H⟩ := H
      try dsimp only at H
      have A7 := Aside0.mk A70
      clear A70
      by_cases c8 : t731 = x4_1
      ·
       rw [if_pos c8] at H
       have c8b0 : (t731 == x4_1) = true := beq_iff_eq.mpr c8
       have c8b1 : (t731 != x4_1) = false := bne_eq_false_iff_eq.mpr c8
       clear c8
       have HC9 := Aside0.mk H
       clear H
       have hcz10_0 : wr.cell? ⟨gb727, 0, none⟩ = some (.string a0_0) := (blk_cell BK727.out 0).trans rfl
       have hcz10_1 : wr.cell? ⟨gb727, 1, none⟩ = some (.slice A0_1 l0_1.length c0_1) := (blk_cell BK727.out 1).trans rfl
       have hcz10_2 : wr.cell? ⟨gb727, 2, none⟩ = some (.int .i64 a0_2) := (blk_cell BK727.out 2).trans rfl
       have hcz10_3 : wr.cell? ⟨gb727, 3, none⟩ = some (.slice A0_3 l0_3.length c0_3) := (blk_cell BK727.out 3).trans rfl
       have hcz10_4 : wr.cell? ⟨gb727, 4, none⟩ = some (.slice A0_4 l0_4.length c0_4) := (blk_cell BK727.out 4).trans rfl
       have hcz10_5 : wr.cell? ⟨gb727, 5, none⟩ = some (.slice A0_5 l0_5.length c0_5) := (blk_cell BK727.out 5).trans rfl
       have hfz10_0 := blk_frozen BK727.out 0
       have hfz10_1 := blk_frozen BK727.out 1
       have hfz10_2 := blk_frozen BK727.out 2
       have hfz10_3 := blk_frozen BK727.out 3
       have hfz10_4 := blk_frozen BK727.out 4
       have hfz10_5 := blk_frozen BK727.out 5
       have p728 : 0 ≤ (x4_1 : Int) := of_decide_eq_true (by first | (with_reducible assumption) | assumption)
       have q728 : x4_1 < (l0_4.length : Int) := of_decide_eq_true (by first | (with_reducible assumption) | assumption)
       obtain ⟨ad728, e728, hx728_0, hx728_1, hx728_2⟩ := at_T120 HR0_4.out x4_1 p728 q728
       cases e728
       replace hx728_0 := (HB.out.cell (World.block_lt_of_cell? w _ hx728_0)).trans hx728_0
       replace hx728_1 := (HB.out.cell (World.block_lt_of_cell? w _ hx728_1)).trans hx728_1
       replace hx728_2 := (HB.out.cell (World.block_lt_of_cell? w _ hx728_2)).trans hx728_2
       replace p728 := eq_true p728
       replace q728 := eq_true q728
       go_upto_region 9 with (first | ((with_reducible refine gate_dst (N := 5) rfl ?_); (try (refine gate_guard (by rfl) ?_; dsimp only)); refine box_event ?hg (N := 5) ?hd (cs := #[.string (⟨#[]⟩ : ByteArray), .int .i8 0, .int .i64 0]) (t := 120) ?hr ?_; (case hd => rfl); (case hg => rfl); (case hr => first | (go_simp; done) | (go_simp; rfl)); intro gb729 hg w11 hbox hb; have n0_ := Aside0.mk (blk_below (g := gb727) (o := .cells #[.string a0_0, .slice A0_1 l0_1.length c0_1, .int .i64 a0_2, .slice A0_3 l0_3.length c0_3, .slice (some ad728) l0_4.length c0_4, .slice A0_5 l0_5.length c0_5] 88 (0, 0)) (by (with_reducible repeat (first | refine blk_drewN ?_ _ | refine blk_drew ?_ | refine blk_alloc ?_ _)); exact BK727.out) hb); have n1_ := Aside0.mk (below_step (by repeat (first | (with_reducible first | exact HB.out | apply below_alloc | apply pw_below_drewN | apply below_drew1 | refine below_set ?_ GE727.out) | exact HB.out)) hb); have n2_ := Aside0.mk (hbox); have n3_ := Aside0.mk ((by rw [hg]; exact (below_size (by repeat (first | (with_reducible first | exact HB.out | apply below_alloc | apply pw_below_drewN | apply below_drew1 | refine below_set ?_ GE727.out) | exact HB.out))) : w.heap.size ≤ gb729)); have n4_ := Aside0.mk ((by rw [hg]; exact (below_size (by repeat (first | (with_reducible first | exact HB.out | apply below_alloc | apply pw_below_drewN | apply below_drew1 | refine below_set ?_ GE727.out) | exact HB.out))) : w.heap.size ≤ gb729)); have n5_ := Aside0.mk ((by rw [hg]; exact Nat.ne_of_lt (blk_lt (g := gb727) (o := .cells #[.string a0_0, .slice A0_1 l0_1.length c0_1, .int .i64 a0_2, .slice A0_3 l0_3.length c0_3, .slice (some ad728) l0_4.length c0_4, .slice A0_5 l0_5.length c0_5] 88 (0, 0)) (by (with_reducible repeat (first | refine blk_drewN ?_ _ | refine blk_drew ?_ | refine blk_alloc ?_ _)); exact BK727.out)) : gb727 ≠ gb729)); have n6_ := Aside0.mk ((by rw [hg]; exact Nat.ne_of_gt (blk_lt (g := gb727) (o := .cells #[.string a0_0, .slice A0_1 l0_1.length c0_1, .int .i64 a0_2, .slice A0_3 l0_3.length c0_3, .slice (some ad728) l0_4.length c0_4, .slice A0_5 l0_5.length c0_5] 88 (0, 0)) (by (with_reducible repeat (first | refine blk_drewN ?_ _ | refine blk_drew ?_ | refine blk_alloc ?_ _)); exact BK727.out)) : gb729 ≠ gb727)); clear BK727; clear HB; have BK727 := n0_; have HB := n1_; have BK729 := n2_; have GW729 := n3_; have GE729 := n4_; have NB727_729 := n5_; have NB729_727 := n6_; clear n0_ n1_ n2_ n3_ n4_ n5_ n6_; clear hb hbox hg; have hnb12 := NB729_727.out; have hnc12 := NB727_729.out; have hcz13_0 : w11.cell? ⟨gb729, 0, none⟩ = some (.string (⟨#[]⟩ : ByteArray)) := (blk_cell BK729.out 0).trans rfl; have hcz13_1 : w11.cell? ⟨gb729, 1, none⟩ = some (.int .i8 0) := (blk_cell BK729.out 1).trans rfl; have hcz13_2 : w11.cell? ⟨gb729, 2, none⟩ = some (.int .i64 0) := (blk_cell BK729.out 2).trans rfl; have hfz13_0 := blk_frozen BK729.out 0; have hfz13_1 := blk_frozen BK729.out 1; have hfz13_2 := blk_frozen BK729.out 2) | ((with_reducible refine gate_callee (f := 85) rfl ?_); refine goesL_ (some 20) rfl rfl Try.func85 (by kernel_rfl) rfl #[.string ((rd_T120 l0_4 x4_1).f0)] rfl (by (try simp only [List.map_toArray, List.map_cons, List.map_nil]); first | done | rfl | (simp only [List.length_drop, List.length_take]; rfl)) ?_; (with_reducible refine (pleatref03_Name.calls k1 ((rd_T120 l0_4 x4_1).f0) true _ A5.out).mono ?_); rintro e w' ⟨rfl, ⟨nd, rfl⟩⟩; refine ⟨_, rfl, ?_⟩; have hcz14_0 : w11.cell? ⟨gb727, 0, none⟩ = some (.string a0_0) := (blk_cell BK727.out 0).trans rfl; have hcz14_1 : w11.cell? ⟨gb727, 1, none⟩ = some (.slice A0_1 l0_1.length c0_1) := (blk_cell BK727.out 1).trans rfl; have hcz14_2 : w11.cell? ⟨gb727, 2, none⟩ = some (.int .i64 a0_2) := (blk_cell BK727.out 2).trans rfl; have hcz14_3 : w11.cell? ⟨gb727, 3, none⟩ = some (.slice A0_3 l0_3.length c0_3) := (blk_cell BK727.out 3).trans rfl; have hcz14_4 : w11.cell? ⟨gb727, 4, none⟩ = some (.slice (some ad728) l0_4.length c0_4) := (blk_cell BK727.out 4).trans rfl; have hcz14_5 : w11.cell? ⟨gb727, 5, none⟩ = some (.slice A0_5 l0_5.length c0_5) := (blk_cell BK727.out 5).trans rfl; have hfz14_0 := blk_frozen BK727.out 0; have hfz14_1 := blk_frozen BK727.out 1; have hfz14_2 := blk_frozen BK727.out 2; have hfz14_3 := blk_frozen BK727.out 3; have hfz14_4 := blk_frozen BK727.out 4; have hfz14_5 := blk_frozen BK727.out 5) | ((with_reducible refine gate_callee (f := 78) rfl ?_); refine goesL_ (some 26) rfl rfl Try.func78 (by kernel_rfl) rfl #[.agg #[.string a0_0, .slice A0_1 l0_1.length c0_1, .int .i64 a0_2, .slice A0_3 l0_3.length c0_3, .slice (some ad728) l0_4.length c0_4, .slice A0_5 l0_5.length c0_5], .string ((rd_T120 l0_4 x4_1).f0)] rfl (by (try simp only [List.map_toArray, List.map_cons, List.map_nil]); first | done | rfl | (simp only [List.length_drop, List.length_take]; rfl)) ?_; (with_reducible refine (pleatref03_Of.calls k1 a0_0 _ _ l0_1 a0_2 _ _ l0_3 _ _ l0_4 _ _ l0_5 ((rd_T120 l0_4 x4_1).f0) t731 _ ?side1 ?side2 ?side3 ?side4 ?side5 ?side6 ?side7 ?side8 A7.out).mono ?_); (case side1 => exact Kd.C_below HR0_1.out (by repeat (first | (with_reducible first | exact HB.out | apply below_alloc | apply pw_below_drewN | apply below_drew1 | refine below_set ?_ GE727.out | refine below_set ?_ GE729.out) | exact HB.out))); (case side2 => exact HC0_1.out); (case side3 => exact Kd.C_below HR0_3.out (by repeat (first | (with_reducible first | exact HB.out | apply below_alloc | apply pw_below_drewN | apply below_drew1 | refine below_set ?_ GE727.out | refine below_set ?_ GE729.out) | exact HB.out))); (case side4 => exact HC0_3.out); (case side5 => exact Kd.C_below HR0_4.out (by repeat (first | (with_reducible first | exact HB.out | apply below_alloc | apply pw_below_drewN | apply below_drew1 | refine below_set ?_ GE727.out | refine below_set ?_ GE729.out) | exact HB.out))); (case side6 => exact HC0_4.out); (case side7 => exact Kd.C_below HR0_5.out (by repeat (first | (with_reducible first | exact HB.out | apply below_alloc | apply pw_below_drewN | apply below_drew1 | refine below_set ?_ GE727.out | refine below_set ?_ GE729.out) | exact HB.out))); (case side8 => exact HC0_5.out); rintro e w15 ⟨rfl, hb⟩; refine ⟨_, rfl, ?_⟩; have n0_ := Aside0.mk (blk_below (g := gb727) (o := .cells #[.string a0_0, .slice A0_1 l0_1.length c0_1, .int .i64 a0_2, .slice A0_3 l0_3.length c0_3, .slice (some ad728) l0_4.length c0_4, .slice A0_5 l0_5.length c0_5] 88 (0, 0)) (by (with_reducible repeat (first | refine blk_drewN ?_ _ | refine blk_drew ?_ | refine blk_alloc ?_ _)); refine blk_far ?_ NB727_729.out _; (with_reducible repeat (first | refine blk_drewN ?_ _ | refine blk_drew ?_ | refine blk_alloc ?_ _)); refine blk_far ?_ NB727_729.out _; (with_reducible repeat (first | refine blk_drewN ?_ _ | refine blk_drew ?_ | refine blk_alloc ?_ _)); refine blk_far ?_ NB727_729.out _; (with_reducible repeat (first | refine blk_drewN ?_ _ | refine blk_drew ?_ | refine blk_alloc ?_ _)); exact BK727.out) hb); have n1_ := Aside0.mk (blk_below (g := gb729) (o := .cells #[.string ((rd_T120 l0_4 x4_1).f0), .int .i8 ((rd_T120 l0_4 x4_1).f1), .int .i64 ((rd_T120 l0_4 x4_1).f2)] 120 (0, 0)) (by (with_reducible repeat (first | refine blk_drewN ?_ _ | refine blk_drew ?_ | refine blk_alloc ?_ _)); refine blk_put (cs := #[.string ((rd_T120 l0_4 x4_1).f0), .int .i8 ((rd_T120 l0_4 x4_1).f1), .int .i64 0]) ?_ 2 _ rfl; (with_reducible repeat (first | refine blk_drewN ?_ _ | refine blk_drew ?_ | refine blk_alloc ?_ _)); refine blk_put (cs := #[.string ((rd_T120 l0_4 x4_1).f0), .int .i8 0, .int .i64 0]) ?_ 1 _ rfl; (with_reducible repeat (first | refine blk_drewN ?_ _ | refine blk_drew ?_ | refine blk_alloc ?_ _)); refine blk_put (cs := #[.string (⟨#[]⟩ : ByteArray), .int .i8 0, .int .i64 0]) ?_ 0 _ rfl; (with_reducible repeat (first | refine blk_drewN ?_ _ | refine blk_drew ?_ | refine blk_alloc ?_ _)); exact BK729.out) hb); have n2_ := Aside0.mk (below_step (by repeat (first | (with_reducible first | exact HB.out | apply below_alloc | apply pw_below_drewN | apply below_drew1 | refine below_set ?_ GE727.out | refine below_set ?_ GE729.out) | exact HB.out)) hb); clear BK727; clear BK729; clear HB; have BK727 := n0_; have BK729 := n1_; have HB := n2_; clear n0_ n1_ n2_; (try clear hb); (try clear hb2); (try clear hk); (try clear hi)))
       (try simp only [Act.put, List.setIfInBounds_toArray, List.set_cons_zero, List.set_cons_succ])
       go_cut [37] (fun v37 wc => ∃ (kq : Nat) (x37_8 : Bool), v37 = .bool x37_8 ∧ Aside0 (pleatref03_symbols.j1 kq x4_1 x37_8 a0_0 l0_1 a0_2 l0_3 l0_4 l0_5 ((rd_T120 l0_4 x4_1).f0) ((rd_T120 l0_4 x4_1).f1) ((rd_T120 l0_4 x4_1).f2) = some (r1, r2)) ∧ Aside0 (kq ≤ k1) ∧ Aside0 (wc.heap[gb727]? = some (.cells #[.string a0_0, (.slice A0_1 l0_1.length c0_1), .int .i64 a0_2, (.slice A0_3 l0_3.length c0_3), (.slice (some ad728) l0_4.length c0_4), (.slice A0_5 l0_5.length c0_5)] 88 (0, 0))) ∧ Aside0 (wc.heap[gb729]? = some (.cells #[.string ((rd_T120 l0_4 x4_1).f0), .int .i8 ((rd_T120 l0_4 x4_1).f1), .int .i64 ((rd_T120 l0_4 x4_1).f2)] 120 (0, 0))) ∧ Aside0 (Below w.heap.size w wc))
       case first =>
        have H := HC9.out
        clear HC9
        by_cases c16 : ((rd_T120 l0_4 x4_1).f1) < 0
        ·
         rw [if_pos c16] at H
         have c16b0 : decide (((rd_T120 l0_4 x4_1).f1) < 0) = true := decide_eq_true c16
         clear c16
         (first | rw [c16b0] | (simp only [i64_w, i32_w]; rw [c16b0]) | skip)
         have H' := Aside0.mk H
         clear H
         have hnb17 := NB729_727.out
         have hnc17 := NB727_729.out
         have hcz18_0 : w15.cell? ⟨gb729, 0, none⟩ = some (.string ((rd_T120 l0_4 x4_1).f0)) := (blk_cell BK729.out 0).trans rfl
         have hcz18_1 : w15.cell? ⟨gb729, 1, none⟩ = some (.int .i8 ((rd_T120 l0_4 x4_1).f1)) := (blk_cell BK729.out 1).trans rfl
         have hcz18_2 : w15.cell? ⟨gb729, 2, none⟩ = some (.int .i64 ((rd_T120 l0_4 x4_1).f2)) := (blk_cell BK729.out 2).trans rfl
         have hfz18_0 := blk_frozen BK729.out 0
         have hfz18_1 := blk_frozen BK729.out 1
         have hfz18_2 := blk_frozen BK729.out 2
         go_wp2
         go_meet
         case rel => exact ⟨_, (true), (by first | rfl | (simp; done) | (simp [*]; done)), H', ⟨by have := HK1.out; first | omega | exact Nat.le_refl _⟩, ⟨by (with_reducible repeat (first | refine blk_drewN ?_ _ | refine blk_drew ?_ | refine blk_alloc ?_ _)); exact BK727.out⟩, ⟨by (with_reducible repeat (first | refine blk_drewN ?_ _ | refine blk_drew ?_ | refine blk_alloc ?_ _)); exact BK729.out⟩, ⟨by repeat (first | (with_reducible first | exact HB.out | apply below_alloc | apply pw_below_drewN | apply below_drew1 | refine below_set ?_ GE727.out | refine below_set ?_ GE729.out) | exact HB.out)⟩⟩
        ·
         rw [if_neg c16] at H
         have c16b0 : decide (((rd_T120 l0_4 x4_1).f1) < 0) = false := decide_eq_false c16
         clear c16
         (first | rw [c16b0] | (simp only [i64_w, i32_w]; rw [c16b0]) | skip)
         have H' := Aside0.mk H
         clear H
         have hnb19 := NB729_727.out
         have hnc19 := NB727_729.out
         have hcz20_0 : w15.cell? ⟨gb729, 0, none⟩ = some (.string ((rd_T120 l0_4 x4_1).f0)) := (blk_cell BK729.out 0).trans rfl
         have hcz20_1 : w15.cell? ⟨gb729, 1, none⟩ = some (.int .i8 ((rd_T120 l0_4 x4_1).f1)) := (blk_cell BK729.out 1).trans rfl
         have hcz20_2 : w15.cell? ⟨gb729, 2, none⟩ = some (.int .i64 ((rd_T120 l0_4 x4_1).f2)) := (blk_cell BK729.out 2).trans rfl
         have hfz20_0 := blk_frozen BK729.out 0
         have hfz20_1 := blk_frozen BK729.out 1
         have hfz20_2 := blk_frozen BK729.out 2
         go_wp2
         go_meet
         case rel => exact ⟨_, (decide (((rd_T120 l0_4 x4_1).f1) > 3)), (by first | rfl | (simp; done) | (simp [*]; done)), H', ⟨by have := HK1.out; first | omega | exact Nat.le_refl _⟩, ⟨by (with_reducible repeat (first | refine blk_drewN ?_ _ | refine blk_drew ?_ | refine blk_alloc ?_ _)); exact BK727.out⟩, ⟨by (with_reducible repeat (first | refine blk_drewN ?_ _ | refine blk_drew ?_ | refine blk_alloc ?_ _)); exact BK729.out⟩, ⟨by repeat (first | (with_reducible first | exact HB.out | apply below_alloc | apply pw_below_drewN | apply below_drew1 | refine below_set ?_ GE727.out | refine below_set ?_ GE729.out) | exact HB.out)⟩⟩
       case rest =>
        clear HC9
        try clear c1
        try clear p2
        try clear c3
        try clear c3b0
        try clear c4
        try clear c4b0
        try clear c6
        try clear c7
        try clear p7
        try clear q7
        try clear hx7
        try clear c8
        try clear c8b0
        try clear c8b1
        try clear c11
        try clear c12
        try clear c16
        try clear c16b0
        try clear c17
        try clear c19
        try clear hcz10_0
        try clear hcz10_1
        try clear hcz10_2
        try clear hcz10_3
        try clear hcz10_4
        try clear hcz10_5
        try clear hcz13_0
        try clear hcz13_1
        try clear hcz13_2
        try clear hcz14_0
        try clear hcz14_1
        try clear hcz14_2
        try clear hcz14_3
        try clear hcz14_4
        try clear hcz14_5
        try clear hcz18_0
        try clear hcz18_1
        try clear hcz18_2
        try clear hcz20_0
        try clear hcz20_1
        try clear hcz20_2
        try clear hfz10_0
        try clear hfz10_1
        try clear hfz10_2
        try clear hfz10_3
        try clear hfz10_4
        try clear hfz10_5
        try clear hfz13_0
        try clear hfz13_1
        try clear hfz13_2
        try clear hfz14_0
        try clear hfz14_1
        try clear hfz14_2
        try clear hfz14_3
        try clear hfz14_4
        try clear hfz14_5
        try clear hfz18_0
        try clear hfz18_1
        try clear hfz18_2
        try clear hfz20_0
        try clear hfz20_1
        try clear hfz20_2
        try clear hx728_0
        try clear hx728_1
        try clear hx728_2
        try clear p2
        try clear p728
        try clear q728
        obtain ⟨kq, x37_8, rfl, HA, HJ8, BK727, BK729, HB⟩ := hcut
        cases kq with
        | zero => exact absurd HA.out (by simp [pleatref03_symbols.j1])
        | succ kj8 =>
         have H := HA.out
         clear HA
         simp only [pleatref03_symbols.j1] at H
         by_cases c21 : x37_8 = true
         ·
          subst c21
          have H1 : (some (23, x4_1)) = some (r1, r2) := by rw [if_pos rfl] at H; exact H
          clear H
          have H := H1
          clear H1
          simp only [Option.some.injEq, Prod.mk.injEq] at H
          obtain ⟨rfl, rfl⟩ := H
          go_wp2
          go_ret2
          exact ⟨by first | rfl | (simp [errW_none, errW_some] <;> rfl) | (simp [*, errW_none, errW_some] <;> rfl), by repeat (first | (with_reducible first | exact HB.out | apply below_alloc | apply pw_below_drewN | apply below_drew1 | refine below_set ?_ GE727.out | refine below_set ?_ GE729.out) | exact HB.out)⟩
         ·
          replace c21 := Bool.eq_false_iff.mpr c21
          subst c21
          have H1 : (if ((rd_T120 l0_4 x4_1).f2) < 0 then (some (22, x4_1)) else (if ((rd_T120 l0_4 x4_1).f2) > (l0_1.length : Int) then (some (22, x4_1)) else (if ((rd_T120 l0_4 x4_1).f1) = 3 then (if ((rd_T120 l0_4 x4_1).f2) = 0 then (pleatref03_symbols.l0 kj8 (wrap64 (x4_1 + 1)) a0_0 l0_1 a0_2 l0_3 l0_4 l0_5) else (some (22, x4_1))) else (pleatref03_symbols.l0 kj8 (wrap64 (x4_1 + 1)) a0_0 l0_1 a0_2 l0_3 l0_4 l0_5)))) = some (r1, r2) := by rw [if_neg (show ¬ (false = true) by decide)] at H; exact H
          clear H
          have H := H1
          clear H1
          by_cases c22 : ((rd_T120 l0_4 x4_1).f2) < 0
          ·
           rw [if_pos c22] at H
           have c22b0 : decide (((rd_T120 l0_4 x4_1).f2) < 0) = true := decide_eq_true c22
           clear c22
           simp only [Option.some.injEq, Prod.mk.injEq] at H
           obtain ⟨rfl, rfl⟩ := H
           have hnb23 := NB729_727.out
           have hnc23 := NB727_729.out
           have hcz24_0 : wc.cell? ⟨gb729, 0, none⟩ = some (.string ((rd_T120 l0_4 x4_1).f0)) := (blk_cell BK729.out 0).trans rfl
           have hcz24_1 : wc.cell? ⟨gb729, 1, none⟩ = some (.int .i8 ((rd_T120 l0_4 x4_1).f1)) := (blk_cell BK729.out 1).trans rfl
           have hcz24_2 : wc.cell? ⟨gb729, 2, none⟩ = some (.int .i64 ((rd_T120 l0_4 x4_1).f2)) := (blk_cell BK729.out 2).trans rfl
           have hfz24_0 := blk_frozen BK729.out 0
           have hfz24_1 := blk_frozen BK729.out 1
           have hfz24_2 := blk_frozen BK729.out 2
           go_wp2
           go_ret2
           exact ⟨by first | rfl | (simp [errW_none, errW_some] <;> rfl) | (simp [*, errW_none, errW_some] <;> rfl), by repeat (first | (with_reducible first | exact HB.out | apply below_alloc | apply pw_below_drewN | apply below_drew1 | refine below_set ?_ GE727.out | refine below_set ?_ GE729.out) | exact HB.out)⟩
          ·
           rw [if_neg c22] at H
           have c22b0 : decide (((rd_T120 l0_4 x4_1).f2) < 0) = false := decide_eq_false c22
           clear c22
           by_cases c25 : ((rd_T120 l0_4 x4_1).f2) > (l0_1.length : Int)
           ·
            rw [if_pos c25] at H
            have c25b0 : decide ((l0_1.length : Int) < ((rd_T120 l0_4 x4_1).f2)) = true := decide_eq_true c25
            clear c25
            simp only [Option.some.injEq, Prod.mk.injEq] at H
            obtain ⟨rfl, rfl⟩ := H
            have hnb26 := NB729_727.out
            have hnc26 := NB727_729.out
            have hcz27_0 : wc.cell? ⟨gb729, 0, none⟩ = some (.string ((rd_T120 l0_4 x4_1).f0)) := (blk_cell BK729.out 0).trans rfl
            have hcz27_1 : wc.cell? ⟨gb729, 1, none⟩ = some (.int .i8 ((rd_T120 l0_4 x4_1).f1)) := (blk_cell BK729.out 1).trans rfl
            have hcz27_2 : wc.cell? ⟨gb729, 2, none⟩ = some (.int .i64 ((rd_T120 l0_4 x4_1).f2)) := (blk_cell BK729.out 2).trans rfl
            have hfz27_0 := blk_frozen BK729.out 0
            have hfz27_1 := blk_frozen BK729.out 1
            have hfz27_2 := blk_frozen BK729.out 2
            have hcz28_0 : wc.cell? ⟨gb727, 0, none⟩ = some (.string a0_0) := (blk_cell BK727.out 0).trans rfl
            have hcz28_1 : wc.cell? ⟨gb727, 1, none⟩ = some (.slice A0_1 l0_1.length c0_1) := (blk_cell BK727.out 1).trans rfl
            have hcz28_2 : wc.cell? ⟨gb727, 2, none⟩ = some (.int .i64 a0_2) := (blk_cell BK727.out 2).trans rfl
            have hcz28_3 : wc.cell? ⟨gb727, 3, none⟩ = some (.slice A0_3 l0_3.length c0_3) := (blk_cell BK727.out 3).trans rfl
            have hcz28_4 : wc.cell? ⟨gb727, 4, none⟩ = some (.slice (some ad728) l0_4.length c0_4) := (blk_cell BK727.out 4).trans rfl
            have hcz28_5 : wc.cell? ⟨gb727, 5, none⟩ = some (.slice A0_5 l0_5.length c0_5) := (blk_cell BK727.out 5).trans rfl
            have hfz28_0 := blk_frozen BK727.out 0
            have hfz28_1 := blk_frozen BK727.out 1
            have hfz28_2 := blk_frozen BK727.out 2
            have hfz28_3 := blk_frozen BK727.out 3
            have hfz28_4 := blk_frozen BK727.out 4
            have hfz28_5 := blk_frozen BK727.out 5
            go_wp2
            go_ret2
            exact ⟨by first | rfl | (simp [errW_none, errW_some] <;> rfl) | (simp [*, errW_none, errW_some] <;> rfl), by repeat (first | (with_reducible first | exact HB.out | apply below_alloc | apply pw_below_drewN | apply below_drew1 | refine below_set ?_ GE727.out | refine below_set ?_ GE729.out) | exact HB.out)⟩
           ·
            rw [if_neg c25] at H
            have c25b0 : decide ((l0_1.length : Int) < ((rd_T120 l0_4 x4_1).f2)) = false := decide_eq_false c25
            clear c25
            by_cases c29 : ((rd_T120 l0_4 x4_1).f1) = 3
            ·
             rw [if_pos c29] at H
             have c29b0 : (((rd_T120 l0_4 x4_1).f1) == 3) = true := beq_iff_eq.mpr c29
             have c29b1 : (((rd_T120 l0_4 x4_1).f1) != 3) = false := bne_eq_false_iff_eq.mpr c29
             clear c29
             by_cases c30 : ((rd_T120 l0_4 x4_1).f2) = 0
             ·
              rw [if_pos c30] at H
              have c30b0 : (((rd_T120 l0_4 x4_1).f2) == 0) = true := beq_iff_eq.mpr c30
              have c30b1 : (((rd_T120 l0_4 x4_1).f2) != 0) = false := bne_eq_false_iff_eq.mpr c30
              clear c30
              have H' := Aside0.mk H
              clear H
              have hnb31 := NB729_727.out
              have hnc31 := NB727_729.out
              have hcz32_0 : wc.cell? ⟨gb729, 0, none⟩ = some (.string ((rd_T120 l0_4 x4_1).f0)) := (blk_cell BK729.out 0).trans rfl
              have hcz32_1 : wc.cell? ⟨gb729, 1, none⟩ = some (.int .i8 ((rd_T120 l0_4 x4_1).f1)) := (blk_cell BK729.out 1).trans rfl
              have hcz32_2 : wc.cell? ⟨gb729, 2, none⟩ = some (.int .i64 ((rd_T120 l0_4 x4_1).f2)) := (blk_cell BK729.out 2).trans rfl
              have hfz32_0 := blk_frozen BK729.out 0
              have hfz32_1 := blk_frozen BK729.out 1
              have hfz32_2 := blk_frozen BK729.out 2
              have hcz33_0 : wc.cell? ⟨gb727, 0, none⟩ = some (.string a0_0) := (blk_cell BK727.out 0).trans rfl
              have hcz33_1 : wc.cell? ⟨gb727, 1, none⟩ = some (.slice A0_1 l0_1.length c0_1) := (blk_cell BK727.out 1).trans rfl
              have hcz33_2 : wc.cell? ⟨gb727, 2, none⟩ = some (.int .i64 a0_2) := (blk_cell BK727.out 2).trans rfl
              have hcz33_3 : wc.cell? ⟨gb727, 3, none⟩ = some (.slice A0_3 l0_3.length c0_3) := (blk_cell BK727.out 3).trans rfl
              have hcz33_4 : wc.cell? ⟨gb727, 4, none⟩ = some (.slice (some ad728) l0_4.length c0_4) := (blk_cell BK727.out 4).trans rfl
              have hcz33_5 : wc.cell? ⟨gb727, 5, none⟩ = some (.slice A0_5 l0_5.length c0_5) := (blk_cell BK727.out 5).trans rfl
              have hfz33_0 := blk_frozen BK727.out 0
              have hfz33_1 := blk_frozen BK727.out 1
              have hfz33_2 := blk_frozen BK727.out 2
              have hfz33_3 := blk_frozen BK727.out 3
              have hfz33_4 := blk_frozen BK727.out 4
              have hfz33_5 := blk_frozen BK727.out 5
              go_wp2
              go_roundg kj8
              case measure => have := HK1.out; have := HJ8.out; omega
              case rel => exact ⟨(wrap64 (x4_1 + 1)), (by first | rfl | (simp; done) | (simp [*]; done)), H', ⟨by have := HK1.out; have := HJ8.out; omega⟩, ⟨by (with_reducible repeat (first | refine blk_drewN ?_ _ | refine blk_drew ?_ | refine blk_alloc ?_ _)); exact BK727.out⟩, ⟨by repeat (first | (with_reducible first | exact HB.out | apply below_alloc | apply pw_below_drewN | apply below_drew1 | refine below_set ?_ GE727.out | refine below_set ?_ GE729.out) | exact HB.out)⟩⟩
             ·
              rw [if_neg c30] at H
              have c30b0 : (((rd_T120 l0_4 x4_1).f2) == 0) = false := beq_eq_false_iff_ne.mpr c30
              have c30b1 : (((rd_T120 l0_4 x4_1).f2) != 0) = true := bne_iff_ne.mpr c30
              simp only [Option.some.injEq, Prod.mk.injEq] at H
              obtain ⟨rfl, rfl⟩ := H
              have hnb34 := NB729_727.out
              have hnc34 := NB727_729.out
              have hcz35_0 : wc.cell? ⟨gb729, 0, none⟩ = some (.string ((rd_T120 l0_4 x4_1).f0)) := (blk_cell BK729.out 0).trans rfl
              have hcz35_1 : wc.cell? ⟨gb729, 1, none⟩ = some (.int .i8 ((rd_T120 l0_4 x4_1).f1)) := (blk_cell BK729.out 1).trans rfl
              have hcz35_2 : wc.cell? ⟨gb729, 2, none⟩ = some (.int .i64 ((rd_T120 l0_4 x4_1).f2)) := (blk_cell BK729.out 2).trans rfl
              have hfz35_0 := blk_frozen BK729.out 0
              have hfz35_1 := blk_frozen BK729.out 1
              have hfz35_2 := blk_frozen BK729.out 2
              have hcz36_0 : wc.cell? ⟨gb727, 0, none⟩ = some (.string a0_0) := (blk_cell BK727.out 0).trans rfl
              have hcz36_1 : wc.cell? ⟨gb727, 1, none⟩ = some (.slice A0_1 l0_1.length c0_1) := (blk_cell BK727.out 1).trans rfl
              have hcz36_2 : wc.cell? ⟨gb727, 2, none⟩ = some (.int .i64 a0_2) := (blk_cell BK727.out 2).trans rfl
              have hcz36_3 : wc.cell? ⟨gb727, 3, none⟩ = some (.slice A0_3 l0_3.length c0_3) := (blk_cell BK727.out 3).trans rfl
              have hcz36_4 : wc.cell? ⟨gb727, 4, none⟩ = some (.slice (some ad728) l0_4.length c0_4) := (blk_cell BK727.out 4).trans rfl
              have hcz36_5 : wc.cell? ⟨gb727, 5, none⟩ = some (.slice A0_5 l0_5.length c0_5) := (blk_cell BK727.out 5).trans rfl
              have hfz36_0 := blk_frozen BK727.out 0
              have hfz36_1 := blk_frozen BK727.out 1
              have hfz36_2 := blk_frozen BK727.out 2
              have hfz36_3 := blk_frozen BK727.out 3
              have hfz36_4 := blk_frozen BK727.out 4
              have hfz36_5 := blk_frozen BK727.out 5
              go_wp2
              go_ret2
              exact ⟨by first | rfl | (simp [errW_none, errW_some] <;> rfl) | (simp [*, errW_none, errW_some] <;> rfl), by repeat (first | (with_reducible first | exact HB.out | apply below_alloc | apply pw_below_drewN | apply below_drew1 | refine below_set ?_ GE727.out | refine below_set ?_ GE729.out) | exact HB.out)⟩
            ·
             rw [if_neg c29] at H
             have c29b0 : (((rd_T120 l0_4 x4_1).f1) == 3) = false := beq_eq_false_iff_ne.mpr c29
             have c29b1 : (((rd_T120 l0_4 x4_1).f1) != 3) = true := bne_iff_ne.mpr c29
             have H' := Aside0.mk H
             clear H
             have hnb37 := NB729_727.out
             have hnc37 := NB727_729.out
             have hcz38_0 : wc.cell? ⟨gb729, 0, none⟩ = some (.string ((rd_T120 l0_4 x4_1).f0)) := (blk_cell BK729.out 0).trans rfl
             have hcz38_1 : wc.cell? ⟨gb729, 1, none⟩ = some (.int .i8 ((rd_T120 l0_4 x4_1).f1)) := (blk_cell BK729.out 1).trans rfl
             have hcz38_2 : wc.cell? ⟨gb729, 2, none⟩ = some (.int .i64 ((rd_T120 l0_4 x4_1).f2)) := (blk_cell BK729.out 2).trans rfl
             have hfz38_0 := blk_frozen BK729.out 0
             have hfz38_1 := blk_frozen BK729.out 1
             have hfz38_2 := blk_frozen BK729.out 2
             have hcz39_0 : wc.cell? ⟨gb727, 0, none⟩ = some (.string a0_0) := (blk_cell BK727.out 0).trans rfl
             have hcz39_1 : wc.cell? ⟨gb727, 1, none⟩ = some (.slice A0_1 l0_1.length c0_1) := (blk_cell BK727.out 1).trans rfl
             have hcz39_2 : wc.cell? ⟨gb727, 2, none⟩ = some (.int .i64 a0_2) := (blk_cell BK727.out 2).trans rfl
             have hcz39_3 : wc.cell? ⟨gb727, 3, none⟩ = some (.slice A0_3 l0_3.length c0_3) := (blk_cell BK727.out 3).trans rfl
             have hcz39_4 : wc.cell? ⟨gb727, 4, none⟩ = some (.slice (some ad728) l0_4.length c0_4) := (blk_cell BK727.out 4).trans rfl
             have hcz39_5 : wc.cell? ⟨gb727, 5, none⟩ = some (.slice A0_5 l0_5.length c0_5) := (blk_cell BK727.out 5).trans rfl
             have hfz39_0 := blk_frozen BK727.out 0
             have hfz39_1 := blk_frozen BK727.out 1
             have hfz39_2 := blk_frozen BK727.out 2
             have hfz39_3 := blk_frozen BK727.out 3
             have hfz39_4 := blk_frozen BK727.out 4
             have hfz39_5 := blk_frozen BK727.out 5
             go_wp2
             go_roundg kj8
             case measure => have := HK1.out; have := HJ8.out; omega
             case rel => exact ⟨(wrap64 (x4_1 + 1)), (by first | rfl | (simp; done) | (simp [*]; done)), H', ⟨by have := HK1.out; have := HJ8.out; omega⟩, ⟨by (with_reducible repeat (first | refine blk_drewN ?_ _ | refine blk_drew ?_ | refine blk_alloc ?_ _)); exact BK727.out⟩, ⟨by repeat (first | (with_reducible first | exact HB.out | apply below_alloc | apply pw_below_drewN | apply below_drew1 | refine below_set ?_ GE727.out | refine below_set ?_ GE729.out) | exact HB.out)⟩⟩
      ·
       rw [if_neg c8] at H
       have c8b0 : (t731 == x4_1) = false := beq_eq_false_iff_ne.mpr c8
       have c8b1 : (t731 != x4_1) = true := bne_iff_ne.mpr c8
       simp only [Option.some.injEq, Prod.mk.injEq] at H
       obtain ⟨rfl, rfl⟩ := H
       have hcz40_0 : wr.cell? ⟨gb727, 0, none⟩ = some (.string a0_0) := (blk_cell BK727.out 0).trans rfl
       have hcz40_1 : wr.cell? ⟨gb727, 1, none⟩ = some (.slice A0_1 l0_1.length c0_1) := (blk_cell BK727.out 1).trans rfl
       have hcz40_2 : wr.cell? ⟨gb727, 2, none⟩ = some (.int .i64 a0_2) := (blk_cell BK727.out 2).trans rfl
       have hcz40_3 : wr.cell? ⟨gb727, 3, none⟩ = some (.slice A0_3 l0_3.length c0_3) := (blk_cell BK727.out 3).trans rfl
       have hcz40_4 : wr.cell? ⟨gb727, 4, none⟩ = some (.slice A0_4 l0_4.length c0_4) := (blk_cell BK727.out 4).trans rfl
       have hcz40_5 : wr.cell? ⟨gb727, 5, none⟩ = some (.slice A0_5 l0_5.length c0_5) := (blk_cell BK727.out 5).trans rfl
       have hfz40_0 := blk_frozen BK727.out 0
       have hfz40_1 := blk_frozen BK727.out 1
       have hfz40_2 := blk_frozen BK727.out 2
       have hfz40_3 := blk_frozen BK727.out 3
       have hfz40_4 := blk_frozen BK727.out 4
       have hfz40_5 := blk_frozen BK727.out 5
       have p728 : 0 ≤ (x4_1 : Int) := of_decide_eq_true (by first | (with_reducible assumption) | assumption)
       have q728 : x4_1 < (l0_4.length : Int) := of_decide_eq_true (by first | (with_reducible assumption) | assumption)
       obtain ⟨ad728, e728, hx728_0, hx728_1, hx728_2⟩ := at_T120 HR0_4.out x4_1 p728 q728
       cases e728
       replace hx728_0 := (HB.out.cell (World.block_lt_of_cell? w _ hx728_0)).trans hx728_0
       replace hx728_1 := (HB.out.cell (World.block_lt_of_cell? w _ hx728_1)).trans hx728_1
       replace hx728_2 := (HB.out.cell (World.block_lt_of_cell? w _ hx728_2)).trans hx728_2
       replace p728 := eq_true p728
       replace q728 := eq_true q728
       go_wp2_with (first | ((with_reducible refine gate_dst (N := 5) rfl ?_); (try (refine gate_guard (by rfl) ?_; dsimp only)); refine box_event ?hg (N := 5) ?hd (cs := #[.string (⟨#[]⟩ : ByteArray), .int .i8 0, .int .i64 0]) (t := 120) ?hr ?_; (case hd => rfl); (case hg => rfl); (case hr => first | (go_simp; done) | (go_simp; rfl)); intro gb729 hg w41 hbox hb; have n0_ := Aside0.mk (blk_below (g := gb727) (o := .cells #[.string a0_0, .slice A0_1 l0_1.length c0_1, .int .i64 a0_2, .slice A0_3 l0_3.length c0_3, .slice (some ad728) l0_4.length c0_4, .slice A0_5 l0_5.length c0_5] 88 (0, 0)) (by (with_reducible repeat (first | refine blk_drewN ?_ _ | refine blk_drew ?_ | refine blk_alloc ?_ _)); exact BK727.out) hb); have n1_ := Aside0.mk (below_step (by repeat (first | (with_reducible first | exact HB.out | apply below_alloc | apply pw_below_drewN | apply below_drew1 | refine below_set ?_ GE727.out) | exact HB.out)) hb); have n2_ := Aside0.mk (hbox); have n3_ := Aside0.mk ((by rw [hg]; exact (below_size (by repeat (first | (with_reducible first | exact HB.out | apply below_alloc | apply pw_below_drewN | apply below_drew1 | refine below_set ?_ GE727.out) | exact HB.out))) : w.heap.size ≤ gb729)); have n4_ := Aside0.mk ((by rw [hg]; exact (below_size (by repeat (first | (with_reducible first | exact HB.out | apply below_alloc | apply pw_below_drewN | apply below_drew1 | refine below_set ?_ GE727.out) | exact HB.out))) : w.heap.size ≤ gb729)); have n5_ := Aside0.mk ((by rw [hg]; exact Nat.ne_of_lt (blk_lt (g := gb727) (o := .cells #[.string a0_0, .slice A0_1 l0_1.length c0_1, .int .i64 a0_2, .slice A0_3 l0_3.length c0_3, .slice (some ad728) l0_4.length c0_4, .slice A0_5 l0_5.length c0_5] 88 (0, 0)) (by (with_reducible repeat (first | refine blk_drewN ?_ _ | refine blk_drew ?_ | refine blk_alloc ?_ _)); exact BK727.out)) : gb727 ≠ gb729)); have n6_ := Aside0.mk ((by rw [hg]; exact Nat.ne_of_gt (blk_lt (g := gb727) (o := .cells #[.string a0_0, .slice A0_1 l0_1.length c0_1, .int .i64 a0_2, .slice A0_3 l0_3.length c0_3, .slice (some ad728) l0_4.length c0_4, .slice A0_5 l0_5.length c0_5] 88 (0, 0)) (by (with_reducible repeat (first | refine blk_drewN ?_ _ | refine blk_drew ?_ | refine blk_alloc ?_ _)); exact BK727.out)) : gb729 ≠ gb727)); clear BK727; clear HB; have BK727 := n0_; have HB := n1_; have BK729 := n2_; have GW729 := n3_; have GE729 := n4_; have NB727_729 := n5_; have NB729_727 := n6_; clear n0_ n1_ n2_ n3_ n4_ n5_ n6_; clear hb hbox hg; have hnb42 := NB729_727.out; have hnc42 := NB727_729.out; have hcz43_0 : w41.cell? ⟨gb729, 0, none⟩ = some (.string (⟨#[]⟩ : ByteArray)) := (blk_cell BK729.out 0).trans rfl; have hcz43_1 : w41.cell? ⟨gb729, 1, none⟩ = some (.int .i8 0) := (blk_cell BK729.out 1).trans rfl; have hcz43_2 : w41.cell? ⟨gb729, 2, none⟩ = some (.int .i64 0) := (blk_cell BK729.out 2).trans rfl; have hfz43_0 := blk_frozen BK729.out 0; have hfz43_1 := blk_frozen BK729.out 1; have hfz43_2 := blk_frozen BK729.out 2) | ((with_reducible refine gate_callee (f := 85) rfl ?_); refine goesL_ (some 20) rfl rfl Try.func85 (by kernel_rfl) rfl #[.string ((rd_T120 l0_4 x4_1).f0)] rfl (by (try simp only [List.map_toArray, List.map_cons, List.map_nil]); first | done | rfl | (simp only [List.length_drop, List.length_take]; rfl)) ?_; (with_reducible refine (pleatref03_Name.calls k1 ((rd_T120 l0_4 x4_1).f0) true _ A5.out).mono ?_); rintro e w' ⟨rfl, ⟨nd, rfl⟩⟩; refine ⟨_, rfl, ?_⟩; have hcz44_0 : w41.cell? ⟨gb727, 0, none⟩ = some (.string a0_0) := (blk_cell BK727.out 0).trans rfl; have hcz44_1 : w41.cell? ⟨gb727, 1, none⟩ = some (.slice A0_1 l0_1.length c0_1) := (blk_cell BK727.out 1).trans rfl; have hcz44_2 : w41.cell? ⟨gb727, 2, none⟩ = some (.int .i64 a0_2) := (blk_cell BK727.out 2).trans rfl; have hcz44_3 : w41.cell? ⟨gb727, 3, none⟩ = some (.slice A0_3 l0_3.length c0_3) := (blk_cell BK727.out 3).trans rfl; have hcz44_4 : w41.cell? ⟨gb727, 4, none⟩ = some (.slice (some ad728) l0_4.length c0_4) := (blk_cell BK727.out 4).trans rfl; have hcz44_5 : w41.cell? ⟨gb727, 5, none⟩ = some (.slice A0_5 l0_5.length c0_5) := (blk_cell BK727.out 5).trans rfl; have hfz44_0 := blk_frozen BK727.out 0; have hfz44_1 := blk_frozen BK727.out 1; have hfz44_2 := blk_frozen BK727.out 2; have hfz44_3 := blk_frozen BK727.out 3; have hfz44_4 := blk_frozen BK727.out 4; have hfz44_5 := blk_frozen BK727.out 5) | ((with_reducible refine gate_callee (f := 78) rfl ?_); refine goesL_ (some 26) rfl rfl Try.func78 (by kernel_rfl) rfl #[.agg #[.string a0_0, .slice A0_1 l0_1.length c0_1, .int .i64 a0_2, .slice A0_3 l0_3.length c0_3, .slice (some ad728) l0_4.length c0_4, .slice A0_5 l0_5.length c0_5], .string ((rd_T120 l0_4 x4_1).f0)] rfl (by (try simp only [List.map_toArray, List.map_cons, List.map_nil]); first | done | rfl | (simp only [List.length_drop, List.length_take]; rfl)) ?_; (with_reducible refine (pleatref03_Of.calls k1 a0_0 _ _ l0_1 a0_2 _ _ l0_3 _ _ l0_4 _ _ l0_5 ((rd_T120 l0_4 x4_1).f0) t731 _ ?side1 ?side2 ?side3 ?side4 ?side5 ?side6 ?side7 ?side8 A7.out).mono ?_); (case side1 => exact Kd.C_below HR0_1.out (by repeat (first | (with_reducible first | exact HB.out | apply below_alloc | apply pw_below_drewN | apply below_drew1 | refine below_set ?_ GE727.out | refine below_set ?_ GE729.out) | exact HB.out))); (case side2 => exact HC0_1.out); (case side3 => exact Kd.C_below HR0_3.out (by repeat (first | (with_reducible first | exact HB.out | apply below_alloc | apply pw_below_drewN | apply below_drew1 | refine below_set ?_ GE727.out | refine below_set ?_ GE729.out) | exact HB.out))); (case side4 => exact HC0_3.out); (case side5 => exact Kd.C_below HR0_4.out (by repeat (first | (with_reducible first | exact HB.out | apply below_alloc | apply pw_below_drewN | apply below_drew1 | refine below_set ?_ GE727.out | refine below_set ?_ GE729.out) | exact HB.out))); (case side6 => exact HC0_4.out); (case side7 => exact Kd.C_below HR0_5.out (by repeat (first | (with_reducible first | exact HB.out | apply below_alloc | apply pw_below_drewN | apply below_drew1 | refine below_set ?_ GE727.out | refine below_set ?_ GE729.out) | exact HB.out))); (case side8 => exact HC0_5.out); rintro e w45 ⟨rfl, hb⟩; refine ⟨_, rfl, ?_⟩; have n0_ := Aside0.mk (blk_below (g := gb727) (o := .cells #[.string a0_0, .slice A0_1 l0_1.length c0_1, .int .i64 a0_2, .slice A0_3 l0_3.length c0_3, .slice (some ad728) l0_4.length c0_4, .slice A0_5 l0_5.length c0_5] 88 (0, 0)) (by (with_reducible repeat (first | refine blk_drewN ?_ _ | refine blk_drew ?_ | refine blk_alloc ?_ _)); refine blk_far ?_ NB727_729.out _; (with_reducible repeat (first | refine blk_drewN ?_ _ | refine blk_drew ?_ | refine blk_alloc ?_ _)); refine blk_far ?_ NB727_729.out _; (with_reducible repeat (first | refine blk_drewN ?_ _ | refine blk_drew ?_ | refine blk_alloc ?_ _)); refine blk_far ?_ NB727_729.out _; (with_reducible repeat (first | refine blk_drewN ?_ _ | refine blk_drew ?_ | refine blk_alloc ?_ _)); exact BK727.out) hb); have n1_ := Aside0.mk (blk_below (g := gb729) (o := .cells #[.string ((rd_T120 l0_4 x4_1).f0), .int .i8 ((rd_T120 l0_4 x4_1).f1), .int .i64 ((rd_T120 l0_4 x4_1).f2)] 120 (0, 0)) (by (with_reducible repeat (first | refine blk_drewN ?_ _ | refine blk_drew ?_ | refine blk_alloc ?_ _)); refine blk_put (cs := #[.string ((rd_T120 l0_4 x4_1).f0), .int .i8 ((rd_T120 l0_4 x4_1).f1), .int .i64 0]) ?_ 2 _ rfl; (with_reducible repeat (first | refine blk_drewN ?_ _ | refine blk_drew ?_ | refine blk_alloc ?_ _)); refine blk_put (cs := #[.string ((rd_T120 l0_4 x4_1).f0), .int .i8 0, .int .i64 0]) ?_ 1 _ rfl; (with_reducible repeat (first | refine blk_drewN ?_ _ | refine blk_drew ?_ | refine blk_alloc ?_ _)); refine blk_put (cs := #[.string (⟨#[]⟩ : ByteArray), .int .i8 0, .int .i64 0]) ?_ 0 _ rfl; (with_reducible repeat (first | refine blk_drewN ?_ _ | refine blk_drew ?_ | refine blk_alloc ?_ _)); exact BK729.out) hb); have n2_ := Aside0.mk (below_step (by repeat (first | (with_reducible first | exact HB.out | apply below_alloc | apply pw_below_drewN | apply below_drew1 | refine below_set ?_ GE727.out | refine below_set ?_ GE729.out) | exact HB.out)) hb); clear BK727; clear BK729; clear HB; have BK727 := n0_; have BK729 := n1_; have HB := n2_; clear n0_ n1_ n2_; (try clear hb); (try clear hb2); (try clear hk); (try clear hi)))
       go_ret2
       exact ⟨by first | rfl | (simp [errW_none, errW_some] <;> rfl) | (simp [*, errW_none, errW_some] <;> rfl), by repeat (first | (with_reducible first | exact HB.out | apply below_alloc | apply pw_below_drewN | apply below_drew1 | refine below_set ?_ GE727.out | refine below_set ?_ GE729.out) | exact HB.out)⟩
     ·
      replace c6 := Bool.eq_false_iff.mpr c6
      subst c6
      have H1 : (some (20, x4_1)) = some (r1, r2) := by rw [if_neg (show ¬ (false = true) by decide)] at H; exact H
      clear H
      have H := H1
      clear H1
      simp only [Option.some.injEq, Prod.mk.injEq] at H
      obtain ⟨rfl, rfl⟩ := H
      have hcz46_0 : wr.cell? ⟨gb727, 0, none⟩ = some (.string a0_0) := (blk_cell BK727.out 0).trans rfl
      have hcz46_1 : wr.cell? ⟨gb727, 1, none⟩ = some (.slice A0_1 l0_1.length c0_1) := (blk_cell BK727.out 1).trans rfl
      have hcz46_2 : wr.cell? ⟨gb727, 2, none⟩ = some (.int .i64 a0_2) := (blk_cell BK727.out 2).trans rfl
      have hcz46_3 : wr.cell? ⟨gb727, 3, none⟩ = some (.slice A0_3 l0_3.length c0_3) := (blk_cell BK727.out 3).trans rfl
      have hcz46_4 : wr.cell? ⟨gb727, 4, none⟩ = some (.slice A0_4 l0_4.length c0_4) := (blk_cell BK727.out 4).trans rfl
      have hcz46_5 : wr.cell? ⟨gb727, 5, none⟩ = some (.slice A0_5 l0_5.length c0_5) := (blk_cell BK727.out 5).trans rfl
      have hfz46_0 := blk_frozen BK727.out 0
      have hfz46_1 := blk_frozen BK727.out 1
      have hfz46_2 := blk_frozen BK727.out 2
      have hfz46_3 := blk_frozen BK727.out 3
      have hfz46_4 := blk_frozen BK727.out 4
      have hfz46_5 := blk_frozen BK727.out 5
      have p728 : 0 ≤ (x4_1 : Int) := of_decide_eq_true (by first | (with_reducible assumption) | assumption)
      have q728 : x4_1 < (l0_4.length : Int) := of_decide_eq_true (by first | (with_reducible assumption) | assumption)
      obtain ⟨ad728, e728, hx728_0, hx728_1, hx728_2⟩ := at_T120 HR0_4.out x4_1 p728 q728
      cases e728
      replace hx728_0 := (HB.out.cell (World.block_lt_of_cell? w _ hx728_0)).trans hx728_0
      replace hx728_1 := (HB.out.cell (World.block_lt_of_cell? w _ hx728_1)).trans hx728_1
      replace hx728_2 := (HB.out.cell (World.block_lt_of_cell? w _ hx728_2)).trans hx728_2
      replace p728 := eq_true p728
      replace q728 := eq_true q728
      go_wp2_with (first | ((with_reducible refine gate_dst (N := 5) rfl ?_); (try (refine gate_guard (by rfl) ?_; dsimp only)); refine box_event ?hg (N := 5) ?hd (cs := #[.string (⟨#[]⟩ : ByteArray), .int .i8 0, .int .i64 0]) (t := 120) ?hr ?_; (case hd => rfl); (case hg => rfl); (case hr => first | (go_simp; done) | (go_simp; rfl)); intro gb729 hg w47 hbox hb; have n0_ := Aside0.mk (blk_below (g := gb727) (o := .cells #[.string a0_0, .slice A0_1 l0_1.length c0_1, .int .i64 a0_2, .slice A0_3 l0_3.length c0_3, .slice (some ad728) l0_4.length c0_4, .slice A0_5 l0_5.length c0_5] 88 (0, 0)) (by (with_reducible repeat (first | refine blk_drewN ?_ _ | refine blk_drew ?_ | refine blk_alloc ?_ _)); exact BK727.out) hb); have n1_ := Aside0.mk (below_step (by repeat (first | (with_reducible first | exact HB.out | apply below_alloc | apply pw_below_drewN | apply below_drew1 | refine below_set ?_ GE727.out) | exact HB.out)) hb); have n2_ := Aside0.mk (hbox); have n3_ := Aside0.mk ((by rw [hg]; exact (below_size (by repeat (first | (with_reducible first | exact HB.out | apply below_alloc | apply pw_below_drewN | apply below_drew1 | refine below_set ?_ GE727.out) | exact HB.out))) : w.heap.size ≤ gb729)); have n4_ := Aside0.mk ((by rw [hg]; exact (below_size (by repeat (first | (with_reducible first | exact HB.out | apply below_alloc | apply pw_below_drewN | apply below_drew1 | refine below_set ?_ GE727.out) | exact HB.out))) : w.heap.size ≤ gb729)); have n5_ := Aside0.mk ((by rw [hg]; exact Nat.ne_of_lt (blk_lt (g := gb727) (o := .cells #[.string a0_0, .slice A0_1 l0_1.length c0_1, .int .i64 a0_2, .slice A0_3 l0_3.length c0_3, .slice (some ad728) l0_4.length c0_4, .slice A0_5 l0_5.length c0_5] 88 (0, 0)) (by (with_reducible repeat (first | refine blk_drewN ?_ _ | refine blk_drew ?_ | refine blk_alloc ?_ _)); exact BK727.out)) : gb727 ≠ gb729)); have n6_ := Aside0.mk ((by rw [hg]; exact Nat.ne_of_gt (blk_lt (g := gb727) (o := .cells #[.string a0_0, .slice A0_1 l0_1.length c0_1, .int .i64 a0_2, .slice A0_3 l0_3.length c0_3, .slice (some ad728) l0_4.length c0_4, .slice A0_5 l0_5.length c0_5] 88 (0, 0)) (by (with_reducible repeat (first | refine blk_drewN ?_ _ | refine blk_drew ?_ | refine blk_alloc ?_ _)); exact BK727.out)) : gb729 ≠ gb727)); clear BK727; clear HB; have BK727 := n0_; have HB := n1_; have BK729 := n2_; have GW729 := n3_; have GE729 := n4_; have NB727_729 := n5_; have NB729_727 := n6_; clear n0_ n1_ n2_ n3_ n4_ n5_ n6_; clear hb hbox hg; have hnb48 := NB729_727.out; have hnc48 := NB727_729.out; have hcz49_0 : w47.cell? ⟨gb729, 0, none⟩ = some (.string (⟨#[]⟩ : ByteArray)) := (blk_cell BK729.out 0).trans rfl; have hcz49_1 : w47.cell? ⟨gb729, 1, none⟩ = some (.int .i8 0) := (blk_cell BK729.out 1).trans rfl; have hcz49_2 : w47.cell? ⟨gb729, 2, none⟩ = some (.int .i64 0) := (blk_cell BK729.out 2).trans rfl; have hfz49_0 := blk_frozen BK729.out 0; have hfz49_1 := blk_frozen BK729.out 1; have hfz49_2 := blk_frozen BK729.out 2) | ((with_reducible refine gate_callee (f := 85) rfl ?_); refine goesL_ (some 20) rfl rfl Try.func85 (by kernel_rfl) rfl #[.string ((rd_T120 l0_4 x4_1).f0)] rfl (by (try simp only [List.map_toArray, List.map_cons, List.map_nil]); first | done | rfl | (simp only [List.length_drop, List.length_take]; rfl)) ?_; (with_reducible refine (pleatref03_Name.calls k1 ((rd_T120 l0_4 x4_1).f0) false _ A5.out).mono ?_); rintro e w' ⟨rfl, ⟨nd, rfl⟩⟩; refine ⟨_, rfl, ?_⟩))
      go_ret2
      exact ⟨by first | rfl | (simp [errW_none, errW_some] <;> rfl) | (simp [*, errW_none, errW_some] <;> rfl), by repeat (first | (with_reducible first | exact HB.out | apply below_alloc | apply pw_below_drewN | apply below_drew1 | refine below_set ?_ GE727.out | refine below_set ?_ GE729.out) | exact HB.out)⟩
    ·
     rw [if_neg c4] at H
     exact absurd H (by simp)
   ·
    rw [if_neg c3] at H
    have c3b0 : decide (x4_1 < (l0_4.length : Int)) = false := decide_eq_false c3
    clear c3
    simp only [Option.some.injEq, Prod.mk.injEq] at H
    obtain ⟨rfl, rfl⟩ := H
    have hcz50_0 : wr.cell? ⟨gb727, 0, none⟩ = some (.string a0_0) := (blk_cell BK727.out 0).trans rfl
    have hcz50_1 : wr.cell? ⟨gb727, 1, none⟩ = some (.slice A0_1 l0_1.length c0_1) := (blk_cell BK727.out 1).trans rfl
    have hcz50_2 : wr.cell? ⟨gb727, 2, none⟩ = some (.int .i64 a0_2) := (blk_cell BK727.out 2).trans rfl
    have hcz50_3 : wr.cell? ⟨gb727, 3, none⟩ = some (.slice A0_3 l0_3.length c0_3) := (blk_cell BK727.out 3).trans rfl
    have hcz50_4 : wr.cell? ⟨gb727, 4, none⟩ = some (.slice A0_4 l0_4.length c0_4) := (blk_cell BK727.out 4).trans rfl
    have hcz50_5 : wr.cell? ⟨gb727, 5, none⟩ = some (.slice A0_5 l0_5.length c0_5) := (blk_cell BK727.out 5).trans rfl
    have hfz50_0 := blk_frozen BK727.out 0
    have hfz50_1 := blk_frozen BK727.out 1
    have hfz50_2 := blk_frozen BK727.out 2
    have hfz50_3 := blk_frozen BK727.out 3
    have hfz50_4 := blk_frozen BK727.out 4
    have hfz50_5 := blk_frozen BK727.out 5
    go_wp2
    go_ret2
    exact ⟨by first | rfl | (simp [errW_none, errW_some] <;> rfl) | (simp [*, errW_none, errW_some] <;> rfl), by repeat (first | (with_reducible first | exact HB.out | apply below_alloc | apply pw_below_drewN | apply below_drew1 | refine below_set ?_ GE727.out) | exact HB.out)⟩
end Go.Proofs.Ytiaohbbafaaibaa.P
