/- OWN TEXT and printed parts of this claim, laid together: P35. -/
import Derived.Test.YtiaohbbafaaibaaZtM0
import Derived.Test.YtiaohbbafaaibaaZtM4
/- What the Go functions named below come to, as plain functions, each with its proof; written by this session's prt.py over the kit's print. -/
namespace Go.Proofs.Ytiaohbbafaaibaa.P
open Go.RowKit Go.Proofs.YtiaohbbafaaibaaW.PrintWords Go.Proofs.YtiaohbbafaaibaaW.PrintLast Go.Proofs.YtiaohbbafaaibaaW.PrintMore
attribute [local go_sem] max2_int min2_int max_two min_two max_three min_three max_four min_four   -- for this text's walks alone
set_option linter.unusedVariables false
set_option linter.unusedSimpArgs false
/-! ### pleatref03_relocs: function 117 -/
mutual
def pleatref03_relocs.l0 : Nat → Int → ByteArray → List Int → Int → List Int → List (S120) → List (S130) → Option (Int × Int)
 | 0, _, _, _, _, _, _, _ => none
 | k + 1, x4, x733000, x733001, x733002, x733003, x733004, x733005 => if x4 < (x733005.length : Int) then (if 0 ≤ x4 then (if ((rd_T130 x733005 x4).f0) < 0 then (pleatref03_relocs.j1 k x4 true x733000 x733001 x733002 x733003 x733004 x733005 ((rd_T130 x733005 x4).f0) ((rd_T130 x733005 x4).f1)) else (if ((rd_T130 x733005 x4).f0) ≥ (x733001.length : Int) then (pleatref03_relocs.j1 k x4 true x733000 x733001 x733002 x733003 x733004 x733005 ((rd_T130 x733005 x4).f0) ((rd_T130 x733005 x4).f1)) else (if x4 > 0 then (if 0 ≤ (wrap64 (x4 - 1)) then (if (wrap64 (x4 - 1)) < (x733005.length : Int) then (if ((rd_T130 x733005 x4).f0) ≤ ((rd_T130 x733005 (wrap64 (x4 - 1))).f0) then (pleatref03_relocs.j1 k x4 true x733000 x733001 x733002 x733003 x733004 x733005 ((rd_T130 x733005 x4).f0) ((rd_T130 x733005 x4).f1)) else (if ((rd_T130 x733005 x4).f1) < 0 then (pleatref03_relocs.j1 k x4 true x733000 x733001 x733002 x733003 x733004 x733005 ((rd_T130 x733005 x4).f0) ((rd_T130 x733005 x4).f1)) else (pleatref03_relocs.j1 k x4 (decide (((rd_T130 x733005 x4).f1) ≥ (x733004.length : Int))) x733000 x733001 x733002 x733003 x733004 x733005 ((rd_T130 x733005 x4).f0) ((rd_T130 x733005 x4).f1)))) else (none)) else (none)) else (if ((rd_T130 x733005 x4).f1) < 0 then (pleatref03_relocs.j1 k x4 true x733000 x733001 x733002 x733003 x733004 x733005 ((rd_T130 x733005 x4).f0) ((rd_T130 x733005 x4).f1)) else (pleatref03_relocs.j1 k x4 (decide (((rd_T130 x733005 x4).f1) ≥ (x733004.length : Int))) x733000 x733001 x733002 x733003 x733004 x733005 ((rd_T130 x733005 x4).f0) ((rd_T130 x733005 x4).f1)))))) else (none)) else (some (0, 0))
def pleatref03_relocs.j1 : Nat → Int → Bool → ByteArray → List Int → Int → List Int → List (S120) → List (S130) → Int → Int → Option (Int × Int)
 | 0, _, _, _, _, _, _, _, _, _, _ => none
 | k + 1, x4, x59, x733000, x733001, x733002, x733003, x733004, x733005, x735000, x735001 => if x59 = true then (some (24, x4)) else (if 0 ≤ x735000 then (if x735000 < (x733001.length : Int) then ((pleatref02_Target.f k (rd x733001 x735000)).bind fun bt737 => (if bt737.2 = true then (if bt737.1 = 0 then (pleatref03_relocs.l0 k (wrap64 (x4 + 1)) x733000 x733001 x733002 x733003 x733004 x733005) else (some (24, x4))) else (some (24, x4)))) else (none)) else (none))
end
def pleatref03_relocs.f (k : Nat) (a0_0 : ByteArray) (l0_1 : List Int) (a0_2 : Int) (l0_3 : List Int) (l0_4 : List (S120)) (l0_5 : List (S130)) : Option (Int × Int) := pleatref03_relocs.l0 k 0 a0_0 l0_1 a0_2 l0_3 l0_4 l0_5
theorem pleatref03_relocs.mono_l : ∀ k, (∀ y0 y1 y2 y3 y4 y5 y6, LeO (pleatref03_relocs.l0 k y0 y1 y2 y3 y4 y5 y6) (pleatref03_relocs.l0 (k + 1) y0 y1 y2 y3 y4 y5 y6)) ∧ (∀ y0 y1 y2 y3 y4 y5 y6 y7 y8 y9, LeO (pleatref03_relocs.j1 k y0 y1 y2 y3 y4 y5 y6 y7 y8 y9) (pleatref03_relocs.j1 (k + 1) y0 y1 y2 y3 y4 y5 y6 y7 y8 y9))
 | 0 => ⟨fun _ _ _ _ _ _ _ r h => by simp [pleatref03_relocs.l0] at h, fun _ _ _ _ _ _ _ _ _ _ r h => by simp [pleatref03_relocs.j1] at h⟩
 | k + 1 => by
  obtain ⟨ih0, ih1⟩ := pleatref03_relocs.mono_l k
  refine ⟨?_, ?_⟩
  ·
   intro y0 y1 y2 y3 y4 y5 y6
   unfold pleatref03_relocs.l0
   repeat' first
   | (with_reducible exact ih0 _ _ _ _ _ _ _)
   | (with_reducible exact ih1 _ _ _ _ _ _ _ _ _ _)
   | (with_reducible exact pleatref02_Target.mono _ _)
   | (with_reducible exact LeO.refl _)
   | (with_reducible exact LeO.none _)
   | (with_reducible refine LeO.ite ?_ ?_)
   | (with_reducible refine LeO.bind ?_ (fun _ => ?_))
   | exact ih0 _ _ _ _ _ _ _
   | exact ih1 _ _ _ _ _ _ _ _ _ _
   | exact pleatref02_Target.mono _ _
   | exact LeO.none _
   | refine LeO.ite ?_ ?_
   | refine LeO.bind ?_ (fun _ => ?_)
  ·
   intro y0 y1 y2 y3 y4 y5 y6 y7 y8 y9
   unfold pleatref03_relocs.j1
   repeat' first
   | (with_reducible exact ih0 _ _ _ _ _ _ _)
   | (with_reducible exact ih1 _ _ _ _ _ _ _ _ _ _)
   | (with_reducible exact pleatref02_Target.mono _ _)
   | (with_reducible exact LeO.refl _)
   | (with_reducible exact LeO.none _)
   | (with_reducible refine LeO.ite ?_ ?_)
   | (with_reducible refine LeO.bind ?_ (fun _ => ?_))
   | exact ih0 _ _ _ _ _ _ _
   | exact ih1 _ _ _ _ _ _ _ _ _ _
   | exact pleatref02_Target.mono _ _
   | exact LeO.none _
   | refine LeO.ite ?_ ?_
   | refine LeO.bind ?_ (fun _ => ?_)
theorem pleatref03_relocs.mono : ∀ a0 a1 a2 a3 a4 a5 k, LeO (pleatref03_relocs.f k a0 a1 a2 a3 a4 a5) (pleatref03_relocs.f (k + 1) a0 a1 a2 a3 a4 a5) := by
 intro a0 a1 a2 a3 a4 a5 k
 obtain ⟨ih0, ih1⟩ := pleatref03_relocs.mono_l k
 unfold pleatref03_relocs.f
 repeat' first
   | (with_reducible exact ih0 _ _ _ _ _ _ _)
   | (with_reducible exact ih1 _ _ _ _ _ _ _ _ _ _)
   | (with_reducible exact pleatref02_Target.mono _ _)
   | (with_reducible exact LeO.refl _)
   | (with_reducible exact LeO.none _)
   | (with_reducible refine LeO.ite ?_ ?_)
   | (with_reducible refine LeO.bind ?_ (fun _ => ?_))
   | exact ih0 _ _ _ _ _ _ _
   | exact ih1 _ _ _ _ _ _ _ _ _ _
   | exact pleatref02_Target.mono _ _
   | exact LeO.none _
   | refine LeO.ite ?_ ?_
   | refine LeO.bind ?_ (fun _ => ?_)
set_option maxHeartbeats 8000000 in
set_option maxRecDepth 100000 in
theorem pleatref03_relocs.calls (k : Nat) (a0_0 : ByteArray) (A0_1 : Option Addr) (c0_1 : Nat) (l0_1 : List Int) (a0_2 : Int) (A0_3 : Option Addr) (c0_3 : Nat) (l0_3 : List Int) (A0_4 : Option Addr) (c0_4 : Nat) (l0_4 : List (S120)) (A0_5 : Option Addr) (c0_5 : Nat) (l0_5 : List (S130)) (r1 : Int) (r2 : Int) (w : World) (hr0_1 : Kd.C (Kd.int .u32) w A0_1 l0_1.length l0_1) (hc0_1 : l0_1.length ≤ c0_1) (hr0_3 : Kd.C (Kd.int .i64) w A0_3 l0_3.length l0_3) (hc0_3 : l0_3.length ≤ c0_3) (hr0_4 : Kd.C k120 w A0_4 l0_4.length l0_4) (hc0_4 : l0_4.length ≤ c0_4) (hr0_5 : Kd.C k130 w A0_5 l0_5.length l0_5) (hc0_5 : l0_5.length ≤ c0_5) (h : pleatref03_relocs.f k a0_0 l0_1 a0_2 l0_3 l0_4 l0_5 = some (r1, r2)) :
  Calls Try.prog 117 #[.agg #[.string a0_0, .slice A0_1 l0_1.length c0_1, .int .i64 a0_2, .slice A0_3 l0_3.length c0_3, .slice A0_4 l0_4.length c0_4, .slice A0_5 l0_5.length c0_5]] w fun e w' => e = .returned (.tuple #[.int .i64 r1, .int .i64 r2]) ∧ Below w.heap.size w w' := by
 have hu88 := Try.underlying88
 have hu130 := Try.underlying130
 have HR0_1 := Aside0.mk hr0_1
 have HC0_1 := Aside0.mk hc0_1
 clear hr0_1 hc0_1
 have HR0_3 := Aside0.mk hr0_3
 have HC0_3 := Aside0.mk hc0_3
 clear hr0_3 hc0_3
 have HR0_4 := Aside0.mk hr0_4
 have HC0_4 := Aside0.mk hc0_4
 clear hr0_4 hc0_4
 have HR0_5 := Aside0.mk hr0_5
 have HC0_5 := Aside0.mk hc0_5
 clear hr0_5 hc0_5
 have HB := Aside0.mk (Below.refl w.heap.size w)
 have H : (pleatref03_relocs.l0 k 0 a0_0 l0_1 a0_2 l0_3 l0_4 l0_5) = some (r1, r2) := h
 clear h
 have H' := Aside0.mk H
 clear H
 go_enter Try.func117, Try.ntmps117
 go_wp2_with (first | ((with_reducible refine gate_dst (N := 1) rfl ?_); (try (refine gate_guard (by rfl) ?_; dsimp only)); refine box_event ?hg (N := 1) ?hd (cs := #[.string a0_0, .slice A0_1 l0_1.length c0_1, .int .i64 a0_2, .slice A0_3 l0_3.length c0_3, .slice A0_4 l0_4.length c0_4, .slice A0_5 l0_5.length c0_5]) (t := 88) ?hr ?_; (case hd => rfl); (case hg => rfl); (case hr => first | (go_simp; done) | (go_simp; rfl)); intro gb732 hg w2 hbox hb; have n0_ := Aside0.mk (below_step (by repeat (first | (with_reducible first | exact HB.out | apply below_alloc | apply pw_below_drewN | apply below_drew1) | exact HB.out)) hb); have n1_ := Aside0.mk (hbox); have n2_ := Aside0.mk ((by rw [hg]; exact (below_size (by repeat (first | (with_reducible first | exact HB.out | apply below_alloc | apply pw_below_drewN | apply below_drew1) | exact HB.out))) : w.heap.size ≤ gb732)); have n3_ := Aside0.mk ((by rw [hg]; exact (below_size (by repeat (first | (with_reducible first | exact HB.out | apply below_alloc | apply pw_below_drewN | apply below_drew1) | exact HB.out))) : w.heap.size ≤ gb732)); clear HB; have HB := n0_; have BK732 := n1_; have GW732 := n2_; have GE732 := n3_; clear n0_ n1_ n2_ n3_; clear hb hbox hg))
 repeat (go_quiet (first | ((with_reducible refine gate_dst (N := 1) rfl ?_); (try (refine gate_guard (by rfl) ?_; dsimp only)); refine box_event ?hg (N := 1) ?hd (cs := #[.string a0_0, .slice A0_1 l0_1.length c0_1, .int .i64 a0_2, .slice A0_3 l0_3.length c0_3, .slice A0_4 l0_4.length c0_4, .slice A0_5 l0_5.length c0_5]) (t := 88) ?hr ?_; (case hd => rfl); (case hg => rfl); (case hr => first | (go_simp; done) | (go_simp; rfl)); intro gb732 hg w2 hbox hb; have n0_ := Aside0.mk (below_step (by repeat (first | (with_reducible first | exact HB.out | apply below_alloc | apply pw_below_drewN | apply below_drew1) | exact HB.out)) hb); have n1_ := Aside0.mk (hbox); have n2_ := Aside0.mk ((by rw [hg]; exact (below_size (by repeat (first | (with_reducible first | exact HB.out | apply below_alloc | apply pw_below_drewN | apply below_drew1) | exact HB.out))) : w.heap.size ≤ gb732)); have n3_ := Aside0.mk ((by rw [hg]; exact (below_size (by repeat (first | (with_reducible first | exact HB.out | apply below_alloc | apply pw_below_drewN | apply below_drew1) | exact HB.out))) : w.heap.size ≤ gb732)); clear HB; have HB := n0_; have BK732 := n1_; have GW732 := n2_; have GE732 := n3_; clear n0_ n1_ n2_ n3_; clear hb hbox hg)); try go_wp2_with (first | ((with_reducible refine gate_dst (N := 1) rfl ?_); (try (refine gate_guard (by rfl) ?_; dsimp only)); refine box_event ?hg (N := 1) ?hd (cs := #[.string a0_0, .slice A0_1 l0_1.length c0_1, .int .i64 a0_2, .slice A0_3 l0_3.length c0_3, .slice A0_4 l0_4.length c0_4, .slice A0_5 l0_5.length c0_5]) (t := 88) ?hr ?_; (case hd => rfl); (case hg => rfl); (case hr => first | (go_simp; done) | (go_simp; rfl)); intro gb732 hg w2 hbox hb; have n0_ := Aside0.mk (below_step (by repeat (first | (with_reducible first | exact HB.out | apply below_alloc | apply pw_below_drewN | apply below_drew1) | exact HB.out)) hb); have n1_ := Aside0.mk (hbox); have n2_ := Aside0.mk ((by rw [hg]; exact (below_size (by repeat (first | (with_reducible first | exact HB.out | apply below_alloc | apply pw_below_drewN | apply below_drew1) | exact HB.out))) : w.heap.size ≤ gb732)); have n3_ := Aside0.mk ((by rw [hg]; exact (below_size (by repeat (first | (with_reducible first | exact HB.out | apply below_alloc | apply pw_below_drewN | apply below_drew1) | exact HB.out))) : w.heap.size ≤ gb732)); clear HB; have HB := n0_; have BK732 := n1_; have GW732 := n2_; have GE732 := n3_; clear n0_ n1_ n2_ n3_; clear hb hbox hg)))
 go_loopg [4] k (fun kq v4 w' => ∃ (x4_1 : Int), v4 = .int .i64 x4_1 ∧ Aside0 (pleatref03_relocs.l0 kq x4_1 a0_0 l0_1 a0_2 l0_3 l0_4 l0_5 = some (r1, r2)) ∧ Aside0 (kq ≤ k) ∧ Aside0 (w'.heap[gb732]? = some (.cells #[.string a0_0, (.slice A0_1 l0_1.length c0_1), .int .i64 a0_2, (.slice A0_3 l0_3.length c0_3), (.slice A0_4 l0_4.length c0_4), (.slice A0_5 l0_5.length c0_5)] 88 (0, 0))) ∧ Aside0 (Below w.heap.size w w'))
 case atStart => exact ⟨(0), (by first | rfl | (simp; done) | (simp [*]; done)), H', ⟨Nat.le_refl _⟩, ⟨by (with_reducible repeat (first | refine blk_drewN ?_ _ | refine blk_drew ?_ | refine blk_alloc ?_ _)); exact BK732.out⟩, ⟨by repeat (first | (with_reducible first | exact HB.out | apply below_alloc | apply pw_below_drewN | apply below_drew1 | refine below_set ?_ GE732.out) | exact HB.out)⟩⟩
 case round =>
  clear H'
  try clear c1
  try clear p2
  obtain ⟨x4_1, rfl, HA, HK1, BK732, HB⟩ := hrel
  cases gk with
  | zero => exact absurd HA.out (by simp [pleatref03_relocs.l0])
  | succ k1 =>
   have H := HA.out
   clear HA
   simp only [pleatref03_relocs.l0] at H
   by_cases c3 : x4_1 < (l0_5.length : Int)
   ·
    rw [if_pos c3] at H
    have c3b0 : decide (x4_1 < (l0_5.length : Int)) = true := decide_eq_true c3
    clear c3
    by_cases c4 : 0 ≤ x4_1
    ·
     rw [if_pos c4] at H
     have c4b0 : decide (0 ≤ x4_1) = true := decide_eq_true c4
     clear c4
     have HC5 := Aside0.mk H
     clear H
     have hcz6_0 := blk_cell BK732.out 0
     have hcz6_1 := blk_cell BK732.out 1
     have hcz6_2 := blk_cell BK732.out 2
     have hcz6_3 := blk_cell BK732.out 3
     have hcz6_4 := blk_cell BK732.out 4
     have hcz6_5 := blk_cell BK732.out 5
     have hfz6_0 := blk_frozen BK732.out 0
     have hfz6_1 := blk_frozen BK732.out 1
     have hfz6_2 := blk_frozen BK732.out 2
     have hfz6_3 := blk_frozen BK732.out 3
     have hfz6_4 := blk_frozen BK732.out 4
     have hfz6_5 := blk_frozen BK732.out 5
     have p733 : 0 ≤ (x4_1 : Int) := of_decide_eq_true (by first | (with_reducible assumption) | assumption)
     have q733 : x4_1 < (l0_5.length : Int) := of_decide_eq_true (by first | (with_reducible assumption) | assumption)
     obtain ⟨ad733, e733, hx733_0, hx733_1⟩ := at_T130 HR0_5.out x4_1 p733 q733
     cases e733
     replace hx733_0 := (HB.out.cell (World.block_lt_of_cell? w _ hx733_0)).trans hx733_0
     replace hx733_1 := (HB.out.cell (World.block_lt_of_cell? w _ hx733_1)).trans hx733_1
     replace p733 := eq_true p733
     replace q733 := eq_true q733
     go_upto_region 5 with (first | ((with_reducible refine gate_dst (N := 5) rfl ?_); (try (refine gate_guard (by rfl) ?_; dsimp only)); refine box_event ?hg (N := 5) ?hd (cs := #[.int .i64 0, .int .i64 0]) (t := 130) ?hr ?_; (case hd => rfl); (case hg => rfl); (case hr => first | (go_simp; done) | (go_simp; rfl)); intro gb734 hg w7 hbox hb; have n0_ := Aside0.mk (blk_below (g := gb732) (o := .cells #[.string a0_0, .slice A0_1 l0_1.length c0_1, .int .i64 a0_2, .slice A0_3 l0_3.length c0_3, .slice A0_4 l0_4.length c0_4, .slice (some ad733) l0_5.length c0_5] 88 (0, 0)) (by (with_reducible repeat (first | refine blk_drewN ?_ _ | refine blk_drew ?_ | refine blk_alloc ?_ _)); exact BK732.out) hb); have n1_ := Aside0.mk (below_step (by repeat (first | (with_reducible first | exact HB.out | apply below_alloc | apply pw_below_drewN | apply below_drew1 | refine below_set ?_ GE732.out) | exact HB.out)) hb); have n2_ := Aside0.mk (hbox); have n3_ := Aside0.mk ((by rw [hg]; exact (below_size (by repeat (first | (with_reducible first | exact HB.out | apply below_alloc | apply pw_below_drewN | apply below_drew1 | refine below_set ?_ GE732.out) | exact HB.out))) : w.heap.size ≤ gb734)); have n4_ := Aside0.mk ((by rw [hg]; exact (below_size (by repeat (first | (with_reducible first | exact HB.out | apply below_alloc | apply pw_below_drewN | apply below_drew1 | refine below_set ?_ GE732.out) | exact HB.out))) : w.heap.size ≤ gb734)); have n5_ := Aside0.mk ((by rw [hg]; exact Nat.ne_of_lt (blk_lt (g := gb732) (o := .cells #[.string a0_0, .slice A0_1 l0_1.length c0_1, .int .i64 a0_2, .slice A0_3 l0_3.length c0_3, .slice A0_4 l0_4.length c0_4, .slice (some ad733) l0_5.length c0_5] 88 (0, 0)) (by (with_reducible repeat (first | refine blk_drewN ?_ _ | refine blk_drew ?_ | refine blk_alloc ?_ _)); exact BK732.out)) : gb732 ≠ gb734)); have n6_ := Aside0.mk ((by rw [hg]; exact Nat.ne_of_gt (blk_lt (g := gb732) (o := .cells #[.string a0_0, .slice A0_1 l0_1.length c0_1, .int .i64 a0_2, .slice A0_3 l0_3.length c0_3, .slice A0_4 l0_4.length c0_4, .slice (some ad733) l0_5.length c0_5] 88 (0, 0)) (by (with_reducible repeat (first | refine blk_drewN ?_ _ | refine blk_drew ?_ | refine blk_alloc ?_ _)); exact BK732.out)) : gb734 ≠ gb732)); clear BK732; clear HB; have BK732 := n0_; have HB := n1_; have BK734 := n2_; have GW734 := n3_; have GE734 := n4_; have NB732_734 := n5_; have NB734_732 := n6_; clear n0_ n1_ n2_ n3_ n4_ n5_ n6_; clear hb hbox hg; have hnb8 := NB734_732.out; have hnc8 := NB732_734.out; have hcz9_0 := blk_cell BK734.out 0; have hcz9_1 := blk_cell BK734.out 1; have hfz9_0 := blk_frozen BK734.out 0; have hfz9_1 := blk_frozen BK734.out 1))
     repeat (go_quiet (first | ((with_reducible refine gate_dst (N := 5) rfl ?_); (try (refine gate_guard (by rfl) ?_; dsimp only)); refine box_event ?hg (N := 5) ?hd (cs := #[.int .i64 0, .int .i64 0]) (t := 130) ?hr ?_; (case hd => rfl); (case hg => rfl); (case hr => first | (go_simp; done) | (go_simp; rfl)); intro gb734 hg w7 hbox hb; have n0_ := Aside0.mk (blk_below (g := gb732) (o := .cells #[.string a0_0, .slice A0_1 l0_1.length c0_1, .int .i64 a0_2, .slice A0_3 l0_3.length c0_3, .slice A0_4 l0_4.length c0_4, .slice (some ad733) l0_5.length c0_5] 88 (0, 0)) (by (with_reducible repeat (first | refine blk_drewN ?_ _ | refine blk_drew ?_ | refine blk_alloc ?_ _)); exact BK732.out) hb); have n1_ := Aside0.mk (below_step (by repeat (first | (with_reducible first | exact HB.out | apply below_alloc | apply pw_below_drewN | apply below_drew1 | refine below_set ?_ GE732.out) | exact HB.out)) hb); have n2_ := Aside0.mk (hbox); have n3_ := Aside0.mk ((by rw [hg]; exact (below_size (by repeat (first | (with_reducible first | exact HB.out | apply below_alloc | apply pw_below_drewN | apply below_drew1 | refine below_set ?_ GE732.out) | exact HB.out))) : w.heap.size ≤ gb734)); have n4_ := Aside0.mk ((by rw [hg]; exact (below_size (by repeat (first | (with_reducible first | exact HB.out | apply below_alloc | apply pw_below_drewN | apply below_drew1 | refine below_set ?_ GE732.out) | exact HB.out))) : w.heap.size ≤ gb734)); have n5_ := Aside0.mk ((by rw [hg]; exact Nat.ne_of_lt (blk_lt (g := gb732) (o := .cells #[.string a0_0, .slice A0_1 l0_1.length c0_1, .int .i64 a0_2, .slice A0_3 l0_3.length c0_3, .slice A0_4 l0_4.length c0_4, .slice (some ad733) l0_5.length c0_5] 88 (0, 0)) (by (with_reducible repeat (first | refine blk_drewN ?_ _ | refine blk_drew ?_ | refine blk_alloc ?_ _)); exact BK732.out)) : gb732 ≠ gb734)); have n6_ := Aside0.mk ((by rw [hg]; exact Nat.ne_of_gt (blk_lt (g := gb732) (o := .cells #[.string a0_0, .slice A0_1 l0_1.length c0_1, .int .i64 a0_2, .slice A0_3 l0_3.length c0_3, .slice A0_4 l0_4.length c0_4, .slice (some ad733) l0_5.length c0_5] 88 (0, 0)) (by (with_reducible repeat (first | refine blk_drewN ?_ _ | refine blk_drew ?_ | refine blk_alloc ?_ _)); exact BK732.out)) : gb734 ≠ gb732)); clear BK732; clear HB; have BK732 := n0_; have HB := n1_; have BK734 := n2_; have GW734 := n3_; have GE734 := n4_; have NB732_734 := n5_; have NB734_732 := n6_; clear n0_ n1_ n2_ n3_ n4_ n5_ n6_; clear hb hbox hg; have hnb8 := NB734_732.out; have hnc8 := NB732_734.out; have hcz9_0 := blk_cell BK734.out 0; have hcz9_1 := blk_cell BK734.out 1; have hfz9_0 := blk_frozen BK734.out 0; have hfz9_1 := blk_frozen BK734.out 1)); go_upto_region 5 with (first | ((with_reducible refine gate_dst (N := 5) rfl ?_); (try (refine gate_guard (by rfl) ?_; dsimp only)); refine box_event ?hg (N := 5) ?hd (cs := #[.int .i64 0, .int .i64 0]) (t := 130) ?hr ?_; (case hd => rfl); (case hg => rfl); (case hr => first | (go_simp; done) | (go_simp; rfl)); intro gb734 hg w7 hbox hb; have n0_ := Aside0.mk (blk_below (g := gb732) (o := .cells #[.string a0_0, .slice A0_1 l0_1.length c0_1, .int .i64 a0_2, .slice A0_3 l0_3.length c0_3, .slice A0_4 l0_4.length c0_4, .slice (some ad733) l0_5.length c0_5] 88 (0, 0)) (by (with_reducible repeat (first | refine blk_drewN ?_ _ | refine blk_drew ?_ | refine blk_alloc ?_ _)); exact BK732.out) hb); have n1_ := Aside0.mk (below_step (by repeat (first | (with_reducible first | exact HB.out | apply below_alloc | apply pw_below_drewN | apply below_drew1 | refine below_set ?_ GE732.out) | exact HB.out)) hb); have n2_ := Aside0.mk (hbox); have n3_ := Aside0.mk ((by rw [hg]; exact (below_size (by repeat (first | (with_reducible first | exact HB.out | apply below_alloc | apply pw_below_drewN | apply below_drew1 | refine below_set ?_ GE732.out) | exact HB.out))) : w.heap.size ≤ gb734)); have n4_ := Aside0.mk ((by rw [hg]; exact (below_size (by repeat (first | (with_reducible first | exact HB.out | apply below_alloc | apply pw_below_drewN | apply below_drew1 | refine below_set ?_ GE732.out) | exact HB.out))) : w.heap.size ≤ gb734)); have n5_ := Aside0.mk ((by rw [hg]; exact Nat.ne_of_lt (blk_lt (g := gb732) (o := .cells #[.string a0_0, .slice A0_1 l0_1.length c0_1, .int .i64 a0_2, .slice A0_3 l0_3.length c0_3, .slice A0_4 l0_4.length c0_4, .slice (some ad733) l0_5.length c0_5] 88 (0, 0)) (by (with_reducible repeat (first | refine blk_drewN ?_ _ | refine blk_drew ?_ | refine blk_alloc ?_ _)); exact BK732.out)) : gb732 ≠ gb734)); have n6_ := Aside0.mk ((by rw [hg]; exact Nat.ne_of_gt (blk_lt (g := gb732) (o := .cells #[.string a0_0, .slice A0_1 l0_1.length c0_1, .int .i64 a0_2, .slice A0_3 l0_3.length c0_3, .slice A0_4 l0_4.length c0_4, .slice (some ad733) l0_5.length c0_5] 88 (0, 0)) (by (with_reducible repeat (first | refine blk_drewN ?_ _ | refine blk_drew ?_ | refine blk_alloc ?_ _)); exact BK732.out)) : gb734 ≠ gb732)); clear BK732; clear HB; have BK732 := n0_; have HB := n1_; have BK734 := n2_; have GW734 := n3_; have GE734 := n4_; have NB732_734 := n5_; have NB734_732 := n6_; clear n0_ n1_ n2_ n3_ n4_ n5_ n6_; clear hb hbox hg; have hnb8 := NB734_732.out; have hnc8 := NB732_734.out; have hcz9_0 := blk_cell BK734.out 0; have hcz9_1 := blk_cell BK734.out 1; have hfz9_0 := blk_frozen BK734.out 0; have hfz9_1 := blk_frozen BK734.out 1)))
     (try simp only [Act.put, List.setIfInBounds_toArray, List.set_cons_zero, List.set_cons_succ])
     go_cut [59] (fun v59 wc => ∃ (kq : Nat) (x59_4 : Bool), v59 = .bool x59_4 ∧ Aside0 (pleatref03_relocs.j1 kq x4_1 x59_4 a0_0 l0_1 a0_2 l0_3 l0_4 l0_5 ((rd_T130 l0_5 x4_1).f0) ((rd_T130 l0_5 x4_1).f1) = some (r1, r2)) ∧ Aside0 (kq ≤ k1) ∧ Aside0 (wc.heap[gb732]? = some (.cells #[.string a0_0, (.slice A0_1 l0_1.length c0_1), .int .i64 a0_2, (.slice A0_3 l0_3.length c0_3), (.slice A0_4 l0_4.length c0_4), (.slice (some ad733) l0_5.length c0_5)] 88 (0, 0))) ∧ Aside0 (wc.heap[gb734]? = some (.cells #[.int .i64 ((rd_T130 l0_5 x4_1).f0), .int .i64 ((rd_T130 l0_5 x4_1).f1)] 130 (0, 0))) ∧ Aside0 (Below w.heap.size w wc))
     case first =>
      have H := HC5.out
      clear HC5
      by_cases c10 : ((rd_T130 l0_5 x4_1).f0) < 0
      ·
       rw [if_pos c10] at H
       have c10b0 : decide (((rd_T130 l0_5 x4_1).f0) < 0) = true := decide_eq_true c10
       clear c10
       (first | rw [c10b0] | (simp only [i64_w, i32_w]; rw [c10b0]) | skip)
       have H' := Aside0.mk H
       clear H
       have hnb11 := NB734_732.out
       have hnc11 := NB732_734.out
       have hcz12_0 := blk_cell BK734.out 0
       have hcz12_1 := blk_cell BK734.out 1
       have hfz12_0 := blk_frozen BK734.out 0
       have hfz12_1 := blk_frozen BK734.out 1
       go_wp2
       repeat (go_quiet (fail); try go_wp2)
       go_meet
       case rel => exact ⟨_, (true), (by first | rfl | (simp; done) | (simp [*]; done)), H', ⟨by have := HK1.out; first | omega | exact Nat.le_refl _⟩, ⟨by (with_reducible repeat (first | refine blk_drewN ?_ _ | refine blk_drew ?_ | refine blk_alloc ?_ _)); refine blk_far ?_ NB732_734.out _; (with_reducible repeat (first | refine blk_drewN ?_ _ | refine blk_drew ?_ | refine blk_alloc ?_ _)); refine blk_far ?_ NB732_734.out _; (with_reducible repeat (first | refine blk_drewN ?_ _ | refine blk_drew ?_ | refine blk_alloc ?_ _)); exact BK732.out⟩, ⟨by (with_reducible repeat (first | refine blk_drewN ?_ _ | refine blk_drew ?_ | refine blk_alloc ?_ _)); refine blk_put (cs := #[.int .i64 ((rd_T130 l0_5 x4_1).f0), .int .i64 0]) ?_ 1 _ rfl; (with_reducible repeat (first | refine blk_drewN ?_ _ | refine blk_drew ?_ | refine blk_alloc ?_ _)); refine blk_put (cs := #[.int .i64 0, .int .i64 0]) ?_ 0 _ rfl; (with_reducible repeat (first | refine blk_drewN ?_ _ | refine blk_drew ?_ | refine blk_alloc ?_ _)); exact BK734.out⟩, ⟨by repeat (first | (with_reducible first | exact HB.out | apply below_alloc | apply pw_below_drewN | apply below_drew1 | refine below_set ?_ GE732.out | refine below_set ?_ GE734.out) | exact HB.out)⟩⟩
      ·
       rw [if_neg c10] at H
       have c10b0 : decide (((rd_T130 l0_5 x4_1).f0) < 0) = false := decide_eq_false c10
       clear c10
       (first | rw [c10b0] | (simp only [i64_w, i32_w]; rw [c10b0]) | skip)
       by_cases c13 : ((rd_T130 l0_5 x4_1).f0) ≥ (l0_1.length : Int)
       ·
        rw [if_pos c13] at H
        have c13b0 : decide ((l0_1.length : Int) ≤ ((rd_T130 l0_5 x4_1).f0)) = true := decide_eq_true c13
        clear c13
        have H' := Aside0.mk H
        clear H
        have hnb14 := NB734_732.out
        have hnc14 := NB732_734.out
        have hcz15_0 := blk_cell BK734.out 0
        have hcz15_1 := blk_cell BK734.out 1
        have hfz15_0 := blk_frozen BK734.out 0
        have hfz15_1 := blk_frozen BK734.out 1
        have hcz16_0 := blk_cell BK732.out 0
        have hcz16_1 := blk_cell BK732.out 1
        have hcz16_2 := blk_cell BK732.out 2
        have hcz16_3 := blk_cell BK732.out 3
        have hcz16_4 := blk_cell BK732.out 4
        have hcz16_5 := blk_cell BK732.out 5
        have hfz16_0 := blk_frozen BK732.out 0
        have hfz16_1 := blk_frozen BK732.out 1
        have hfz16_2 := blk_frozen BK732.out 2
        have hfz16_3 := blk_frozen BK732.out 3
        have hfz16_4 := blk_frozen BK732.out 4
        have hfz16_5 := blk_frozen BK732.out 5
        go_wp2
        repeat (go_quiet (fail); try go_wp2)
        go_meet
        case rel => exact ⟨_, (true), (by first | rfl | (simp; done) | (simp [*]; done)), H', ⟨by have := HK1.out; first | omega | exact Nat.le_refl _⟩, ⟨by (with_reducible repeat (first | refine blk_drewN ?_ _ | refine blk_drew ?_ | refine blk_alloc ?_ _)); refine blk_far ?_ NB732_734.out _; (with_reducible repeat (first | refine blk_drewN ?_ _ | refine blk_drew ?_ | refine blk_alloc ?_ _)); refine blk_far ?_ NB732_734.out _; (with_reducible repeat (first | refine blk_drewN ?_ _ | refine blk_drew ?_ | refine blk_alloc ?_ _)); exact BK732.out⟩, ⟨by (with_reducible repeat (first | refine blk_drewN ?_ _ | refine blk_drew ?_ | refine blk_alloc ?_ _)); refine blk_put (cs := #[.int .i64 ((rd_T130 l0_5 x4_1).f0), .int .i64 0]) ?_ 1 _ rfl; (with_reducible repeat (first | refine blk_drewN ?_ _ | refine blk_drew ?_ | refine blk_alloc ?_ _)); refine blk_put (cs := #[.int .i64 0, .int .i64 0]) ?_ 0 _ rfl; (with_reducible repeat (first | refine blk_drewN ?_ _ | refine blk_drew ?_ | refine blk_alloc ?_ _)); exact BK734.out⟩, ⟨by repeat (first | (with_reducible first | exact HB.out | apply below_alloc | apply pw_below_drewN | apply below_drew1 | refine below_set ?_ GE732.out | refine below_set ?_ GE734.out) | exact HB.out)⟩⟩
       ·
        rw [if_neg c13] at H
        have c13b0 : decide ((l0_1.length : Int) ≤ ((rd_T130 l0_5 x4_1).f0)) = false := decide_eq_false c13
        clear c13
        by_cases c17 : x4_1 > 0
        ·
         rw [if_pos c17] at H
         have c17b0 : decide (0 < x4_1) = true := decide_eq_true c17
         clear c17
         obtain ⟨ji18, hji18⟩ : ∃ j_ : Int, (wrap64 (x4_1 - 1)) = j_ := ⟨_, rfl⟩
         replace H : (if 0 ≤ (ji18) then (if (ji18) < (l0_5.length : Int) then (if ((rd_T130 l0_5 x4_1).f0) ≤ ((rd_T130 l0_5 (ji18)).f0) then (pleatref03_relocs.j1 k1 x4_1 true a0_0 l0_1 a0_2 l0_3 l0_4 l0_5 ((rd_T130 l0_5 x4_1).f0) ((rd_T130 l0_5 x4_1).f1)) else (if ((rd_T130 l0_5 x4_1).f1) < 0 then (pleatref03_relocs.j1 k1 x4_1 true a0_0 l0_1 a0_2 l0_3 l0_4 l0_5 ((rd_T130 l0_5 x4_1).f0) ((rd_T130 l0_5 x4_1).f1)) else (pleatref03_relocs.j1 k1 x4_1 (decide (((rd_T130 l0_5 x4_1).f1) ≥ (l0_4.length : Int))) a0_0 l0_1 a0_2 l0_3 l0_4 l0_5 ((rd_T130 l0_5 x4_1).f0) ((rd_T130 l0_5 x4_1).f1)))) else (none)) else (none)) = some (r1, r2) := by first | (rw [hji18] at H; exact H) | (simp only [hji18] at H ⊢; exact H)
         have hji18w : (IntKind.i64.wrap (x4_1 - 1)) = ji18 := (i64_w _).trans hji18
         by_cases c19 : 0 ≤ (ji18)
         ·
          rw [if_pos c19] at H
          have c19b0 : decide (0 ≤ (ji18)) = true := decide_eq_true c19
          clear c19
          by_cases c20 : (ji18) < (l0_5.length : Int)
          ·
           rw [if_pos c20] at H
           have c20b0 : decide ((ji18) < (l0_5.length : Int)) = true := decide_eq_true c20
           clear c20
           by_cases c21 : ((rd_T130 l0_5 x4_1).f0) ≤ ((rd_T130 l0_5 (ji18)).f0)
           ·
            rw [if_pos c21] at H
            have c21b0 : decide (((rd_T130 l0_5 x4_1).f0) ≤ ((rd_T130 l0_5 (ji18)).f0)) = true := decide_eq_true c21
            clear c21
            have H' := Aside0.mk H
            clear H
            have hnb22 := NB734_732.out
            have hnc22 := NB732_734.out
            have hcz23_0 := blk_cell BK734.out 0
            have hcz23_1 := blk_cell BK734.out 1
            have hfz23_0 := blk_frozen BK734.out 0
            have hfz23_1 := blk_frozen BK734.out 1
            have hcz24_0 := blk_cell BK732.out 0
            have hcz24_1 := blk_cell BK732.out 1
            have hcz24_2 := blk_cell BK732.out 2
            have hcz24_3 := blk_cell BK732.out 3
            have hcz24_4 := blk_cell BK732.out 4
            have hcz24_5 := blk_cell BK732.out 5
            have hfz24_0 := blk_frozen BK732.out 0
            have hfz24_1 := blk_frozen BK732.out 1
            have hfz24_2 := blk_frozen BK732.out 2
            have hfz24_3 := blk_frozen BK732.out 3
            have hfz24_4 := blk_frozen BK732.out 4
            have hfz24_5 := blk_frozen BK732.out 5
            have p735 : 0 ≤ ((ji18) : Int) := of_decide_eq_true (by first | (with_reducible assumption) | assumption)
            have q735 : (ji18) < (l0_5.length : Int) := of_decide_eq_true (by first | (with_reducible assumption) | assumption)
            obtain ⟨ad735, e735, hx735_0, hx735_1⟩ := at_T130 HR0_5.out (ji18) p735 q735
            obtain rfl : ad733 = ad735 := (by injection e735)
            have hn735_0 : ad733.block ≠ gb734 := Nat.ne_of_lt (Nat.lt_of_lt_of_le (by have := World.block_lt_of_cell? _ _ hx735_0; first | rwa [add_block] at this | exact this) GW734.out)
            have hn735_1 : ad733.block ≠ gb734 := Nat.ne_of_lt (Nat.lt_of_lt_of_le (by have := World.block_lt_of_cell? _ _ hx735_0; first | rwa [add_block] at this | exact this) GW734.out)
            replace hx735_0 := (HB.out.cell (World.block_lt_of_cell? w _ hx735_0)).trans hx735_0
            replace hx735_1 := (HB.out.cell (World.block_lt_of_cell? w _ hx735_1)).trans hx735_1
            replace hx735_0 := (cell_far (p := ⟨gb734, 0, none⟩) (by first | (rw [add_block]; exact hn735_0) | (show (Addr.add _ _).block ≠ _; rw [add_block]; exact hn735_0) | exact hn735_0) (.int .i64 ((rd_T130 l0_5 x4_1).f0))).trans hx735_0
            replace hx735_1 := (cell_far (p := ⟨gb734, 0, none⟩) (by first | (rw [add_block]; exact hn735_0) | (show (Addr.add _ _).block ≠ _; rw [add_block]; exact hn735_0) | exact hn735_0) (.int .i64 ((rd_T130 l0_5 x4_1).f0))).trans hx735_1
            replace hx735_0 := (cell_far (p := ⟨gb734, 1, none⟩) (by first | (rw [add_block]; exact hn735_1) | (show (Addr.add _ _).block ≠ _; rw [add_block]; exact hn735_1) | exact hn735_1) (.int .i64 ((rd_T130 l0_5 x4_1).f1))).trans hx735_0
            replace hx735_1 := (cell_far (p := ⟨gb734, 1, none⟩) (by first | (rw [add_block]; exact hn735_1) | (show (Addr.add _ _).block ≠ _; rw [add_block]; exact hn735_1) | exact hn735_1) (.int .i64 ((rd_T130 l0_5 x4_1).f1))).trans hx735_1
            (try have hy735_0 := fun (n_ : Nat) => (show ((((w7.drewN n_).setCell ⟨gb734, 0, none⟩ (.int .i64 ((rd_T130 l0_5 x4_1).f0))).setCell ⟨gb734, 1, none⟩ (.int .i64 ((rd_T130 l0_5 x4_1).f1)))).cell? _ = some _ from hx735_0))
            (try have hy735_1 := fun (n_ : Nat) => (show ((((w7.drewN n_).setCell ⟨gb734, 0, none⟩ (.int .i64 ((rd_T130 l0_5 x4_1).f0))).setCell ⟨gb734, 1, none⟩ (.int .i64 ((rd_T130 l0_5 x4_1).f1)))).cell? _ = some _ from hx735_1))
            clear hn735_0
            clear hn735_1
            replace p735 := eq_true p735
            replace q735 := eq_true q735
            go_wp2
            repeat (go_quiet (fail); try go_wp2)
            go_meet
            case rel => exact ⟨_, (true), (by first | rfl | (simp; done) | (simp [*]; done)), H', ⟨by have := HK1.out; first | omega | exact Nat.le_refl _⟩, ⟨by (with_reducible repeat (first | refine blk_drewN ?_ _ | refine blk_drew ?_ | refine blk_alloc ?_ _)); refine blk_far ?_ NB732_734.out _; (with_reducible repeat (first | refine blk_drewN ?_ _ | refine blk_drew ?_ | refine blk_alloc ?_ _)); refine blk_far ?_ NB732_734.out _; (with_reducible repeat (first | refine blk_drewN ?_ _ | refine blk_drew ?_ | refine blk_alloc ?_ _)); exact BK732.out⟩, ⟨by (with_reducible repeat (first | refine blk_drewN ?_ _ | refine blk_drew ?_ | refine blk_alloc ?_ _)); refine blk_put (cs := #[.int .i64 ((rd_T130 l0_5 x4_1).f0), .int .i64 0]) ?_ 1 _ rfl; (with_reducible repeat (first | refine blk_drewN ?_ _ | refine blk_drew ?_ | refine blk_alloc ?_ _)); refine blk_put (cs := #[.int .i64 0, .int .i64 0]) ?_ 0 _ rfl; (with_reducible repeat (first | refine blk_drewN ?_ _ | refine blk_drew ?_ | refine blk_alloc ?_ _)); exact BK734.out⟩, ⟨by repeat (first | (with_reducible first | exact HB.out | apply below_alloc | apply pw_below_drewN | apply below_drew1 | refine below_set ?_ GE732.out | refine below_set ?_ GE734.out) | exact HB.out)⟩⟩
           ·
            rw [if_neg c21] at H
            have c21b0 : decide (((rd_T130 l0_5 x4_1).f0) ≤ ((rd_T130 l0_5 (ji18)).f0)) = false := decide_eq_false c21
            clear c21
            by_cases c25 : ((rd_T130 l0_5 x4_1).f1) < 0
            ·
             rw [if_pos c25] at H
             have c25b0 : decide (((rd_T130 l0_5 x4_1).f1) < 0) = true := decide_eq_true c25
             clear c25
             have H' := Aside0.mk H
             clear H
             have hnb26 := NB734_732.out
             have hnc26 := NB732_734.out
             have hcz27_0 := blk_cell BK734.out 0
             have hcz27_1 := blk_cell BK734.out 1
             have hfz27_0 := blk_frozen BK734.out 0
             have hfz27_1 := blk_frozen BK734.out 1
             have hcz28_0 := blk_cell BK732.out 0
             have hcz28_1 := blk_cell BK732.out 1
             have hcz28_2 := blk_cell BK732.out 2
             have hcz28_3 := blk_cell BK732.out 3
             have hcz28_4 := blk_cell BK732.out 4
             have hcz28_5 := blk_cell BK732.out 5
             have hfz28_0 := blk_frozen BK732.out 0
             have hfz28_1 := blk_frozen BK732.out 1
             have hfz28_2 := blk_frozen BK732.out 2
             have hfz28_3 := blk_frozen BK732.out 3
             have hfz28_4 := blk_frozen BK732.out 4
             have hfz28_5 := blk_frozen BK732.out 5
             have p735 : 0 ≤ ((ji18) : Int) := of_decide_eq_true (by first | (with_reducible assumption) | assumption)
             have q735 : (ji18) < (l0_5.length : Int) := of_decide_eq_true (by first | (with_reducible assumption) | assumption)
             obtain ⟨ad735, e735, hx735_0, hx735_1⟩ := at_T130 HR0_5.out (ji18) p735 q735
             obtain rfl : ad733 = ad735 := (by injection e735)
             have hn735_0 : ad733.block ≠ gb734 := Nat.ne_of_lt (Nat.lt_of_lt_of_le (by have := World.block_lt_of_cell? _ _ hx735_0; first | rwa [add_block] at this | exact this) GW734.out)
             have hn735_1 : ad733.block ≠ gb734 := Nat.ne_of_lt (Nat.lt_of_lt_of_le (by have := World.block_lt_of_cell? _ _ hx735_0; first | rwa [add_block] at this | exact this) GW734.out)
             replace hx735_0 := (HB.out.cell (World.block_lt_of_cell? w _ hx735_0)).trans hx735_0
             replace hx735_1 := (HB.out.cell (World.block_lt_of_cell? w _ hx735_1)).trans hx735_1
             replace hx735_0 := (cell_far (p := ⟨gb734, 0, none⟩) (by first | (rw [add_block]; exact hn735_0) | (show (Addr.add _ _).block ≠ _; rw [add_block]; exact hn735_0) | exact hn735_0) (.int .i64 ((rd_T130 l0_5 x4_1).f0))).trans hx735_0
             replace hx735_1 := (cell_far (p := ⟨gb734, 0, none⟩) (by first | (rw [add_block]; exact hn735_0) | (show (Addr.add _ _).block ≠ _; rw [add_block]; exact hn735_0) | exact hn735_0) (.int .i64 ((rd_T130 l0_5 x4_1).f0))).trans hx735_1
             replace hx735_0 := (cell_far (p := ⟨gb734, 1, none⟩) (by first | (rw [add_block]; exact hn735_1) | (show (Addr.add _ _).block ≠ _; rw [add_block]; exact hn735_1) | exact hn735_1) (.int .i64 ((rd_T130 l0_5 x4_1).f1))).trans hx735_0
             replace hx735_1 := (cell_far (p := ⟨gb734, 1, none⟩) (by first | (rw [add_block]; exact hn735_1) | (show (Addr.add _ _).block ≠ _; rw [add_block]; exact hn735_1) | exact hn735_1) (.int .i64 ((rd_T130 l0_5 x4_1).f1))).trans hx735_1
             (try have hy735_0 := fun (n_ : Nat) => (show ((((w7.drewN n_).setCell ⟨gb734, 0, none⟩ (.int .i64 ((rd_T130 l0_5 x4_1).f0))).setCell ⟨gb734, 1, none⟩ (.int .i64 ((rd_T130 l0_5 x4_1).f1)))).cell? _ = some _ from hx735_0))
             (try have hy735_1 := fun (n_ : Nat) => (show ((((w7.drewN n_).setCell ⟨gb734, 0, none⟩ (.int .i64 ((rd_T130 l0_5 x4_1).f0))).setCell ⟨gb734, 1, none⟩ (.int .i64 ((rd_T130 l0_5 x4_1).f1)))).cell? _ = some _ from hx735_1))
             clear hn735_0
             clear hn735_1
             replace p735 := eq_true p735
             replace q735 := eq_true q735
             go_wp2
             repeat (go_quiet (fail); try go_wp2)
             go_meet
             case rel => exact ⟨_, (true), (by first | rfl | (simp; done) | (simp [*]; done)), H', ⟨by have := HK1.out; first | omega | exact Nat.le_refl _⟩, ⟨by (with_reducible repeat (first | refine blk_drewN ?_ _ | refine blk_drew ?_ | refine blk_alloc ?_ _)); refine blk_far ?_ NB732_734.out _; (with_reducible repeat (first | refine blk_drewN ?_ _ | refine blk_drew ?_ | refine blk_alloc ?_ _)); refine blk_far ?_ NB732_734.out _; (with_reducible repeat (first | refine blk_drewN ?_ _ | refine blk_drew ?_ | refine blk_alloc ?_ _)); exact BK732.out⟩, ⟨by (with_reducible repeat (first | refine blk_drewN ?_ _ | refine blk_drew ?_ | refine blk_alloc ?_ _)); refine blk_put (cs := #[.int .i64 ((rd_T130 l0_5 x4_1).f0), .int .i64 0]) ?_ 1 _ rfl; (with_reducible repeat (first | refine blk_drewN ?_ _ | refine blk_drew ?_ | refine blk_alloc ?_ _)); refine blk_put (cs := #[.int .i64 0, .int .i64 0]) ?_ 0 _ rfl; (with_reducible repeat (first | refine blk_drewN ?_ _ | refine blk_drew ?_ | refine blk_alloc ?_ _)); exact BK734.out⟩, ⟨by repeat (first | (with_reducible first | exact HB.out | apply below_alloc | apply pw_below_drewN | apply below_drew1 | refine below_set ?_ GE732.out | refine below_set ?_ GE734.out) | exact HB.out)⟩⟩
            ·
             rw [if_neg c25] at H
             have c25b0 : decide (((rd_T130 l0_5 x4_1).f1) < 0) = false := decide_eq_false c25
             clear c25
             have H' := Aside0.mk H
             clear H
             have hnb29 := NB734_732.out
             have hnc29 := NB732_734.out
             have hcz30_0 := blk_cell BK734.out 0
             have hcz30_1 := blk_cell BK734.out 1
             have hfz30_0 := blk_frozen BK734.out 0
             have hfz30_1 := blk_frozen BK734.out 1
             have hcz31_0 := blk_cell BK732.out 0
             have hcz31_1 := blk_cell BK732.out 1
             have hcz31_2 := blk_cell BK732.out 2
             have hcz31_3 := blk_cell BK732.out 3
             have hcz31_4 := blk_cell BK732.out 4
             have hcz31_5 := blk_cell BK732.out 5
             have hfz31_0 := blk_frozen BK732.out 0
             have hfz31_1 := blk_frozen BK732.out 1
             have hfz31_2 := blk_frozen BK732.out 2
             have hfz31_3 := blk_frozen BK732.out 3
             have hfz31_4 := blk_frozen BK732.out 4
             have hfz31_5 := blk_frozen BK732.out 5
             have p735 : 0 ≤ ((ji18) : Int) := of_decide_eq_true (by first | (with_reducible assumption) | assumption)
             have q735 : (ji18) < (l0_5.length : Int) := of_decide_eq_true (by first | (with_reducible assumption) | assumption)
             obtain ⟨ad735, e735, hx735_0, hx735_1⟩ := at_T130 HR0_5.out (ji18) p735 q735
             obtain rfl : ad733 = ad735 := (by injection e735)
             have hn735_0 : ad733.block ≠ gb734 := Nat.ne_of_lt (Nat.lt_of_lt_of_le (by have := World.block_lt_of_cell? _ _ hx735_0; first | rwa [add_block] at this | exact this) GW734.out)
             have hn735_1 : ad733.block ≠ gb734 := Nat.ne_of_lt (Nat.lt_of_lt_of_le (by have := World.block_lt_of_cell? _ _ hx735_0; first | rwa [add_block] at this | exact this) GW734.out)
             replace hx735_0 := (HB.out.cell (World.block_lt_of_cell? w _ hx735_0)).trans hx735_0
             replace hx735_1 := (HB.out.cell (World.block_lt_of_cell? w _ hx735_1)).trans hx735_1
             replace hx735_0 := (cell_far (p := ⟨gb734, 0, none⟩) (by first | (rw [add_block]; exact hn735_0) | (show (Addr.add _ _).block ≠ _; rw [add_block]; exact hn735_0) | exact hn735_0) (.int .i64 ((rd_T130 l0_5 x4_1).f0))).trans hx735_0
             replace hx735_1 := (cell_far (p := ⟨gb734, 0, none⟩) (by first | (rw [add_block]; exact hn735_0) | (show (Addr.add _ _).block ≠ _; rw [add_block]; exact hn735_0) | exact hn735_0) (.int .i64 ((rd_T130 l0_5 x4_1).f0))).trans hx735_1
             replace hx735_0 := (cell_far (p := ⟨gb734, 1, none⟩) (by first | (rw [add_block]; exact hn735_1) | (show (Addr.add _ _).block ≠ _; rw [add_block]; exact hn735_1) | exact hn735_1) (.int .i64 ((rd_T130 l0_5 x4_1).f1))).trans hx735_0
             replace hx735_1 := (cell_far (p := ⟨gb734, 1, none⟩) (by first | (rw [add_block]; exact hn735_1) | (show (Addr.add _ _).block ≠ _; rw [add_block]; exact hn735_1) | exact hn735_1) (.int .i64 ((rd_T130 l0_5 x4_1).f1))).trans hx735_1
             (try have hy735_0 := fun (n_ : Nat) => (show ((((w7.drewN n_).setCell ⟨gb734, 0, none⟩ (.int .i64 ((rd_T130 l0_5 x4_1).f0))).setCell ⟨gb734, 1, none⟩ (.int .i64 ((rd_T130 l0_5 x4_1).f1)))).cell? _ = some _ from hx735_0))
             (try have hy735_1 := fun (n_ : Nat) => (show ((((w7.drewN n_).setCell ⟨gb734, 0, none⟩ (.int .i64 ((rd_T130 l0_5 x4_1).f0))).setCell ⟨gb734, 1, none⟩ (.int .i64 ((rd_T130 l0_5 x4_1).f1)))).cell? _ = some _ from hx735_1))
             clear hn735_0
             clear hn735_1
             replace p735 := eq_true p735
             replace q735 := eq_true q735
             go_wp2
             repeat (go_quiet (fail); try go_wp2)
             go_meet
             case rel => exact ⟨_, (decide (((rd_T130 l0_5 x4_1).f1) ≥ (l0_4.length : Int))), (by first | rfl | (simp; done) | (simp [*]; done)), H', ⟨by have := HK1.out; first | omega | exact Nat.le_refl _⟩, ⟨by (with_reducible repeat (first | refine blk_drewN ?_ _ | refine blk_drew ?_ | refine blk_alloc ?_ _)); refine blk_far ?_ NB732_734.out _; (with_reducible repeat (first | refine blk_drewN ?_ _ | refine blk_drew ?_ | refine blk_alloc ?_ _)); refine blk_far ?_ NB732_734.out _; (with_reducible repeat (first | refine blk_drewN ?_ _ | refine blk_drew ?_ | refine blk_alloc ?_ _)); exact BK732.out⟩, ⟨by (with_reducible repeat (first | refine blk_drewN ?_ _ | refine blk_drew ?_ | refine blk_alloc ?_ _)); refine blk_put (cs := #[.int .i64 ((rd_T130 l0_5 x4_1).f0), .int .i64 0]) ?_ 1 _ rfl; (with_reducible repeat (first | refine blk_drewN ?_ _ | refine blk_drew ?_ | refine blk_alloc ?_ _)); refine blk_put (cs := #[.int .i64 0, .int .i64 0]) ?_ 0 _ rfl; (with_reducible repeat (first | refine blk_drewN ?_ _ | refine blk_drew ?_ | refine blk_alloc ?_ _)); exact BK734.out⟩, ⟨by repeat (first | (with_reducible first | exact HB.out | apply below_alloc | apply pw_below_drewN | apply below_drew1 | refine below_set ?_ GE732.out | refine below_set ?_ GE734.out) | exact HB.out)⟩⟩
          ·
           rw [if_neg c20] at H
           exact absurd H (by simp)
         ·
          rw [if_neg c19] at H
          exact absurd H (by simp)
        ·
         rw [if_neg c17] at H
         have c17b0 : decide (0 < x4_1) = false := decide_eq_false c17
         clear c17
         by_cases c32 : ((rd_T130 l0_5 x4_1).f1) < 0
         ·
          rw [if_pos c32] at H
          have c32b0 : decide (((rd_T130 l0_5 x4_1).f1) < 0) = true := decide_eq_true c32
          clear c32
          have H' := Aside0.mk H
          clear H
          have hnb33 := NB734_732.out
          have hnc33 := NB732_734.out
          have hcz34_0 := blk_cell BK734.out 0
          have hcz34_1 := blk_cell BK734.out 1
          have hfz34_0 := blk_frozen BK734.out 0
          have hfz34_1 := blk_frozen BK734.out 1
          have hcz35_0 := blk_cell BK732.out 0
          have hcz35_1 := blk_cell BK732.out 1
          have hcz35_2 := blk_cell BK732.out 2
          have hcz35_3 := blk_cell BK732.out 3
          have hcz35_4 := blk_cell BK732.out 4
          have hcz35_5 := blk_cell BK732.out 5
          have hfz35_0 := blk_frozen BK732.out 0
          have hfz35_1 := blk_frozen BK732.out 1
          have hfz35_2 := blk_frozen BK732.out 2
          have hfz35_3 := blk_frozen BK732.out 3
          have hfz35_4 := blk_frozen BK732.out 4
          have hfz35_5 := blk_frozen BK732.out 5
          go_wp2
          repeat (go_quiet (fail); try go_wp2)
          go_meet
          case rel => exact ⟨_, (true), (by first | rfl | (simp; done) | (simp [*]; done)), H', ⟨by have := HK1.out; first | omega | exact Nat.le_refl _⟩, ⟨by (with_reducible repeat (first | refine blk_drewN ?_ _ | refine blk_drew ?_ | refine blk_alloc ?_ _)); refine blk_far ?_ NB732_734.out _; (with_reducible repeat (first | refine blk_drewN ?_ _ | refine blk_drew ?_ | refine blk_alloc ?_ _)); refine blk_far ?_ NB732_734.out _; (with_reducible repeat (first | refine blk_drewN ?_ _ | refine blk_drew ?_ | refine blk_alloc ?_ _)); exact BK732.out⟩, ⟨by (with_reducible repeat (first | refine blk_drewN ?_ _ | refine blk_drew ?_ | refine blk_alloc ?_ _)); refine blk_put (cs := #[.int .i64 ((rd_T130 l0_5 x4_1).f0), .int .i64 0]) ?_ 1 _ rfl; (with_reducible repeat (first | refine blk_drewN ?_ _ | refine blk_drew ?_ | refine blk_alloc ?_ _)); refine blk_put (cs := #[.int .i64 0, .int .i64 0]) ?_ 0 _ rfl; (with_reducible repeat (first | refine blk_drewN ?_ _ | refine blk_drew ?_ | refine blk_alloc ?_ _)); exact BK734.out⟩, ⟨by repeat (first | (with_reducible first | exact HB.out | apply below_alloc | apply pw_below_drewN | apply below_drew1 | refine below_set ?_ GE732.out | refine below_set ?_ GE734.out) | exact HB.out)⟩⟩
         ·
          rw [if_neg c32] at H
          have c32b0 : decide (((rd_T130 l0_5 x4_1).f1) < 0) = false := decide_eq_false c32
          clear c32
          have H' := Aside0.mk H
          clear H
          have hnb36 := NB734_732.out
          have hnc36 := NB732_734.out
          have hcz37_0 := blk_cell BK734.out 0
          have hcz37_1 := blk_cell BK734.out 1
          have hfz37_0 := blk_frozen BK734.out 0
          have hfz37_1 := blk_frozen BK734.out 1
          have hcz38_0 := blk_cell BK732.out 0
          have hcz38_1 := blk_cell BK732.out 1
          have hcz38_2 := blk_cell BK732.out 2
          have hcz38_3 := blk_cell BK732.out 3
          have hcz38_4 := blk_cell BK732.out 4
          have hcz38_5 := blk_cell BK732.out 5
          have hfz38_0 := blk_frozen BK732.out 0
          have hfz38_1 := blk_frozen BK732.out 1
          have hfz38_2 := blk_frozen BK732.out 2
          have hfz38_3 := blk_frozen BK732.out 3
          have hfz38_4 := blk_frozen BK732.out 4
          have hfz38_5 := blk_frozen BK732.out 5
          go_wp2
          repeat (go_quiet (fail); try go_wp2)
          go_meet
          case rel => exact ⟨_, (decide (((rd_T130 l0_5 x4_1).f1) ≥ (l0_4.length : Int))), (by first | rfl | (simp; done) | (simp [*]; done)), H', ⟨by have := HK1.out; first | omega | exact Nat.le_refl _⟩, ⟨by (with_reducible repeat (first | refine blk_drewN ?_ _ | refine blk_drew ?_ | refine blk_alloc ?_ _)); refine blk_far ?_ NB732_734.out _; (with_reducible repeat (first | refine blk_drewN ?_ _ | refine blk_drew ?_ | refine blk_alloc ?_ _)); refine blk_far ?_ NB732_734.out _; (with_reducible repeat (first | refine blk_drewN ?_ _ | refine blk_drew ?_ | refine blk_alloc ?_ _)); exact BK732.out⟩, ⟨by (with_reducible repeat (first | refine blk_drewN ?_ _ | refine blk_drew ?_ | refine blk_alloc ?_ _)); refine blk_put (cs := #[.int .i64 ((rd_T130 l0_5 x4_1).f0), .int .i64 0]) ?_ 1 _ rfl; (with_reducible repeat (first | refine blk_drewN ?_ _ | refine blk_drew ?_ | refine blk_alloc ?_ _)); refine blk_put (cs := #[.int .i64 0, .int .i64 0]) ?_ 0 _ rfl; (with_reducible repeat (first | refine blk_drewN ?_ _ | refine blk_drew ?_ | refine blk_alloc ?_ _)); exact BK734.out⟩, ⟨by repeat (first | (with_reducible first | exact HB.out | apply below_alloc | apply pw_below_drewN | apply below_drew1 | refine below_set ?_ GE732.out | refine below_set ?_ GE734.out) | exact HB.out)⟩⟩
     case rest =>
      clear HC5
      try clear c1
      try clear c2
      try clear p2
      try clear c3
      try clear c3b0
      try clear c4
      try clear c4b0
      try clear p6
      try clear p7
      try clear q7
      try clear hx7
      try clear c8
      try clear c10
      try clear c10b0
      try clear c11
      try clear c13
      try clear c13b0
      try clear c14
      try clear c17
      try clear c17b0
      try clear c19
      try clear c19b0
      try clear c20
      try clear c20b0
      try clear c21
      try clear c21b0
      try clear c22
      try clear c25
      try clear c25b0
      try clear c26
      try clear c29
      try clear c32
      try clear c32b0
      try clear c33
      try clear c36
      try clear hcz12_0
      try clear hcz12_1
      try clear hcz15_0
      try clear hcz15_1
      try clear hcz16_0
      try clear hcz16_1
      try clear hcz16_2
      try clear hcz16_3
      try clear hcz16_4
      try clear hcz16_5
      try clear hcz23_0
      try clear hcz23_1
      try clear hcz24_0
      try clear hcz24_1
      try clear hcz24_2
      try clear hcz24_3
      try clear hcz24_4
      try clear hcz24_5
      try clear hcz27_0
      try clear hcz27_1
      try clear hcz28_0
      try clear hcz28_1
      try clear hcz28_2
      try clear hcz28_3
      try clear hcz28_4
      try clear hcz28_5
      try clear hcz30_0
      try clear hcz30_1
      try clear hcz31_0
      try clear hcz31_1
      try clear hcz31_2
      try clear hcz31_3
      try clear hcz31_4
      try clear hcz31_5
      try clear hcz34_0
      try clear hcz34_1
      try clear hcz35_0
      try clear hcz35_1
      try clear hcz35_2
      try clear hcz35_3
      try clear hcz35_4
      try clear hcz35_5
      try clear hcz37_0
      try clear hcz37_1
      try clear hcz38_0
      try clear hcz38_1
      try clear hcz38_2
      try clear hcz38_3
      try clear hcz38_4
      try clear hcz38_5
      try clear hcz6_0
      try clear hcz6_1
      try clear hcz6_2
      try clear hcz6_3
      try clear hcz6_4
      try clear hcz6_5
      try clear hcz9_0
      try clear hcz9_1
      try clear hfz12_0
      try clear hfz12_1
      try clear hfz15_0
      try clear hfz15_1
      try clear hfz16_0
      try clear hfz16_1
      try clear hfz16_2
      try clear hfz16_3
      try clear hfz16_4
      try clear hfz16_5
      try clear hfz23_0
      try clear hfz23_1
      try clear hfz24_0
      try clear hfz24_1
      try clear hfz24_2
      try clear hfz24_3
      try clear hfz24_4
      try clear hfz24_5
      try clear hfz27_0
      try clear hfz27_1
      try clear hfz28_0
      try clear hfz28_1
      try clear hfz28_2
      try clear hfz28_3
      try clear hfz28_4
      try clear hfz28_5
      try clear hfz30_0
      try clear hfz30_1
      try clear hfz31_0
      try clear hfz31_1
      try clear hfz31_2
      try clear hfz31_3
      try clear hfz31_4
      try clear hfz31_5
      try clear hfz34_0
      try clear hfz34_1
      try clear hfz35_0
      try clear hfz35_1
      try clear hfz35_2
      try clear hfz35_3
      try clear hfz35_4
      try clear hfz35_5
      try clear hfz37_0
      try clear hfz37_1
      try clear hfz38_0
      try clear hfz38_1
      try clear hfz38_2
      try clear hfz38_3
      try clear hfz38_4
      try clear hfz38_5
      try clear hfz6_0
      try clear hfz6_1
      try clear hfz6_2
      try clear hfz6_3
      try clear hfz6_4
      try clear hfz6_5
      try clear hfz9_0
      try clear hfz9_1
      try clear hx733_0
      try clear hx733_1
      try clear hx735_0
      try clear hx735_1
      try clear p2
      try clear p733
      try clear p735
      try clear q733
      try clear q735
      obtain ⟨kq, x59_4, rfl, HA, HJ4, BK732, BK734, HB⟩ := hcut
      cases kq with
      | zero => exact absurd HA.out (by simp [pleatref03_relocs.j1])
      | succ kj4 =>
       have H := HA.out
       clear HA
       simp only [pleatref03_relocs.j1] at H
       by_cases c39 : x59_4 = true
       ·
        subst c39
        have H1 : (some (24, x4_1)) = some (r1, r2) := by rw [if_pos rfl] at H; exact H
        clear H
        have H := H1
        clear H1
        simp only [Option.some.injEq, Prod.mk.injEq] at H
        obtain ⟨rfl, rfl⟩ := H
        go_wp2
        repeat (go_quiet (fail); try go_wp2)
        go_ret2
        exact ⟨by first | rfl | (simp [errW_none, errW_some] <;> rfl) | (simp [*, errW_none, errW_some] <;> rfl), by repeat (first | (with_reducible first | exact HB.out | apply below_alloc | apply pw_below_drewN | apply below_drew1 | refine below_set ?_ GE732.out | refine below_set ?_ GE734.out) | exact HB.out)⟩
       ·
        replace c39 := Bool.eq_false_iff.mpr c39
        subst c39
        have H1 : (if 0 ≤ ((rd_T130 l0_5 x4_1).f0) then (if ((rd_T130 l0_5 x4_1).f0) < (l0_1.length : Int) then ((pleatref02_Target.f kj4 (rd l0_1 ((rd_T130 l0_5 x4_1).f0))).bind fun bt737 => (if bt737.2 = true then (if bt737.1 = 0 then (pleatref03_relocs.l0 kj4 (wrap64 (x4_1 + 1)) a0_0 l0_1 a0_2 l0_3 l0_4 l0_5) else (some (24, x4_1))) else (some (24, x4_1)))) else (none)) else (none)) = some (r1, r2) := by rw [if_neg (show ¬ (false = true) by decide)] at H; exact H
        clear H
        have H := H1
        clear H1
        by_cases c40 : 0 ≤ ((rd_T130 l0_5 x4_1).f0)
        ·
         rw [if_pos c40] at H
         have c40b0 : decide (0 ≤ ((rd_T130 l0_5 x4_1).f0)) = true := decide_eq_true c40
         clear c40
         by_cases c41 : ((rd_T130 l0_5 x4_1).f0) < (l0_1.length : Int)
         ·
          rw [if_pos c41] at H
          have c41b0 : decide (((rd_T130 l0_5 x4_1).f0) < (l0_1.length : Int)) = true := decide_eq_true c41
          clear c41
          replace H := Option.bind_eq_some_iff.mp H
          obtain ⟨⟨t737, t738⟩, A420, H⟩ := H
          try dsimp only at H
          have A42 := Aside0.mk A420
          clear A420
          by_cases c43 : t738 = true
          ·
           subst c43
           have H1 : (if t737 = 0 then (pleatref03_relocs.l0 kj4 (wrap64 (x4_1 + 1)) a0_0 l0_1 a0_2 l0_3 l0_4 l0_5) else (some (24, x4_1))) = some (r1, r2) := by rw [if_pos rfl] at H; exact H
           clear H
           have H := H1
           clear H1
           by_cases c44 : t737 = 0
           ·
            rw [if_pos c44] at H
            have c44b0 : (t737 == 0) = true := beq_iff_eq.mpr c44
            have c44b1 : (t737 != 0) = false := bne_eq_false_iff_eq.mpr c44
            clear c44
            have H' := Aside0.mk H
            clear H
            have hnb45 := NB732_734.out
            have hnc45 := NB734_732.out
            have hcz46_0 := blk_cell BK732.out 0
            have hcz46_1 := blk_cell BK732.out 1
            have hcz46_2 := blk_cell BK732.out 2
            have hcz46_3 := blk_cell BK732.out 3
            have hcz46_4 := blk_cell BK732.out 4
            have hcz46_5 := blk_cell BK732.out 5
            have hfz46_0 := blk_frozen BK732.out 0
            have hfz46_1 := blk_frozen BK732.out 1
            have hfz46_2 := blk_frozen BK732.out 2
            have hfz46_3 := blk_frozen BK732.out 3
            have hfz46_4 := blk_frozen BK732.out 4
            have hfz46_5 := blk_frozen BK732.out 5
            have hcz47_0 := blk_cell BK734.out 0
            have hcz47_1 := blk_cell BK734.out 1
            have hfz47_0 := blk_frozen BK734.out 0
            have hfz47_1 := blk_frozen BK734.out 1
            have p736 : 0 ≤ (((rd_T130 l0_5 x4_1).f0) : Int) := of_decide_eq_true (by first | (with_reducible assumption) | assumption)
            have q736 : ((rd_T130 l0_5 x4_1).f0) < (l0_1.length : Int) := of_decide_eq_true (by first | (with_reducible assumption) | assumption)
            obtain ⟨ad736, e736, hx736_0⟩ := Kd.at_int HR0_1.out ((rd_T130 l0_5 x4_1).f0) p736 q736
            cases e736
            replace hx736_0 := (HB.out.cell (World.block_lt_of_cell? w _ hx736_0)).trans hx736_0
            replace p736 := eq_true p736
            replace q736 := eq_true q736
            go_wp2_with (first | (go_at_call 26; (with_reducible refine (pleatref02_Target.calls kj4 (rd l0_1 ((rd_T130 l0_5 x4_1).f0)) t737 true _ A42.out).mono ?_); rintro e w48 ⟨rfl, hb⟩; have n0_ := Aside0.mk (blk_below (g := gb732) (o := .cells #[.string a0_0, .slice (some ad736) l0_1.length c0_1, .int .i64 a0_2, .slice A0_3 l0_3.length c0_3, .slice A0_4 l0_4.length c0_4, .slice (some ad733) l0_5.length c0_5] 88 (0, 0)) (by (with_reducible repeat (first | refine blk_drewN ?_ _ | refine blk_drew ?_ | refine blk_alloc ?_ _)); exact BK732.out) hb); have n1_ := Aside0.mk (blk_below (g := gb734) (o := .cells #[.int .i64 ((rd_T130 l0_5 x4_1).f0), .int .i64 ((rd_T130 l0_5 x4_1).f1)] 130 (0, 0)) (by (with_reducible repeat (first | refine blk_drewN ?_ _ | refine blk_drew ?_ | refine blk_alloc ?_ _)); exact BK734.out) hb); have n2_ := Aside0.mk (below_step (by repeat (first | (with_reducible first | exact HB.out | apply below_alloc | apply pw_below_drewN | apply below_drew1 | refine below_set ?_ GE732.out | refine below_set ?_ GE734.out) | exact HB.out)) hb); clear BK732; clear BK734; clear HB; have BK732 := n0_; have BK734 := n1_; have HB := n2_; clear n0_ n1_ n2_; (try clear hb); (try clear hb2); (try clear hk); (try clear hi)))
            repeat (go_quiet (first | (go_at_call 26; (with_reducible refine (pleatref02_Target.calls kj4 (rd l0_1 ((rd_T130 l0_5 x4_1).f0)) t737 true _ A42.out).mono ?_); rintro e w48 ⟨rfl, hb⟩; have n0_ := Aside0.mk (blk_below (g := gb732) (o := .cells #[.string a0_0, .slice (some ad736) l0_1.length c0_1, .int .i64 a0_2, .slice A0_3 l0_3.length c0_3, .slice A0_4 l0_4.length c0_4, .slice (some ad733) l0_5.length c0_5] 88 (0, 0)) (by (with_reducible repeat (first | refine blk_drewN ?_ _ | refine blk_drew ?_ | refine blk_alloc ?_ _)); exact BK732.out) hb); have n1_ := Aside0.mk (blk_below (g := gb734) (o := .cells #[.int .i64 ((rd_T130 l0_5 x4_1).f0), .int .i64 ((rd_T130 l0_5 x4_1).f1)] 130 (0, 0)) (by (with_reducible repeat (first | refine blk_drewN ?_ _ | refine blk_drew ?_ | refine blk_alloc ?_ _)); exact BK734.out) hb); have n2_ := Aside0.mk (below_step (by repeat (first | (with_reducible first | exact HB.out | apply below_alloc | apply pw_below_drewN | apply below_drew1 | refine below_set ?_ GE732.out | refine below_set ?_ GE734.out) | exact HB.out)) hb); clear BK732; clear BK734; clear HB; have BK732 := n0_; have BK734 := n1_; have HB := n2_; clear n0_ n1_ n2_; (try clear hb); (try clear hb2); (try clear hk); (try clear hi))); try go_wp2_with (first | (go_at_call 26; (with_reducible refine (pleatref02_Target.calls kj4 (rd l0_1 ((rd_T130 l0_5 x4_1).f0)) t737 true _ A42.out).mono ?_); rintro e w48 ⟨rfl, hb⟩; have n0_ := Aside0.mk (blk_below (g := gb732) (o := .cells #[.string a0_0, .slice (some ad736) l0_1.length c0_1, .int .i64 a0_2, .slice A0_3 l0_3.length c0_3, .slice A0_4 l0_4.length c0_4, .slice (some ad733) l0_5.length c0_5] 88 (0, 0)) (by (with_reducible repeat (first | refine blk_drewN ?_ _ | refine blk_drew ?_ | refine blk_alloc ?_ _)); exact BK732.out) hb); have n1_ := Aside0.mk (blk_below (g := gb734) (o := .cells #[.int .i64 ((rd_T130 l0_5 x4_1).f0), .int .i64 ((rd_T130 l0_5 x4_1).f1)] 130 (0, 0)) (by (with_reducible repeat (first | refine blk_drewN ?_ _ | refine blk_drew ?_ | refine blk_alloc ?_ _)); exact BK734.out) hb); have n2_ := Aside0.mk (below_step (by repeat (first | (with_reducible first | exact HB.out | apply below_alloc | apply pw_below_drewN | apply below_drew1 | refine below_set ?_ GE732.out | refine below_set ?_ GE734.out) | exact HB.out)) hb); clear BK732; clear BK734; clear HB; have BK732 := n0_; have BK734 := n1_; have HB := n2_; clear n0_ n1_ n2_; (try clear hb); (try clear hb2); (try clear hk); (try clear hi))))
            go_roundg kj4
            case measure => have := HK1.out; have := HJ4.out; omega
            case rel => exact ⟨(wrap64 (x4_1 + 1)), (by first | rfl | (simp; done) | (simp [*]; done)), H', ⟨by have := HK1.out; have := HJ4.out; omega⟩, ⟨by (with_reducible repeat (first | refine blk_drewN ?_ _ | refine blk_drew ?_ | refine blk_alloc ?_ _)); exact BK732.out⟩, ⟨by repeat (first | (with_reducible first | exact HB.out | apply below_alloc | apply pw_below_drewN | apply below_drew1 | refine below_set ?_ GE732.out | refine below_set ?_ GE734.out) | exact HB.out)⟩⟩
           ·
            rw [if_neg c44] at H
            have c44b0 : (t737 == 0) = false := beq_eq_false_iff_ne.mpr c44
            have c44b1 : (t737 != 0) = true := bne_iff_ne.mpr c44
            simp only [Option.some.injEq, Prod.mk.injEq] at H
            obtain ⟨rfl, rfl⟩ := H
            have hnb49 := NB732_734.out
            have hnc49 := NB734_732.out
            have hcz50_0 := blk_cell BK732.out 0
            have hcz50_1 := blk_cell BK732.out 1
            have hcz50_2 := blk_cell BK732.out 2
            have hcz50_3 := blk_cell BK732.out 3
            have hcz50_4 := blk_cell BK732.out 4
            have hcz50_5 := blk_cell BK732.out 5
            have hfz50_0 := blk_frozen BK732.out 0
            have hfz50_1 := blk_frozen BK732.out 1
            have hfz50_2 := blk_frozen BK732.out 2
            have hfz50_3 := blk_frozen BK732.out 3
            have hfz50_4 := blk_frozen BK732.out 4
            have hfz50_5 := blk_frozen BK732.out 5
            have hcz51_0 := blk_cell BK734.out 0
            have hcz51_1 := blk_cell BK734.out 1
            have hfz51_0 := blk_frozen BK734.out 0
            have hfz51_1 := blk_frozen BK734.out 1
            have p736 : 0 ≤ (((rd_T130 l0_5 x4_1).f0) : Int) := of_decide_eq_true (by first | (with_reducible assumption) | assumption)
            have q736 : ((rd_T130 l0_5 x4_1).f0) < (l0_1.length : Int) := of_decide_eq_true (by first | (with_reducible assumption) | assumption)
            obtain ⟨ad736, e736, hx736_0⟩ := Kd.at_int HR0_1.out ((rd_T130 l0_5 x4_1).f0) p736 q736
            cases e736
            replace hx736_0 := (HB.out.cell (World.block_lt_of_cell? w _ hx736_0)).trans hx736_0
            replace p736 := eq_true p736
            replace q736 := eq_true q736
            go_wp2_with (first | (go_at_call 26; (with_reducible refine (pleatref02_Target.calls kj4 (rd l0_1 ((rd_T130 l0_5 x4_1).f0)) t737 true _ A42.out).mono ?_); rintro e w52 ⟨rfl, hb⟩; have n0_ := Aside0.mk (blk_below (g := gb732) (o := .cells #[.string a0_0, .slice (some ad736) l0_1.length c0_1, .int .i64 a0_2, .slice A0_3 l0_3.length c0_3, .slice A0_4 l0_4.length c0_4, .slice (some ad733) l0_5.length c0_5] 88 (0, 0)) (by (with_reducible repeat (first | refine blk_drewN ?_ _ | refine blk_drew ?_ | refine blk_alloc ?_ _)); exact BK732.out) hb); have n1_ := Aside0.mk (blk_below (g := gb734) (o := .cells #[.int .i64 ((rd_T130 l0_5 x4_1).f0), .int .i64 ((rd_T130 l0_5 x4_1).f1)] 130 (0, 0)) (by (with_reducible repeat (first | refine blk_drewN ?_ _ | refine blk_drew ?_ | refine blk_alloc ?_ _)); exact BK734.out) hb); have n2_ := Aside0.mk (below_step (by repeat (first | (with_reducible first | exact HB.out | apply below_alloc | apply pw_below_drewN | apply below_drew1 | refine below_set ?_ GE732.out | refine below_set ?_ GE734.out) | exact HB.out)) hb); clear BK732; clear BK734; clear HB; have BK732 := n0_; have BK734 := n1_; have HB := n2_; clear n0_ n1_ n2_; (try clear hb); (try clear hb2); (try clear hk); (try clear hi)))
            repeat (go_quiet (first | (go_at_call 26; (with_reducible refine (pleatref02_Target.calls kj4 (rd l0_1 ((rd_T130 l0_5 x4_1).f0)) t737 true _ A42.out).mono ?_); rintro e w52 ⟨rfl, hb⟩; have n0_ := Aside0.mk (blk_below (g := gb732) (o := .cells #[.string a0_0, .slice (some ad736) l0_1.length c0_1, .int .i64 a0_2, .slice A0_3 l0_3.length c0_3, .slice A0_4 l0_4.length c0_4, .slice (some ad733) l0_5.length c0_5] 88 (0, 0)) (by (with_reducible repeat (first | refine blk_drewN ?_ _ | refine blk_drew ?_ | refine blk_alloc ?_ _)); exact BK732.out) hb); have n1_ := Aside0.mk (blk_below (g := gb734) (o := .cells #[.int .i64 ((rd_T130 l0_5 x4_1).f0), .int .i64 ((rd_T130 l0_5 x4_1).f1)] 130 (0, 0)) (by (with_reducible repeat (first | refine blk_drewN ?_ _ | refine blk_drew ?_ | refine blk_alloc ?_ _)); exact BK734.out) hb); have n2_ := Aside0.mk (below_step (by repeat (first | (with_reducible first | exact HB.out | apply below_alloc | apply pw_below_drewN | apply below_drew1 | refine below_set ?_ GE732.out | refine below_set ?_ GE734.out) | exact HB.out)) hb); clear BK732; clear BK734; clear HB; have BK732 := n0_; have BK734 := n1_; have HB := n2_; clear n0_ n1_ n2_; (try clear hb); (try clear hb2); (try clear hk); (try clear hi))); try go_wp2_with (first | (go_at_call 26; (with_reducible refine (pleatref02_Target.calls kj4 (rd l0_1 ((rd_T130 l0_5 x4_1).f0)) t737 true _ A42.out).mono ?_); rintro e w52 ⟨rfl, hb⟩; have n0_ := Aside0.mk (blk_below (g := gb732) (o := .cells #[.string a0_0, .slice (some ad736) l0_1.length c0_1, .int .i64 a0_2, .slice A0_3 l0_3.length c0_3, .slice A0_4 l0_4.length c0_4, .slice (some ad733) l0_5.length c0_5] 88 (0, 0)) (by (with_reducible repeat (first | refine blk_drewN ?_ _ | refine blk_drew ?_ | refine blk_alloc ?_ _)); exact BK732.out) hb); have n1_ := Aside0.mk (blk_below (g := gb734) (o := .cells #[.int .i64 ((rd_T130 l0_5 x4_1).f0), .int .i64 ((rd_T130 l0_5 x4_1).f1)] 130 (0, 0)) (by (with_reducible repeat (first | refine blk_drewN ?_ _ | refine blk_drew ?_ | refine blk_alloc ?_ _)); exact BK734.out) hb); have n2_ := Aside0.mk (below_step (by repeat (first | (with_reducible first | exact HB.out | apply below_alloc | apply pw_below_drewN | apply below_drew1 | refine below_set ?_ GE732.out | refine below_set ?_ GE734.out) | exact HB.out)) hb); clear BK732; clear BK734; clear HB; have BK732 := n0_; have BK734 := n1_; have HB := n2_; clear n0_ n1_ n2_; (try clear hb); (try clear hb2); (try clear hk); (try clear hi))))
            go_ret2
            exact ⟨by first | rfl | (simp [errW_none, errW_some] <;> rfl) | (simp [*, errW_none, errW_some] <;> rfl), by repeat (first | (with_reducible first | exact HB.out | apply below_alloc | apply pw_below_drewN | apply below_drew1 | refine below_set ?_ GE732.out | refine below_set ?_ GE734.out) | exact HB.out)⟩
          ·
           replace c43 := Bool.eq_false_iff.mpr c43
           subst c43
           have H1 : (some (24, x4_1)) = some (r1, r2) := by rw [if_neg (show ¬ (false = true) by decide)] at H; exact H
           clear H
           have H := H1
           clear H1
           simp only [Option.some.injEq, Prod.mk.injEq] at H
           obtain ⟨rfl, rfl⟩ := H
           have hnb53 := NB732_734.out
           have hnc53 := NB734_732.out
           have hcz54_0 := blk_cell BK732.out 0
           have hcz54_1 := blk_cell BK732.out 1
           have hcz54_2 := blk_cell BK732.out 2
           have hcz54_3 := blk_cell BK732.out 3
           have hcz54_4 := blk_cell BK732.out 4
           have hcz54_5 := blk_cell BK732.out 5
           have hfz54_0 := blk_frozen BK732.out 0
           have hfz54_1 := blk_frozen BK732.out 1
           have hfz54_2 := blk_frozen BK732.out 2
           have hfz54_3 := blk_frozen BK732.out 3
           have hfz54_4 := blk_frozen BK732.out 4
           have hfz54_5 := blk_frozen BK732.out 5
           have hcz55_0 := blk_cell BK734.out 0
           have hcz55_1 := blk_cell BK734.out 1
           have hfz55_0 := blk_frozen BK734.out 0
           have hfz55_1 := blk_frozen BK734.out 1
           have p736 : 0 ≤ (((rd_T130 l0_5 x4_1).f0) : Int) := of_decide_eq_true (by first | (with_reducible assumption) | assumption)
           have q736 : ((rd_T130 l0_5 x4_1).f0) < (l0_1.length : Int) := of_decide_eq_true (by first | (with_reducible assumption) | assumption)
           obtain ⟨ad736, e736, hx736_0⟩ := Kd.at_int HR0_1.out ((rd_T130 l0_5 x4_1).f0) p736 q736
           cases e736
           replace hx736_0 := (HB.out.cell (World.block_lt_of_cell? w _ hx736_0)).trans hx736_0
           replace p736 := eq_true p736
           replace q736 := eq_true q736
           go_wp2_with (first | (go_at_call 26; (with_reducible refine (pleatref02_Target.calls kj4 (rd l0_1 ((rd_T130 l0_5 x4_1).f0)) t737 false _ A42.out).mono ?_); rintro e w56 ⟨rfl, hb⟩; have n0_ := Aside0.mk (blk_below (g := gb732) (o := .cells #[.string a0_0, .slice (some ad736) l0_1.length c0_1, .int .i64 a0_2, .slice A0_3 l0_3.length c0_3, .slice A0_4 l0_4.length c0_4, .slice (some ad733) l0_5.length c0_5] 88 (0, 0)) (by (with_reducible repeat (first | refine blk_drewN ?_ _ | refine blk_drew ?_ | refine blk_alloc ?_ _)); exact BK732.out) hb); have n1_ := Aside0.mk (blk_below (g := gb734) (o := .cells #[.int .i64 ((rd_T130 l0_5 x4_1).f0), .int .i64 ((rd_T130 l0_5 x4_1).f1)] 130 (0, 0)) (by (with_reducible repeat (first | refine blk_drewN ?_ _ | refine blk_drew ?_ | refine blk_alloc ?_ _)); exact BK734.out) hb); have n2_ := Aside0.mk (below_step (by repeat (first | (with_reducible first | exact HB.out | apply below_alloc | apply pw_below_drewN | apply below_drew1 | refine below_set ?_ GE732.out | refine below_set ?_ GE734.out) | exact HB.out)) hb); clear BK732; clear BK734; clear HB; have BK732 := n0_; have BK734 := n1_; have HB := n2_; clear n0_ n1_ n2_; (try clear hb); (try clear hb2); (try clear hk); (try clear hi)))
           repeat (go_quiet (first | (go_at_call 26; (with_reducible refine (pleatref02_Target.calls kj4 (rd l0_1 ((rd_T130 l0_5 x4_1).f0)) t737 false _ A42.out).mono ?_); rintro e w56 ⟨rfl, hb⟩; have n0_ := Aside0.mk (blk_below (g := gb732) (o := .cells #[.string a0_0, .slice (some ad736) l0_1.length c0_1, .int .i64 a0_2, .slice A0_3 l0_3.length c0_3, .slice A0_4 l0_4.length c0_4, .slice (some ad733) l0_5.length c0_5] 88 (0, 0)) (by (with_reducible repeat (first | refine blk_drewN ?_ _ | refine blk_drew ?_ | refine blk_alloc ?_ _)); exact BK732.out) hb); have n1_ := Aside0.mk (blk_below (g := gb734) (o := .cells #[.int .i64 ((rd_T130 l0_5 x4_1).f0), .int .i64 ((rd_T130 l0_5 x4_1).f1)] 130 (0, 0)) (by (with_reducible repeat (first | refine blk_drewN ?_ _ | refine blk_drew ?_ | refine blk_alloc ?_ _)); exact BK734.out) hb); have n2_ := Aside0.mk (below_step (by repeat (first | (with_reducible first | exact HB.out | apply below_alloc | apply pw_below_drewN | apply below_drew1 | refine below_set ?_ GE732.out | refine below_set ?_ GE734.out) | exact HB.out)) hb); clear BK732; clear BK734; clear HB; have BK732 := n0_; have BK734 := n1_; have HB := n2_; clear n0_ n1_ n2_; (try clear hb); (try clear hb2); (try clear hk); (try clear hi))); try go_wp2_with (first | (go_at_call 26; (with_reducible refine (pleatref02_Target.calls kj4 (rd l0_1 ((rd_T130 l0_5 x4_1).f0)) t737 false _ A42.out).mono ?_); rintro e w56 ⟨rfl, hb⟩; have n0_ := Aside0.mk (blk_below (g := gb732) (o := .cells #[.string a0_0, .slice (some ad736) l0_1.length c0_1, .int .i64 a0_2, .slice A0_3 l0_3.length c0_3, .slice A0_4 l0_4.length c0_4, .slice (some ad733) l0_5.length c0_5] 88 (0, 0)) (by (with_reducible repeat (first | refine blk_drewN ?_ _ | refine blk_drew ?_ | refine blk_alloc ?_ _)); exact BK732.out) hb); have n1_ := Aside0.mk (blk_below (g := gb734) (o := .cells #[.int .i64 ((rd_T130 l0_5 x4_1).f0), .int .i64 ((rd_T130 l0_5 x4_1).f1)] 130 (0, 0)) (by (with_reducible repeat (first | refine blk_drewN ?_ _ | refine blk_drew ?_ | refine blk_alloc ?_ _)); exact BK734.out) hb); have n2_ := Aside0.mk (below_step (by repeat (first | (with_reducible first | exact HB.out | apply below_alloc | apply pw_below_drewN | apply below_drew1 | refine below_set ?_ GE732.out | refine below_set ?_ GE734.out) | exact HB.out)) hb); clear BK732; clear BK734; clear HB; have BK732 := n0_; have BK734 := n1_; have HB := n2_; clear n0_ n1_ n2_; (try clear hb); (try clear hb2); (try clear hk); (try clear hi))))
           go_ret2
           exact ⟨by first | rfl | (simp [errW_none, errW_some] <;> rfl) | (simp [*, errW_none, errW_some] <;> rfl), by repeat (first | (with_reducible first | exact HB.out | apply below_alloc | apply pw_below_drewN | apply below_drew1 | refine below_set ?_ GE732.out | refine below_set ?_ GE734.out) | exact HB.out)⟩
         ·
          rw [if_neg c41] at H
          exact absurd H (by simp)
        ·
         rw [if_neg c40] at H
         exact absurd H (by simp)
    ·
     rw [if_neg c4] at H
     exact absurd H (by simp)
   ·
    rw [if_neg c3] at H
    have c3b0 : decide (x4_1 < (l0_5.length : Int)) = false := decide_eq_false c3
    clear c3
    simp only [Option.some.injEq, Prod.mk.injEq] at H
    obtain ⟨rfl, rfl⟩ := H
    have hcz57_0 := blk_cell BK732.out 0
    have hcz57_1 := blk_cell BK732.out 1
    have hcz57_2 := blk_cell BK732.out 2
    have hcz57_3 := blk_cell BK732.out 3
    have hcz57_4 := blk_cell BK732.out 4
    have hcz57_5 := blk_cell BK732.out 5
    have hfz57_0 := blk_frozen BK732.out 0
    have hfz57_1 := blk_frozen BK732.out 1
    have hfz57_2 := blk_frozen BK732.out 2
    have hfz57_3 := blk_frozen BK732.out 3
    have hfz57_4 := blk_frozen BK732.out 4
    have hfz57_5 := blk_frozen BK732.out 5
    go_wp2
    repeat (go_quiet (fail); try go_wp2)
    go_ret2
    exact ⟨by first | rfl | (simp [errW_none, errW_some] <;> rfl) | (simp [*, errW_none, errW_some] <;> rfl), by repeat (first | (with_reducible first | exact HB.out | apply below_alloc | apply pw_below_drewN | apply below_drew1 | refine below_set ?_ GE732.out) | exact HB.out)⟩
end Go.Proofs.Ytiaohbbafaaibaa.P
