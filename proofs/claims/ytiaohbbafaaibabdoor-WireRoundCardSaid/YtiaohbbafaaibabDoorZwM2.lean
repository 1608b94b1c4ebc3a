/- OWN TEXT and printed parts of this claim, laid together: P4, IsaL, HObjD. -/
import Derived.Test.YtiaohbbafaaibabDoorZwM0
import Derived.Test.YtiaohbbafaaibabDoorZwM1
/- What the Go functions named below come to, as plain functions, each with its proof; written by this session's prt.py over the kit's print. -/
namespace Go.Proofs.YtiaohbbafaaibabDoor.P
open Go.RowKit Go.Proofs.YtiaohbbafaaibabDoorW.PrintWords Go.Proofs.YtiaohbbafaaibabDoorW.PrintLast Go.Proofs.YtiaohbbafaaibabDoorW.PrintMore
attribute [local go_sem] max2_int min2_int max_two min_two max_three min_three max_four min_four   -- for this text's walks alone
set_option linter.unusedVariables false
set_option linter.unusedSimpArgs false
/-! ### isa_Decode: function 64 -/
def isa_Decode.j0 : Nat → Int → Bool → Int → Int → Int → Int → Int → Option (Int × Int × Int × Int × Int)
 | 0, _, _, _, _, _, _, _ => none
 | k + 1, x0, x41, x105000, x105001, x105002, x105003, x105004 => if x41 = true then ((isa_Encode.f x105000 x105001 x105002 x105003 (wrap64 (x105004 - 32768))).bind fun bt106 => (if bt106.2 = 0 then (if bt106.1 = x0 then (some (x105000, x105001, x105002, x105003, wrap64 (x105004 - 32768))) else (some ((-1), 0, 0, 0, wrap64 (x0)))) else (some ((-1), 0, 0, 0, wrap64 (x0))))) else ((isa_Encode.f x105000 x105001 x105002 x105003 x105004).bind fun bt108 => (if bt108.2 = 0 then (if bt108.1 = x0 then (some (x105000, x105001, x105002, x105003, x105004)) else (some ((-1), 0, 0, 0, wrap64 (x0)))) else (some ((-1), 0, 0, 0, wrap64 (x0)))))
def isa_Decode.f (k : Nat) (a0 : Int) : Option (Int × Int × Int × Int × Int) := (isa_has.f (IntKind.i8.wrap (a0 / 134217728))).bind fun t105 => (if (Go.bits .and .i64 t105 8) = 0 then (isa_Decode.j0 k a0 false (IntKind.i8.wrap (a0 / 134217728)) (IntKind.i8.wrap (Go.bits .and .u32 (a0 / 8388608) 15)) (IntKind.i8.wrap (Go.bits .and .u32 (a0 / 524288) 15)) (IntKind.i8.wrap (Go.bits .and .u32 (a0 / 32768) 15)) (wrap64 (Go.bits .and .u32 a0 32767))) else (if (Go.bits .and .i64 t105 16) = 0 then (isa_Decode.j0 k a0 (decide ((wrap64 (Go.bits .and .u32 a0 32767)) ≥ 16384)) (IntKind.i8.wrap (a0 / 134217728)) (IntKind.i8.wrap (Go.bits .and .u32 (a0 / 8388608) 15)) (IntKind.i8.wrap (Go.bits .and .u32 (a0 / 524288) 15)) (IntKind.i8.wrap (Go.bits .and .u32 (a0 / 32768) 15)) (wrap64 (Go.bits .and .u32 a0 32767))) else (isa_Decode.j0 k a0 false (IntKind.i8.wrap (a0 / 134217728)) (IntKind.i8.wrap (Go.bits .and .u32 (a0 / 8388608) 15)) (IntKind.i8.wrap (Go.bits .and .u32 (a0 / 524288) 15)) (IntKind.i8.wrap (Go.bits .and .u32 (a0 / 32768) 15)) (wrap64 (Go.bits .and .u32 a0 32767)))))
theorem isa_Decode.mono_l : ∀ k, (∀ y0 y1 y2 y3 y4 y5 y6, LeO (isa_Decode.j0 k y0 y1 y2 y3 y4 y5 y6) (isa_Decode.j0 (k + 1) y0 y1 y2 y3 y4 y5 y6))
 | 0 => fun _ _ _ _ _ _ _ r h => by simp [isa_Decode.j0] at h
 | k + 1 => by
  have ih0 := isa_Decode.mono_l k
  ·
   intro y0 y1 y2 y3 y4 y5 y6
   unfold isa_Decode.j0
   repeat' first
   | (with_reducible exact ih0 _ _ _ _ _ _ _)
   | (with_reducible exact LeO.refl _)
   | (with_reducible exact LeO.none _)
   | (with_reducible refine LeO.ite ?_ ?_)
   | (with_reducible refine LeO.bind ?_ (fun _ => ?_))
   | exact ih0 _ _ _ _ _ _ _
   | exact LeO.none _
   | refine LeO.ite ?_ ?_
   | refine LeO.bind ?_ (fun _ => ?_)
theorem isa_Decode.mono : ∀ a0 k, LeO (isa_Decode.f k a0) (isa_Decode.f (k + 1) a0) := by
 intro a0 k
 have ih0 := isa_Decode.mono_l k
 unfold isa_Decode.f
 repeat' first
   | (with_reducible exact ih0 _ _ _ _ _ _ _)
   | (with_reducible exact LeO.refl _)
   | (with_reducible exact LeO.none _)
   | (with_reducible refine LeO.ite ?_ ?_)
   | (with_reducible refine LeO.bind ?_ (fun _ => ?_))
   | exact ih0 _ _ _ _ _ _ _
   | exact LeO.none _
   | refine LeO.ite ?_ ?_
   | refine LeO.bind ?_ (fun _ => ?_)
set_option maxHeartbeats 8000000 in
set_option maxRecDepth 100000 in
theorem isa_Decode.calls (k : Nat) (a0 : Int) (r1 : Int) (r2 : Int) (r3 : Int) (r4 : Int) (r5 : Int) (w : World) (h : isa_Decode.f k a0 = some (r1, r2, r3, r4, r5)) :
  Calls Tryd.prog 64 #[.int .u32 a0] w fun e w' => e = .returned (.agg #[.int .i8 r1, .int .i8 r2, .int .i8 r3, .int .i8 r4, .int .i64 r5]) ∧ Below w.heap.size w w' := by
 have hu127 := Tryd.underlying127
 have HB := Aside0.mk (Below.refl w.heap.size w)
 have H : ((isa_has.f (IntKind.i8.wrap (a0 / 134217728))).bind fun t105 => (if (Go.bits .and .i64 t105 8) = 0 then (isa_Decode.j0 k a0 false (IntKind.i8.wrap (a0 / 134217728)) (IntKind.i8.wrap (Go.bits .and .u32 (a0 / 8388608) 15)) (IntKind.i8.wrap (Go.bits .and .u32 (a0 / 524288) 15)) (IntKind.i8.wrap (Go.bits .and .u32 (a0 / 32768) 15)) (wrap64 (Go.bits .and .u32 a0 32767))) else (if (Go.bits .and .i64 t105 16) = 0 then (isa_Decode.j0 k a0 (decide ((wrap64 (Go.bits .and .u32 a0 32767)) ≥ 16384)) (IntKind.i8.wrap (a0 / 134217728)) (IntKind.i8.wrap (Go.bits .and .u32 (a0 / 8388608) 15)) (IntKind.i8.wrap (Go.bits .and .u32 (a0 / 524288) 15)) (IntKind.i8.wrap (Go.bits .and .u32 (a0 / 32768) 15)) (wrap64 (Go.bits .and .u32 a0 32767))) else (isa_Decode.j0 k a0 false (IntKind.i8.wrap (a0 / 134217728)) (IntKind.i8.wrap (Go.bits .and .u32 (a0 / 8388608) 15)) (IntKind.i8.wrap (Go.bits .and .u32 (a0 / 524288) 15)) (IntKind.i8.wrap (Go.bits .and .u32 (a0 / 32768) 15)) (wrap64 (Go.bits .and .u32 a0 32767)))))) = some (r1, r2, r3, r4, r5) := h
 clear h
 replace H := Option.bind_eq_some_iff.mp H
 obtain ⟨t105, A20, H⟩ := H
 try dsimp only at H
 have A2 := Aside0.mk A20
 clear A20
 have HC3 := Aside0.mk H
 clear H
 go_enter Tryd.func64, Tryd.ntmps64
 go_upto_region 3 with (first | ((with_reducible refine gate_dst (N := 2) rfl ?_); refine box_event ?hg (N := 2) ?hd (cs := #[.int .i8 0, .int .i8 0, .int .i8 0, .int .i8 0, .int .i64 0]) (t := 127) ?hr ?_; (case hd => rfl); (case hg => rfl); (case hr => first | (go_simp; done) | (go_simp; rfl)); intro gb103 hg w4 hbox hb; have n0_ := Aside0.mk (below_step (by repeat (first | (with_reducible first | exact HB.out | apply below_alloc | apply pw_below_drewN | apply below_drew1) | exact HB.out)) hb); have n1_ := Aside0.mk (hbox); have n2_ := Aside0.mk ((by rw [hg]; exact (below_size (by repeat (first | (with_reducible first | exact HB.out | apply below_alloc | apply pw_below_drewN | apply below_drew1) | exact HB.out))) : w.heap.size ≤ gb103)); have n3_ := Aside0.mk ((by rw [hg]; exact (below_size (by repeat (first | (with_reducible first | exact HB.out | apply below_alloc | apply pw_below_drewN | apply below_drew1) | exact HB.out))) : w.heap.size ≤ gb103)); clear HB; have HB := n0_; have BK103 := n1_; have GW103 := n2_; have GE103 := n3_; clear n0_ n1_ n2_ n3_; clear hb hbox hg) | ((with_reducible refine gate_dst (N := 3) rfl ?_); refine box_event ?hg (N := 3) ?hd (cs := #[.int .i8 0, .int .i8 0, .int .i8 0, .int .i8 0, .int .i64 0]) (t := 127) ?hr ?_; (case hd => rfl); (case hg => rfl); (case hr => first | (go_simp; done) | (go_simp; rfl)); intro gb104 hg w5 hbox hb; have n0_ := Aside0.mk (blk_below (g := gb103) (o := .cells #[.int .i8 0, .int .i8 0, .int .i8 0, .int .i8 0, .int .i64 0] 127 (0, 0)) (by (with_reducible repeat (first | refine blk_drewN ?_ _ | refine blk_drew ?_ | refine blk_alloc ?_ _)); exact BK103.out) hb); have n1_ := Aside0.mk (below_step (by repeat (first | (with_reducible first | exact HB.out | apply below_alloc | apply pw_below_drewN | apply below_drew1 | refine below_set ?_ GE103.out) | exact HB.out)) hb); have n2_ := Aside0.mk (hbox); have n3_ := Aside0.mk ((by rw [hg]; exact (below_size (by repeat (first | (with_reducible first | exact HB.out | apply below_alloc | apply pw_below_drewN | apply below_drew1 | refine below_set ?_ GE103.out) | exact HB.out))) : w.heap.size ≤ gb104)); have n4_ := Aside0.mk ((by rw [hg]; exact (below_size (by repeat (first | (with_reducible first | exact HB.out | apply below_alloc | apply pw_below_drewN | apply below_drew1 | refine below_set ?_ GE103.out) | exact HB.out))) : w.heap.size ≤ gb104)); have n5_ := Aside0.mk ((by rw [hg]; exact Nat.ne_of_lt (blk_lt (g := gb103) (o := .cells #[.int .i8 0, .int .i8 0, .int .i8 0, .int .i8 0, .int .i64 0] 127 (0, 0)) (by (with_reducible repeat (first | refine blk_drewN ?_ _ | refine blk_drew ?_ | refine blk_alloc ?_ _)); exact BK103.out)) : gb103 ≠ gb104)); have n6_ := Aside0.mk ((by rw [hg]; exact Nat.ne_of_gt (blk_lt (g := gb103) (o := .cells #[.int .i8 0, .int .i8 0, .int .i8 0, .int .i8 0, .int .i64 0] 127 (0, 0)) (by (with_reducible repeat (first | refine blk_drewN ?_ _ | refine blk_drew ?_ | refine blk_alloc ?_ _)); exact BK103.out)) : gb104 ≠ gb103)); clear BK103; clear HB; have BK103 := n0_; have HB := n1_; have BK104 := n2_; have GW104 := n3_; have GE104 := n4_; have NB103_104 := n5_; have NB104_103 := n6_; clear n0_ n1_ n2_ n3_ n4_ n5_ n6_; clear hb hbox hg; have hnb6 := NB104_103.out; have hnc6 := NB103_104.out; have hcz7_0 : w5.cell? ⟨gb104, 0, none⟩ = some (.int .i8 0) := (blk_cell BK104.out 0).trans rfl; have hcz7_1 : w5.cell? ⟨gb104, 1, none⟩ = some (.int .i8 0) := (blk_cell BK104.out 1).trans rfl; have hcz7_2 : w5.cell? ⟨gb104, 2, none⟩ = some (.int .i8 0) := (blk_cell BK104.out 2).trans rfl; have hcz7_3 : w5.cell? ⟨gb104, 3, none⟩ = some (.int .i8 0) := (blk_cell BK104.out 3).trans rfl; have hcz7_4 : w5.cell? ⟨gb104, 4, none⟩ = some (.int .i64 0) := (blk_cell BK104.out 4).trans rfl; have hfz7_0 := blk_frozen BK104.out 0; have hfz7_1 := blk_frozen BK104.out 1; have hfz7_2 := blk_frozen BK104.out 2; have hfz7_3 := blk_frozen BK104.out 3; have hfz7_4 := blk_frozen BK104.out 4) | ((with_reducible refine gate_callee (f := 69) rfl ?_); refine goesL_ (some 28) rfl rfl Tryd.func69 (by kernel_rfl) rfl #[.int .i8 (IntKind.i8.wrap (a0 / 134217728))] rfl (by (try simp only [List.map_toArray, List.map_cons, List.map_nil]); first | done | rfl | (simp only [List.length_drop, List.length_take]; rfl)) ?_; (with_reducible refine (isa_has.calls (IntKind.i8.wrap (a0 / 134217728)) t105 _ A2.out).mono ?_); rintro e w8 ⟨rfl, hb⟩; refine ⟨_, rfl, ?_⟩; have n0_ := Aside0.mk (blk_below (g := gb103) (o := .cells #[.int .i8 0, .int .i8 0, .int .i8 0, .int .i8 0, .int .i64 0] 127 (0, 0)) (by (with_reducible repeat (first | refine blk_drewN ?_ _ | refine blk_drew ?_ | refine blk_alloc ?_ _)); refine blk_far ?_ NB103_104.out _; (with_reducible repeat (first | refine blk_drewN ?_ _ | refine blk_drew ?_ | refine blk_alloc ?_ _)); refine blk_far ?_ NB103_104.out _; (with_reducible repeat (first | refine blk_drewN ?_ _ | refine blk_drew ?_ | refine blk_alloc ?_ _)); refine blk_far ?_ NB103_104.out _; (with_reducible repeat (first | refine blk_drewN ?_ _ | refine blk_drew ?_ | refine blk_alloc ?_ _)); refine blk_far ?_ NB103_104.out _; (with_reducible repeat (first | refine blk_drewN ?_ _ | refine blk_drew ?_ | refine blk_alloc ?_ _)); refine blk_far ?_ NB103_104.out _; (with_reducible repeat (first | refine blk_drewN ?_ _ | refine blk_drew ?_ | refine blk_alloc ?_ _)); exact BK103.out) hb); have n1_ := Aside0.mk (blk_below (g := gb104) (o := .cells #[.int .i8 (IntKind.i8.wrap (a0 / 134217728)), .int .i8 (IntKind.i8.wrap (Go.bits .and .u32 (a0 / 8388608) 15)), .int .i8 (IntKind.i8.wrap (Go.bits .and .u32 (a0 / 524288) 15)), .int .i8 (IntKind.i8.wrap (Go.bits .and .u32 (a0 / 32768) 15)), .int .i64 (wrap64 (Go.bits .and .u32 a0 32767))] 127 (0, 0)) (by (with_reducible repeat (first | refine blk_drewN ?_ _ | refine blk_drew ?_ | refine blk_alloc ?_ _)); refine blk_put (cs := #[.int .i8 (IntKind.i8.wrap (a0 / 134217728)), .int .i8 (IntKind.i8.wrap (Go.bits .and .u32 (a0 / 8388608) 15)), .int .i8 (IntKind.i8.wrap (Go.bits .and .u32 (a0 / 524288) 15)), .int .i8 (IntKind.i8.wrap (Go.bits .and .u32 (a0 / 32768) 15)), .int .i64 0]) ?_ 4 _ rfl; (with_reducible repeat (first | refine blk_drewN ?_ _ | refine blk_drew ?_ | refine blk_alloc ?_ _)); refine blk_put (cs := #[.int .i8 (IntKind.i8.wrap (a0 / 134217728)), .int .i8 (IntKind.i8.wrap (Go.bits .and .u32 (a0 / 8388608) 15)), .int .i8 (IntKind.i8.wrap (Go.bits .and .u32 (a0 / 524288) 15)), .int .i8 0, .int .i64 0]) ?_ 3 _ rfl; (with_reducible repeat (first | refine blk_drewN ?_ _ | refine blk_drew ?_ | refine blk_alloc ?_ _)); refine blk_put (cs := #[.int .i8 (IntKind.i8.wrap (a0 / 134217728)), .int .i8 (IntKind.i8.wrap (Go.bits .and .u32 (a0 / 8388608) 15)), .int .i8 0, .int .i8 0, .int .i64 0]) ?_ 2 _ rfl; (with_reducible repeat (first | refine blk_drewN ?_ _ | refine blk_drew ?_ | refine blk_alloc ?_ _)); refine blk_put (cs := #[.int .i8 (IntKind.i8.wrap (a0 / 134217728)), .int .i8 0, .int .i8 0, .int .i8 0, .int .i64 0]) ?_ 1 _ rfl; (with_reducible repeat (first | refine blk_drewN ?_ _ | refine blk_drew ?_ | refine blk_alloc ?_ _)); refine blk_put (cs := #[.int .i8 0, .int .i8 0, .int .i8 0, .int .i8 0, .int .i64 0]) ?_ 0 _ rfl; (with_reducible repeat (first | refine blk_drewN ?_ _ | refine blk_drew ?_ | refine blk_alloc ?_ _)); exact BK104.out) hb); have n2_ := Aside0.mk (below_step (by repeat (first | (with_reducible first | exact HB.out | apply below_alloc | apply pw_below_drewN | apply below_drew1 | refine below_set ?_ GE103.out | refine below_set ?_ GE104.out) | exact HB.out)) hb); clear BK103; clear BK104; clear HB; have BK103 := n0_; have BK104 := n1_; have HB := n2_; clear n0_ n1_ n2_; (try clear hb); (try clear hb2); (try clear hk); (try clear hi)))
 (try simp only [Act.put, List.setIfInBounds_toArray, List.set_cons_zero, List.set_cons_succ])
 go_cut [41] (fun v41 wc => ∃ (kq : Nat) (x41_2 : Bool), v41 = .bool x41_2 ∧ Aside0 (isa_Decode.j0 kq a0 x41_2 (IntKind.i8.wrap (a0 / 134217728)) (IntKind.i8.wrap (Go.bits .and .u32 (a0 / 8388608) 15)) (IntKind.i8.wrap (Go.bits .and .u32 (a0 / 524288) 15)) (IntKind.i8.wrap (Go.bits .and .u32 (a0 / 32768) 15)) (wrap64 (Go.bits .and .u32 a0 32767)) = some (r1, r2, r3, r4, r5)) ∧ Aside0 (kq ≤ k) ∧ Aside0 (wc.heap[gb103]? = some (.cells #[.int .i8 0, .int .i8 0, .int .i8 0, .int .i8 0, .int .i64 0] 127 (0, 0))) ∧ Aside0 (wc.heap[gb104]? = some (.cells #[.int .i8 (IntKind.i8.wrap (a0 / 134217728)), .int .i8 (IntKind.i8.wrap (Go.bits .and .u32 (a0 / 8388608) 15)), .int .i8 (IntKind.i8.wrap (Go.bits .and .u32 (a0 / 524288) 15)), .int .i8 (IntKind.i8.wrap (Go.bits .and .u32 (a0 / 32768) 15)), .int .i64 (wrap64 (Go.bits .and .u32 a0 32767))] 127 (0, 0))) ∧ Aside0 (Below w.heap.size w wc))
 case first =>
  have H := HC3.out
  clear HC3
  by_cases c9 : (Go.bits .and .i64 t105 8) = 0
  ·
   rw [if_pos c9] at H
   have c9b0 : ((Go.bits .and .i64 t105 8) == 0) = true := beq_iff_eq.mpr c9
   have c9b1 : ((Go.bits .and .i64 t105 8) != 0) = false := bne_eq_false_iff_eq.mpr c9
   clear c9
   (first | rw [c9b0] | (simp only [i64_w, i32_w]; rw [c9b0]) | skip)
   have H' := Aside0.mk H
   clear H
   go_wp2
   go_meet
   case rel => exact ⟨_, (false), (by first | rfl | (simp; done) | (simp [*]; done)), H', ⟨by first | omega | exact Nat.le_refl _⟩, ⟨by (with_reducible repeat (first | refine blk_drewN ?_ _ | refine blk_drew ?_ | refine blk_alloc ?_ _)); exact BK103.out⟩, ⟨by (with_reducible repeat (first | refine blk_drewN ?_ _ | refine blk_drew ?_ | refine blk_alloc ?_ _)); exact BK104.out⟩, ⟨by repeat (first | (with_reducible first | exact HB.out | apply below_alloc | apply pw_below_drewN | apply below_drew1 | refine below_set ?_ GE103.out | refine below_set ?_ GE104.out) | exact HB.out)⟩⟩
  ·
   rw [if_neg c9] at H
   have c9b0 : ((Go.bits .and .i64 t105 8) == 0) = false := beq_eq_false_iff_ne.mpr c9
   have c9b1 : ((Go.bits .and .i64 t105 8) != 0) = true := bne_iff_ne.mpr c9
   (first | rw [c9b0] | (simp only [i64_w, i32_w]; rw [c9b0]) | skip)
   by_cases c10 : (Go.bits .and .i64 t105 16) = 0
   ·
    rw [if_pos c10] at H
    have c10b0 : ((Go.bits .and .i64 t105 16) == 0) = true := beq_iff_eq.mpr c10
    have c10b1 : ((Go.bits .and .i64 t105 16) != 0) = false := bne_eq_false_iff_eq.mpr c10
    clear c10
    have H' := Aside0.mk H
    clear H
    have hnb11 := NB104_103.out
    have hnc11 := NB103_104.out
    have hcz12_0 : w8.cell? ⟨gb104, 0, none⟩ = some (.int .i8 (IntKind.i8.wrap (a0 / 134217728))) := (blk_cell BK104.out 0).trans rfl
    have hcz12_1 : w8.cell? ⟨gb104, 1, none⟩ = some (.int .i8 (IntKind.i8.wrap (Go.bits .and .u32 (a0 / 8388608) 15))) := (blk_cell BK104.out 1).trans rfl
    have hcz12_2 : w8.cell? ⟨gb104, 2, none⟩ = some (.int .i8 (IntKind.i8.wrap (Go.bits .and .u32 (a0 / 524288) 15))) := (blk_cell BK104.out 2).trans rfl
    have hcz12_3 : w8.cell? ⟨gb104, 3, none⟩ = some (.int .i8 (IntKind.i8.wrap (Go.bits .and .u32 (a0 / 32768) 15))) := (blk_cell BK104.out 3).trans rfl
    have hcz12_4 : w8.cell? ⟨gb104, 4, none⟩ = some (.int .i64 (wrap64 (Go.bits .and .u32 a0 32767))) := (blk_cell BK104.out 4).trans rfl
    have hfz12_0 := blk_frozen BK104.out 0
    have hfz12_1 := blk_frozen BK104.out 1
    have hfz12_2 := blk_frozen BK104.out 2
    have hfz12_3 := blk_frozen BK104.out 3
    have hfz12_4 := blk_frozen BK104.out 4
    go_wp2
    go_meet
    case rel => exact ⟨_, (decide ((wrap64 (Go.bits .and .u32 a0 32767)) ≥ 16384)), (by first | rfl | (simp; done) | (simp [*]; done)), H', ⟨by first | omega | exact Nat.le_refl _⟩, ⟨by (with_reducible repeat (first | refine blk_drewN ?_ _ | refine blk_drew ?_ | refine blk_alloc ?_ _)); exact BK103.out⟩, ⟨by (with_reducible repeat (first | refine blk_drewN ?_ _ | refine blk_drew ?_ | refine blk_alloc ?_ _)); exact BK104.out⟩, ⟨by repeat (first | (with_reducible first | exact HB.out | apply below_alloc | apply pw_below_drewN | apply below_drew1 | refine below_set ?_ GE103.out | refine below_set ?_ GE104.out) | exact HB.out)⟩⟩
   ·
    rw [if_neg c10] at H
    have c10b0 : ((Go.bits .and .i64 t105 16) == 0) = false := beq_eq_false_iff_ne.mpr c10
    have c10b1 : ((Go.bits .and .i64 t105 16) != 0) = true := bne_iff_ne.mpr c10
    have H' := Aside0.mk H
    clear H
    go_wp2
    go_meet
    case rel => exact ⟨_, (false), (by first | rfl | (simp; done) | (simp [*]; done)), H', ⟨by first | omega | exact Nat.le_refl _⟩, ⟨by (with_reducible repeat (first | refine blk_drewN ?_ _ | refine blk_drew ?_ | refine blk_alloc ?_ _)); exact BK103.out⟩, ⟨by (with_reducible repeat (first | refine blk_drewN ?_ _ | refine blk_drew ?_ | refine blk_alloc ?_ _)); exact BK104.out⟩, ⟨by repeat (first | (with_reducible first | exact HB.out | apply below_alloc | apply pw_below_drewN | apply below_drew1 | refine below_set ?_ GE103.out | refine below_set ?_ GE104.out) | exact HB.out)⟩⟩
 case rest =>
  clear HC3
  try clear c1
  try clear p2
  try clear c6
  try clear p6
  try clear c9
  try clear c9b0
  try clear c9b1
  try clear c10
  try clear c10b0
  try clear c10b1
  try clear c11
  try clear hcz12_0
  try clear hcz12_1
  try clear hcz12_2
  try clear hcz12_3
  try clear hcz12_4
  try clear hcz7_0
  try clear hcz7_1
  try clear hcz7_2
  try clear hcz7_3
  try clear hcz7_4
  try clear hfz12_0
  try clear hfz12_1
  try clear hfz12_2
  try clear hfz12_3
  try clear hfz12_4
  try clear hfz7_0
  try clear hfz7_1
  try clear hfz7_2
  try clear hfz7_3
  try clear hfz7_4
  obtain ⟨kq, x41_2, rfl, HA, HJ2, BK103, BK104, HB⟩ := hcut
  cases kq with
  | zero => exact absurd HA.out (by simp [isa_Decode.j0])
  | succ kj2 =>
   have H := HA.out
   clear HA
   simp only [isa_Decode.j0] at H
   by_cases c13 : x41_2 = true
   ·
    subst c13
    have H1 : ((isa_Encode.f (IntKind.i8.wrap (a0 / 134217728)) (IntKind.i8.wrap (Go.bits .and .u32 (a0 / 8388608) 15)) (IntKind.i8.wrap (Go.bits .and .u32 (a0 / 524288) 15)) (IntKind.i8.wrap (Go.bits .and .u32 (a0 / 32768) 15)) (wrap64 ((wrap64 (Go.bits .and .u32 a0 32767)) - 32768))).bind fun bt106 => (if bt106.2 = 0 then (if bt106.1 = a0 then (some ((IntKind.i8.wrap (a0 / 134217728)), (IntKind.i8.wrap (Go.bits .and .u32 (a0 / 8388608) 15)), (IntKind.i8.wrap (Go.bits .and .u32 (a0 / 524288) 15)), (IntKind.i8.wrap (Go.bits .and .u32 (a0 / 32768) 15)), wrap64 ((wrap64 (Go.bits .and .u32 a0 32767)) - 32768))) else (some ((-1), 0, 0, 0, wrap64 (a0)))) else (some ((-1), 0, 0, 0, wrap64 (a0))))) = some (r1, r2, r3, r4, r5) := by rw [if_pos rfl] at H; exact H
    clear H
    have H := H1
    clear H1
    replace H := Option.bind_eq_some_iff.mp H
    obtain ⟨⟨t106, t107⟩, A140, H⟩ := H
    try dsimp only at H
    have A14 := Aside0.mk A140
    clear A140
    by_cases c15 : t107 = 0
    ·
     rw [if_pos c15] at H
     have c15b0 : (t107 == 0) = true := beq_iff_eq.mpr c15
     have c15b1 : (t107 != 0) = false := bne_eq_false_iff_eq.mpr c15
     clear c15
     by_cases c16 : t106 = a0
     ·
      rw [if_pos c16] at H
      have c16b0 : (t106 == a0) = true := beq_iff_eq.mpr c16
      have c16b1 : (t106 != a0) = false := bne_eq_false_iff_eq.mpr c16
      clear c16
      simp only [Option.some.injEq, Prod.mk.injEq] at H
      obtain ⟨rfl, rfl, rfl, rfl, rfl⟩ := H
      have hnb17 := NB104_103.out
      have hnc17 := NB103_104.out
      have hcz18_0 : wc.cell? ⟨gb104, 0, none⟩ = some (.int .i8 (IntKind.i8.wrap (a0 / 134217728))) := (blk_cell BK104.out 0).trans rfl
      have hcz18_1 : wc.cell? ⟨gb104, 1, none⟩ = some (.int .i8 (IntKind.i8.wrap (Go.bits .and .u32 (a0 / 8388608) 15))) := (blk_cell BK104.out 1).trans rfl
      have hcz18_2 : wc.cell? ⟨gb104, 2, none⟩ = some (.int .i8 (IntKind.i8.wrap (Go.bits .and .u32 (a0 / 524288) 15))) := (blk_cell BK104.out 2).trans rfl
      have hcz18_3 : wc.cell? ⟨gb104, 3, none⟩ = some (.int .i8 (IntKind.i8.wrap (Go.bits .and .u32 (a0 / 32768) 15))) := (blk_cell BK104.out 3).trans rfl
      have hcz18_4 : wc.cell? ⟨gb104, 4, none⟩ = some (.int .i64 (wrap64 (Go.bits .and .u32 a0 32767))) := (blk_cell BK104.out 4).trans rfl
      have hfz18_0 := blk_frozen BK104.out 0
      have hfz18_1 := blk_frozen BK104.out 1
      have hfz18_2 := blk_frozen BK104.out 2
      have hfz18_3 := blk_frozen BK104.out 3
      have hfz18_4 := blk_frozen BK104.out 4
      go_wp2_with (first | ((with_reducible refine gate_callee (f := 70) rfl ?_); refine goesL_ (some 48) rfl rfl Tryd.func70 (by kernel_rfl) rfl #[.agg #[.int .i8 (IntKind.i8.wrap (a0 / 134217728)), .int .i8 (IntKind.i8.wrap (Go.bits .and .u32 (a0 / 8388608) 15)), .int .i8 (IntKind.i8.wrap (Go.bits .and .u32 (a0 / 524288) 15)), .int .i8 (IntKind.i8.wrap (Go.bits .and .u32 (a0 / 32768) 15)), .int .i64 (wrap64 ((wrap64 (Go.bits .and .u32 a0 32767)) - 32768))]] rfl (by (try simp only [List.map_toArray, List.map_cons, List.map_nil]); first | done | rfl | (simp only [List.length_drop, List.length_take]; rfl)) ?_; (with_reducible refine (isa_Encode.calls (IntKind.i8.wrap (a0 / 134217728)) (IntKind.i8.wrap (Go.bits .and .u32 (a0 / 8388608) 15)) (IntKind.i8.wrap (Go.bits .and .u32 (a0 / 524288) 15)) (IntKind.i8.wrap (Go.bits .and .u32 (a0 / 32768) 15)) (wrap64 ((wrap64 (Go.bits .and .u32 a0 32767)) - 32768)) t106 t107 _ A14.out).mono ?_); rintro e w19 ⟨rfl, hb⟩; refine ⟨_, rfl, ?_⟩; have n0_ := Aside0.mk (blk_below (g := gb103) (o := .cells #[.int .i8 0, .int .i8 0, .int .i8 0, .int .i8 0, .int .i64 0] 127 (0, 0)) (by (with_reducible repeat (first | refine blk_drewN ?_ _ | refine blk_drew ?_ | refine blk_alloc ?_ _)); refine blk_far ?_ NB103_104.out _; (with_reducible repeat (first | refine blk_drewN ?_ _ | refine blk_drew ?_ | refine blk_alloc ?_ _)); exact BK103.out) hb); have n1_ := Aside0.mk (blk_below (g := gb104) (o := .cells #[.int .i8 (IntKind.i8.wrap (a0 / 134217728)), .int .i8 (IntKind.i8.wrap (Go.bits .and .u32 (a0 / 8388608) 15)), .int .i8 (IntKind.i8.wrap (Go.bits .and .u32 (a0 / 524288) 15)), .int .i8 (IntKind.i8.wrap (Go.bits .and .u32 (a0 / 32768) 15)), .int .i64 (wrap64 ((wrap64 (Go.bits .and .u32 a0 32767)) - 32768))] 127 (0, 0)) (by (with_reducible repeat (first | refine blk_drewN ?_ _ | refine blk_drew ?_ | refine blk_alloc ?_ _)); refine blk_put (cs := #[.int .i8 (IntKind.i8.wrap (a0 / 134217728)), .int .i8 (IntKind.i8.wrap (Go.bits .and .u32 (a0 / 8388608) 15)), .int .i8 (IntKind.i8.wrap (Go.bits .and .u32 (a0 / 524288) 15)), .int .i8 (IntKind.i8.wrap (Go.bits .and .u32 (a0 / 32768) 15)), .int .i64 (wrap64 (Go.bits .and .u32 a0 32767))]) ?_ 4 _ rfl; (with_reducible repeat (first | refine blk_drewN ?_ _ | refine blk_drew ?_ | refine blk_alloc ?_ _)); exact BK104.out) hb); have n2_ := Aside0.mk (below_step (by repeat (first | (with_reducible first | exact HB.out | apply below_alloc | apply pw_below_drewN | apply below_drew1 | refine below_set ?_ GE103.out | refine below_set ?_ GE104.out) | exact HB.out)) hb); clear BK103; clear BK104; clear HB; have BK103 := n0_; have BK104 := n1_; have HB := n2_; clear n0_ n1_ n2_; (try clear hb); (try clear hb2); (try clear hk); (try clear hi); have hcz20_0 : w19.cell? ⟨gb104, 0, none⟩ = some (.int .i8 (IntKind.i8.wrap (a0 / 134217728))) := (blk_cell BK104.out 0).trans rfl; have hcz20_1 : w19.cell? ⟨gb104, 1, none⟩ = some (.int .i8 (IntKind.i8.wrap (Go.bits .and .u32 (a0 / 8388608) 15))) := (blk_cell BK104.out 1).trans rfl; have hcz20_2 : w19.cell? ⟨gb104, 2, none⟩ = some (.int .i8 (IntKind.i8.wrap (Go.bits .and .u32 (a0 / 524288) 15))) := (blk_cell BK104.out 2).trans rfl; have hcz20_3 : w19.cell? ⟨gb104, 3, none⟩ = some (.int .i8 (IntKind.i8.wrap (Go.bits .and .u32 (a0 / 32768) 15))) := (blk_cell BK104.out 3).trans rfl; have hcz20_4 : w19.cell? ⟨gb104, 4, none⟩ = some (.int .i64 (wrap64 ((wrap64 (Go.bits .and .u32 a0 32767)) - 32768))) := (blk_cell BK104.out 4).trans rfl; have hfz20_0 := blk_frozen BK104.out 0; have hfz20_1 := blk_frozen BK104.out 1; have hfz20_2 := blk_frozen BK104.out 2; have hfz20_3 := blk_frozen BK104.out 3; have hfz20_4 := blk_frozen BK104.out 4; have hcz21_0 : w19.cell? ⟨gb103, 0, none⟩ = some (.int .i8 0) := (blk_cell BK103.out 0).trans rfl; have hcz21_1 : w19.cell? ⟨gb103, 1, none⟩ = some (.int .i8 0) := (blk_cell BK103.out 1).trans rfl; have hcz21_2 : w19.cell? ⟨gb103, 2, none⟩ = some (.int .i8 0) := (blk_cell BK103.out 2).trans rfl; have hcz21_3 : w19.cell? ⟨gb103, 3, none⟩ = some (.int .i8 0) := (blk_cell BK103.out 3).trans rfl; have hcz21_4 : w19.cell? ⟨gb103, 4, none⟩ = some (.int .i64 0) := (blk_cell BK103.out 4).trans rfl; have hfz21_0 := blk_frozen BK103.out 0; have hfz21_1 := blk_frozen BK103.out 1; have hfz21_2 := blk_frozen BK103.out 2; have hfz21_3 := blk_frozen BK103.out 3; have hfz21_4 := blk_frozen BK103.out 4))
      refine bodyPost_ret (results_cell_row rfl _ _ gb103 127 #[.int .i8 (IntKind.i8.wrap (a0 / 134217728)), .int .i8 (IntKind.i8.wrap (Go.bits .and .u32 (a0 / 8388608) 15)), .int .i8 (IntKind.i8.wrap (Go.bits .and .u32 (a0 / 524288) 15)), .int .i8 (IntKind.i8.wrap (Go.bits .and .u32 (a0 / 32768) 15)), .int .i64 (wrap64 ((wrap64 (Go.bits .and .u32 a0 32767)) - 32768))] (0, 0) _ rfl (by (with_reducible repeat (first | refine blk_drewN ?_ _ | refine blk_drew ?_ | refine blk_alloc ?_ _)); refine blk_put (cs := #[.int .i8 (IntKind.i8.wrap (a0 / 134217728)), .int .i8 (IntKind.i8.wrap (Go.bits .and .u32 (a0 / 8388608) 15)), .int .i8 (IntKind.i8.wrap (Go.bits .and .u32 (a0 / 524288) 15)), .int .i8 (IntKind.i8.wrap (Go.bits .and .u32 (a0 / 32768) 15)), .int .i64 0]) ?_ 4 _ rfl; (with_reducible repeat (first | refine blk_drewN ?_ _ | refine blk_drew ?_ | refine blk_alloc ?_ _)); refine blk_put (cs := #[.int .i8 (IntKind.i8.wrap (a0 / 134217728)), .int .i8 (IntKind.i8.wrap (Go.bits .and .u32 (a0 / 8388608) 15)), .int .i8 (IntKind.i8.wrap (Go.bits .and .u32 (a0 / 524288) 15)), .int .i8 0, .int .i64 0]) ?_ 3 _ rfl; (with_reducible repeat (first | refine blk_drewN ?_ _ | refine blk_drew ?_ | refine blk_alloc ?_ _)); refine blk_put (cs := #[.int .i8 (IntKind.i8.wrap (a0 / 134217728)), .int .i8 (IntKind.i8.wrap (Go.bits .and .u32 (a0 / 8388608) 15)), .int .i8 0, .int .i8 0, .int .i64 0]) ?_ 2 _ rfl; (with_reducible repeat (first | refine blk_drewN ?_ _ | refine blk_drew ?_ | refine blk_alloc ?_ _)); refine blk_put (cs := #[.int .i8 (IntKind.i8.wrap (a0 / 134217728)), .int .i8 0, .int .i8 0, .int .i8 0, .int .i64 0]) ?_ 1 _ rfl; (with_reducible repeat (first | refine blk_drewN ?_ _ | refine blk_drew ?_ | refine blk_alloc ?_ _)); refine blk_put (cs := #[.int .i8 0, .int .i8 0, .int .i8 0, .int .i8 0, .int .i64 0]) ?_ 0 _ rfl; (with_reducible repeat (first | refine blk_drewN ?_ _ | refine blk_drew ?_ | refine blk_alloc ?_ _)); exact BK103.out) Tryd.underlying127 rfl (by kernel_rfl)) rfl ?_
      exact ⟨by first | rfl | (simp [errW_none, errW_some] <;> rfl) | (simp [*, errW_none, errW_some] <;> rfl), by repeat (first | (with_reducible first | exact HB.out | apply below_alloc | apply pw_below_drewN | apply below_drew1 | refine below_set ?_ GE103.out | refine below_set ?_ GE104.out) | exact HB.out)⟩
     ·
      rw [if_neg c16] at H
      have c16b0 : (t106 == a0) = false := beq_eq_false_iff_ne.mpr c16
      have c16b1 : (t106 != a0) = true := bne_iff_ne.mpr c16
      simp only [Option.some.injEq, Prod.mk.injEq] at H
      obtain ⟨rfl, rfl, rfl, rfl, rfl⟩ := H
      have hnb22 := NB104_103.out
      have hnc22 := NB103_104.out
      have hcz23_0 : wc.cell? ⟨gb104, 0, none⟩ = some (.int .i8 (IntKind.i8.wrap (a0 / 134217728))) := (blk_cell BK104.out 0).trans rfl
      have hcz23_1 : wc.cell? ⟨gb104, 1, none⟩ = some (.int .i8 (IntKind.i8.wrap (Go.bits .and .u32 (a0 / 8388608) 15))) := (blk_cell BK104.out 1).trans rfl
      have hcz23_2 : wc.cell? ⟨gb104, 2, none⟩ = some (.int .i8 (IntKind.i8.wrap (Go.bits .and .u32 (a0 / 524288) 15))) := (blk_cell BK104.out 2).trans rfl
      have hcz23_3 : wc.cell? ⟨gb104, 3, none⟩ = some (.int .i8 (IntKind.i8.wrap (Go.bits .and .u32 (a0 / 32768) 15))) := (blk_cell BK104.out 3).trans rfl
      have hcz23_4 : wc.cell? ⟨gb104, 4, none⟩ = some (.int .i64 (wrap64 (Go.bits .and .u32 a0 32767))) := (blk_cell BK104.out 4).trans rfl
      have hfz23_0 := blk_frozen BK104.out 0
      have hfz23_1 := blk_frozen BK104.out 1
      have hfz23_2 := blk_frozen BK104.out 2
      have hfz23_3 := blk_frozen BK104.out 3
      have hfz23_4 := blk_frozen BK104.out 4
      go_wp2_with (first | ((with_reducible refine gate_callee (f := 70) rfl ?_); refine goesL_ (some 48) rfl rfl Tryd.func70 (by kernel_rfl) rfl #[.agg #[.int .i8 (IntKind.i8.wrap (a0 / 134217728)), .int .i8 (IntKind.i8.wrap (Go.bits .and .u32 (a0 / 8388608) 15)), .int .i8 (IntKind.i8.wrap (Go.bits .and .u32 (a0 / 524288) 15)), .int .i8 (IntKind.i8.wrap (Go.bits .and .u32 (a0 / 32768) 15)), .int .i64 (wrap64 ((wrap64 (Go.bits .and .u32 a0 32767)) - 32768))]] rfl (by (try simp only [List.map_toArray, List.map_cons, List.map_nil]); first | done | rfl | (simp only [List.length_drop, List.length_take]; rfl)) ?_; (with_reducible refine (isa_Encode.calls (IntKind.i8.wrap (a0 / 134217728)) (IntKind.i8.wrap (Go.bits .and .u32 (a0 / 8388608) 15)) (IntKind.i8.wrap (Go.bits .and .u32 (a0 / 524288) 15)) (IntKind.i8.wrap (Go.bits .and .u32 (a0 / 32768) 15)) (wrap64 ((wrap64 (Go.bits .and .u32 a0 32767)) - 32768)) t106 t107 _ A14.out).mono ?_); rintro e w24 ⟨rfl, hb⟩; refine ⟨_, rfl, ?_⟩; have n0_ := Aside0.mk (blk_below (g := gb103) (o := .cells #[.int .i8 0, .int .i8 0, .int .i8 0, .int .i8 0, .int .i64 0] 127 (0, 0)) (by (with_reducible repeat (first | refine blk_drewN ?_ _ | refine blk_drew ?_ | refine blk_alloc ?_ _)); refine blk_far ?_ NB103_104.out _; (with_reducible repeat (first | refine blk_drewN ?_ _ | refine blk_drew ?_ | refine blk_alloc ?_ _)); exact BK103.out) hb); have n1_ := Aside0.mk (blk_below (g := gb104) (o := .cells #[.int .i8 (IntKind.i8.wrap (a0 / 134217728)), .int .i8 (IntKind.i8.wrap (Go.bits .and .u32 (a0 / 8388608) 15)), .int .i8 (IntKind.i8.wrap (Go.bits .and .u32 (a0 / 524288) 15)), .int .i8 (IntKind.i8.wrap (Go.bits .and .u32 (a0 / 32768) 15)), .int .i64 (wrap64 ((wrap64 (Go.bits .and .u32 a0 32767)) - 32768))] 127 (0, 0)) (by (with_reducible repeat (first | refine blk_drewN ?_ _ | refine blk_drew ?_ | refine blk_alloc ?_ _)); refine blk_put (cs := #[.int .i8 (IntKind.i8.wrap (a0 / 134217728)), .int .i8 (IntKind.i8.wrap (Go.bits .and .u32 (a0 / 8388608) 15)), .int .i8 (IntKind.i8.wrap (Go.bits .and .u32 (a0 / 524288) 15)), .int .i8 (IntKind.i8.wrap (Go.bits .and .u32 (a0 / 32768) 15)), .int .i64 (wrap64 (Go.bits .and .u32 a0 32767))]) ?_ 4 _ rfl; (with_reducible repeat (first | refine blk_drewN ?_ _ | refine blk_drew ?_ | refine blk_alloc ?_ _)); exact BK104.out) hb); have n2_ := Aside0.mk (below_step (by repeat (first | (with_reducible first | exact HB.out | apply below_alloc | apply pw_below_drewN | apply below_drew1 | refine below_set ?_ GE103.out | refine below_set ?_ GE104.out) | exact HB.out)) hb); clear BK103; clear BK104; clear HB; have BK103 := n0_; have BK104 := n1_; have HB := n2_; clear n0_ n1_ n2_; (try clear hb); (try clear hb2); (try clear hk); (try clear hi); have hcz25_0 : w24.cell? ⟨gb103, 0, none⟩ = some (.int .i8 0) := (blk_cell BK103.out 0).trans rfl; have hcz25_1 : w24.cell? ⟨gb103, 1, none⟩ = some (.int .i8 0) := (blk_cell BK103.out 1).trans rfl; have hcz25_2 : w24.cell? ⟨gb103, 2, none⟩ = some (.int .i8 0) := (blk_cell BK103.out 2).trans rfl; have hcz25_3 : w24.cell? ⟨gb103, 3, none⟩ = some (.int .i8 0) := (blk_cell BK103.out 3).trans rfl; have hcz25_4 : w24.cell? ⟨gb103, 4, none⟩ = some (.int .i64 0) := (blk_cell BK103.out 4).trans rfl; have hfz25_0 := blk_frozen BK103.out 0; have hfz25_1 := blk_frozen BK103.out 1; have hfz25_2 := blk_frozen BK103.out 2; have hfz25_3 := blk_frozen BK103.out 3; have hfz25_4 := blk_frozen BK103.out 4))
      refine bodyPost_ret (results_cell_row rfl _ _ gb103 127 #[.int .i8 (-1), .int .i8 0, .int .i8 0, .int .i8 0, .int .i64 (wrap64 (a0))] (0, 0) _ rfl (by (with_reducible repeat (first | refine blk_drewN ?_ _ | refine blk_drew ?_ | refine blk_alloc ?_ _)); refine blk_put (cs := #[.int .i8 (-1), .int .i8 0, .int .i8 0, .int .i8 0, .int .i64 0]) ?_ 4 _ rfl; (with_reducible repeat (first | refine blk_drewN ?_ _ | refine blk_drew ?_ | refine blk_alloc ?_ _)); refine blk_put (cs := #[.int .i8 (-1), .int .i8 0, .int .i8 0, .int .i8 0, .int .i64 0]) ?_ 3 _ rfl; (with_reducible repeat (first | refine blk_drewN ?_ _ | refine blk_drew ?_ | refine blk_alloc ?_ _)); refine blk_put (cs := #[.int .i8 (-1), .int .i8 0, .int .i8 0, .int .i8 0, .int .i64 0]) ?_ 2 _ rfl; (with_reducible repeat (first | refine blk_drewN ?_ _ | refine blk_drew ?_ | refine blk_alloc ?_ _)); refine blk_put (cs := #[.int .i8 (-1), .int .i8 0, .int .i8 0, .int .i8 0, .int .i64 0]) ?_ 1 _ rfl; (with_reducible repeat (first | refine blk_drewN ?_ _ | refine blk_drew ?_ | refine blk_alloc ?_ _)); refine blk_put (cs := #[.int .i8 0, .int .i8 0, .int .i8 0, .int .i8 0, .int .i64 0]) ?_ 0 _ rfl; (with_reducible repeat (first | refine blk_drewN ?_ _ | refine blk_drew ?_ | refine blk_alloc ?_ _)); exact BK103.out) Tryd.underlying127 rfl (by kernel_rfl)) rfl ?_
      exact ⟨by first | rfl | (simp [errW_none, errW_some] <;> rfl) | (simp [*, errW_none, errW_some] <;> rfl), by repeat (first | (with_reducible first | exact HB.out | apply below_alloc | apply pw_below_drewN | apply below_drew1 | refine below_set ?_ GE103.out | refine below_set ?_ GE104.out) | exact HB.out)⟩
    ·
     rw [if_neg c15] at H
     have c15b0 : (t107 == 0) = false := beq_eq_false_iff_ne.mpr c15
     have c15b1 : (t107 != 0) = true := bne_iff_ne.mpr c15
     simp only [Option.some.injEq, Prod.mk.injEq] at H
     obtain ⟨rfl, rfl, rfl, rfl, rfl⟩ := H
     have hnb26 := NB104_103.out
     have hnc26 := NB103_104.out
     have hcz27_0 : wc.cell? ⟨gb104, 0, none⟩ = some (.int .i8 (IntKind.i8.wrap (a0 / 134217728))) := (blk_cell BK104.out 0).trans rfl
     have hcz27_1 : wc.cell? ⟨gb104, 1, none⟩ = some (.int .i8 (IntKind.i8.wrap (Go.bits .and .u32 (a0 / 8388608) 15))) := (blk_cell BK104.out 1).trans rfl
     have hcz27_2 : wc.cell? ⟨gb104, 2, none⟩ = some (.int .i8 (IntKind.i8.wrap (Go.bits .and .u32 (a0 / 524288) 15))) := (blk_cell BK104.out 2).trans rfl
     have hcz27_3 : wc.cell? ⟨gb104, 3, none⟩ = some (.int .i8 (IntKind.i8.wrap (Go.bits .and .u32 (a0 / 32768) 15))) := (blk_cell BK104.out 3).trans rfl
     have hcz27_4 : wc.cell? ⟨gb104, 4, none⟩ = some (.int .i64 (wrap64 (Go.bits .and .u32 a0 32767))) := (blk_cell BK104.out 4).trans rfl
     have hfz27_0 := blk_frozen BK104.out 0
     have hfz27_1 := blk_frozen BK104.out 1
     have hfz27_2 := blk_frozen BK104.out 2
     have hfz27_3 := blk_frozen BK104.out 3
     have hfz27_4 := blk_frozen BK104.out 4
     go_wp2_with (first | ((with_reducible refine gate_callee (f := 70) rfl ?_); refine goesL_ (some 48) rfl rfl Tryd.func70 (by kernel_rfl) rfl #[.agg #[.int .i8 (IntKind.i8.wrap (a0 / 134217728)), .int .i8 (IntKind.i8.wrap (Go.bits .and .u32 (a0 / 8388608) 15)), .int .i8 (IntKind.i8.wrap (Go.bits .and .u32 (a0 / 524288) 15)), .int .i8 (IntKind.i8.wrap (Go.bits .and .u32 (a0 / 32768) 15)), .int .i64 (wrap64 ((wrap64 (Go.bits .and .u32 a0 32767)) - 32768))]] rfl (by (try simp only [List.map_toArray, List.map_cons, List.map_nil]); first | done | rfl | (simp only [List.length_drop, List.length_take]; rfl)) ?_; (with_reducible refine (isa_Encode.calls (IntKind.i8.wrap (a0 / 134217728)) (IntKind.i8.wrap (Go.bits .and .u32 (a0 / 8388608) 15)) (IntKind.i8.wrap (Go.bits .and .u32 (a0 / 524288) 15)) (IntKind.i8.wrap (Go.bits .and .u32 (a0 / 32768) 15)) (wrap64 ((wrap64 (Go.bits .and .u32 a0 32767)) - 32768)) t106 t107 _ A14.out).mono ?_); rintro e w28 ⟨rfl, hb⟩; refine ⟨_, rfl, ?_⟩; have n0_ := Aside0.mk (blk_below (g := gb103) (o := .cells #[.int .i8 0, .int .i8 0, .int .i8 0, .int .i8 0, .int .i64 0] 127 (0, 0)) (by (with_reducible repeat (first | refine blk_drewN ?_ _ | refine blk_drew ?_ | refine blk_alloc ?_ _)); refine blk_far ?_ NB103_104.out _; (with_reducible repeat (first | refine blk_drewN ?_ _ | refine blk_drew ?_ | refine blk_alloc ?_ _)); exact BK103.out) hb); have n1_ := Aside0.mk (blk_below (g := gb104) (o := .cells #[.int .i8 (IntKind.i8.wrap (a0 / 134217728)), .int .i8 (IntKind.i8.wrap (Go.bits .and .u32 (a0 / 8388608) 15)), .int .i8 (IntKind.i8.wrap (Go.bits .and .u32 (a0 / 524288) 15)), .int .i8 (IntKind.i8.wrap (Go.bits .and .u32 (a0 / 32768) 15)), .int .i64 (wrap64 ((wrap64 (Go.bits .and .u32 a0 32767)) - 32768))] 127 (0, 0)) (by (with_reducible repeat (first | refine blk_drewN ?_ _ | refine blk_drew ?_ | refine blk_alloc ?_ _)); refine blk_put (cs := #[.int .i8 (IntKind.i8.wrap (a0 / 134217728)), .int .i8 (IntKind.i8.wrap (Go.bits .and .u32 (a0 / 8388608) 15)), .int .i8 (IntKind.i8.wrap (Go.bits .and .u32 (a0 / 524288) 15)), .int .i8 (IntKind.i8.wrap (Go.bits .and .u32 (a0 / 32768) 15)), .int .i64 (wrap64 (Go.bits .and .u32 a0 32767))]) ?_ 4 _ rfl; (with_reducible repeat (first | refine blk_drewN ?_ _ | refine blk_drew ?_ | refine blk_alloc ?_ _)); exact BK104.out) hb); have n2_ := Aside0.mk (below_step (by repeat (first | (with_reducible first | exact HB.out | apply below_alloc | apply pw_below_drewN | apply below_drew1 | refine below_set ?_ GE103.out | refine below_set ?_ GE104.out) | exact HB.out)) hb); clear BK103; clear BK104; clear HB; have BK103 := n0_; have BK104 := n1_; have HB := n2_; clear n0_ n1_ n2_; (try clear hb); (try clear hb2); (try clear hk); (try clear hi); have hcz29_0 : w28.cell? ⟨gb103, 0, none⟩ = some (.int .i8 0) := (blk_cell BK103.out 0).trans rfl; have hcz29_1 : w28.cell? ⟨gb103, 1, none⟩ = some (.int .i8 0) := (blk_cell BK103.out 1).trans rfl; have hcz29_2 : w28.cell? ⟨gb103, 2, none⟩ = some (.int .i8 0) := (blk_cell BK103.out 2).trans rfl; have hcz29_3 : w28.cell? ⟨gb103, 3, none⟩ = some (.int .i8 0) := (blk_cell BK103.out 3).trans rfl; have hcz29_4 : w28.cell? ⟨gb103, 4, none⟩ = some (.int .i64 0) := (blk_cell BK103.out 4).trans rfl; have hfz29_0 := blk_frozen BK103.out 0; have hfz29_1 := blk_frozen BK103.out 1; have hfz29_2 := blk_frozen BK103.out 2; have hfz29_3 := blk_frozen BK103.out 3; have hfz29_4 := blk_frozen BK103.out 4))
     refine bodyPost_ret (results_cell_row rfl _ _ gb103 127 #[.int .i8 (-1), .int .i8 0, .int .i8 0, .int .i8 0, .int .i64 (wrap64 (a0))] (0, 0) _ rfl (by (with_reducible repeat (first | refine blk_drewN ?_ _ | refine blk_drew ?_ | refine blk_alloc ?_ _)); refine blk_put (cs := #[.int .i8 (-1), .int .i8 0, .int .i8 0, .int .i8 0, .int .i64 0]) ?_ 4 _ rfl; (with_reducible repeat (first | refine blk_drewN ?_ _ | refine blk_drew ?_ | refine blk_alloc ?_ _)); refine blk_put (cs := #[.int .i8 (-1), .int .i8 0, .int .i8 0, .int .i8 0, .int .i64 0]) ?_ 3 _ rfl; (with_reducible repeat (first | refine blk_drewN ?_ _ | refine blk_drew ?_ | refine blk_alloc ?_ _)); refine blk_put (cs := #[.int .i8 (-1), .int .i8 0, .int .i8 0, .int .i8 0, .int .i64 0]) ?_ 2 _ rfl; (with_reducible repeat (first | refine blk_drewN ?_ _ | refine blk_drew ?_ | refine blk_alloc ?_ _)); refine blk_put (cs := #[.int .i8 (-1), .int .i8 0, .int .i8 0, .int .i8 0, .int .i64 0]) ?_ 1 _ rfl; (with_reducible repeat (first | refine blk_drewN ?_ _ | refine blk_drew ?_ | refine blk_alloc ?_ _)); refine blk_put (cs := #[.int .i8 0, .int .i8 0, .int .i8 0, .int .i8 0, .int .i64 0]) ?_ 0 _ rfl; (with_reducible repeat (first | refine blk_drewN ?_ _ | refine blk_drew ?_ | refine blk_alloc ?_ _)); exact BK103.out) Tryd.underlying127 rfl (by kernel_rfl)) rfl ?_
     exact ⟨by first | rfl | (simp [errW_none, errW_some] <;> rfl) | (simp [*, errW_none, errW_some] <;> rfl), by repeat (first | (with_reducible first | exact HB.out | apply below_alloc | apply pw_below_drewN | apply below_drew1 | refine below_set ?_ GE103.out | refine below_set ?_ GE104.out) | exact HB.out)⟩
   ·
    replace c13 := Bool.eq_false_iff.mpr c13
    subst c13
    have H1 : ((isa_Encode.f (IntKind.i8.wrap (a0 / 134217728)) (IntKind.i8.wrap (Go.bits .and .u32 (a0 / 8388608) 15)) (IntKind.i8.wrap (Go.bits .and .u32 (a0 / 524288) 15)) (IntKind.i8.wrap (Go.bits .and .u32 (a0 / 32768) 15)) (wrap64 (Go.bits .and .u32 a0 32767))).bind fun bt108 => (if bt108.2 = 0 then (if bt108.1 = a0 then (some ((IntKind.i8.wrap (a0 / 134217728)), (IntKind.i8.wrap (Go.bits .and .u32 (a0 / 8388608) 15)), (IntKind.i8.wrap (Go.bits .and .u32 (a0 / 524288) 15)), (IntKind.i8.wrap (Go.bits .and .u32 (a0 / 32768) 15)), (wrap64 (Go.bits .and .u32 a0 32767)))) else (some ((-1), 0, 0, 0, wrap64 (a0)))) else (some ((-1), 0, 0, 0, wrap64 (a0))))) = some (r1, r2, r3, r4, r5) := by rw [if_neg (show ¬ (false = true) by decide)] at H; exact H
    clear H
    have H := H1
    clear H1
    replace H := Option.bind_eq_some_iff.mp H
    obtain ⟨⟨t108, t109⟩, A300, H⟩ := H
    try dsimp only at H
    have A30 := Aside0.mk A300
    clear A300
    by_cases c31 : t109 = 0
    ·
     rw [if_pos c31] at H
     have c31b0 : (t109 == 0) = true := beq_iff_eq.mpr c31
     have c31b1 : (t109 != 0) = false := bne_eq_false_iff_eq.mpr c31
     clear c31
     by_cases c32 : t108 = a0
     ·
      rw [if_pos c32] at H
      have c32b0 : (t108 == a0) = true := beq_iff_eq.mpr c32
      have c32b1 : (t108 != a0) = false := bne_eq_false_iff_eq.mpr c32
      clear c32
      simp only [Option.some.injEq, Prod.mk.injEq] at H
      obtain ⟨rfl, rfl, rfl, rfl, rfl⟩ := H
      have hnb33 := NB104_103.out
      have hnc33 := NB103_104.out
      have hcz34_0 : wc.cell? ⟨gb104, 0, none⟩ = some (.int .i8 (IntKind.i8.wrap (a0 / 134217728))) := (blk_cell BK104.out 0).trans rfl
      have hcz34_1 : wc.cell? ⟨gb104, 1, none⟩ = some (.int .i8 (IntKind.i8.wrap (Go.bits .and .u32 (a0 / 8388608) 15))) := (blk_cell BK104.out 1).trans rfl
      have hcz34_2 : wc.cell? ⟨gb104, 2, none⟩ = some (.int .i8 (IntKind.i8.wrap (Go.bits .and .u32 (a0 / 524288) 15))) := (blk_cell BK104.out 2).trans rfl
      have hcz34_3 : wc.cell? ⟨gb104, 3, none⟩ = some (.int .i8 (IntKind.i8.wrap (Go.bits .and .u32 (a0 / 32768) 15))) := (blk_cell BK104.out 3).trans rfl
      have hcz34_4 : wc.cell? ⟨gb104, 4, none⟩ = some (.int .i64 (wrap64 (Go.bits .and .u32 a0 32767))) := (blk_cell BK104.out 4).trans rfl
      have hfz34_0 := blk_frozen BK104.out 0
      have hfz34_1 := blk_frozen BK104.out 1
      have hfz34_2 := blk_frozen BK104.out 2
      have hfz34_3 := blk_frozen BK104.out 3
      have hfz34_4 := blk_frozen BK104.out 4
      go_wp2_with (first | ((with_reducible refine gate_callee (f := 70) rfl ?_); refine goesL_ (some 48) rfl rfl Tryd.func70 (by kernel_rfl) rfl #[.agg #[.int .i8 (IntKind.i8.wrap (a0 / 134217728)), .int .i8 (IntKind.i8.wrap (Go.bits .and .u32 (a0 / 8388608) 15)), .int .i8 (IntKind.i8.wrap (Go.bits .and .u32 (a0 / 524288) 15)), .int .i8 (IntKind.i8.wrap (Go.bits .and .u32 (a0 / 32768) 15)), .int .i64 (wrap64 (Go.bits .and .u32 a0 32767))]] rfl (by (try simp only [List.map_toArray, List.map_cons, List.map_nil]); first | done | rfl | (simp only [List.length_drop, List.length_take]; rfl)) ?_; (with_reducible refine (isa_Encode.calls (IntKind.i8.wrap (a0 / 134217728)) (IntKind.i8.wrap (Go.bits .and .u32 (a0 / 8388608) 15)) (IntKind.i8.wrap (Go.bits .and .u32 (a0 / 524288) 15)) (IntKind.i8.wrap (Go.bits .and .u32 (a0 / 32768) 15)) (wrap64 (Go.bits .and .u32 a0 32767)) t108 t109 _ A30.out).mono ?_); rintro e w35 ⟨rfl, hb⟩; refine ⟨_, rfl, ?_⟩; have n0_ := Aside0.mk (blk_below (g := gb103) (o := .cells #[.int .i8 0, .int .i8 0, .int .i8 0, .int .i8 0, .int .i64 0] 127 (0, 0)) (by (with_reducible repeat (first | refine blk_drewN ?_ _ | refine blk_drew ?_ | refine blk_alloc ?_ _)); exact BK103.out) hb); have n1_ := Aside0.mk (blk_below (g := gb104) (o := .cells #[.int .i8 (IntKind.i8.wrap (a0 / 134217728)), .int .i8 (IntKind.i8.wrap (Go.bits .and .u32 (a0 / 8388608) 15)), .int .i8 (IntKind.i8.wrap (Go.bits .and .u32 (a0 / 524288) 15)), .int .i8 (IntKind.i8.wrap (Go.bits .and .u32 (a0 / 32768) 15)), .int .i64 (wrap64 (Go.bits .and .u32 a0 32767))] 127 (0, 0)) (by (with_reducible repeat (first | refine blk_drewN ?_ _ | refine blk_drew ?_ | refine blk_alloc ?_ _)); exact BK104.out) hb); have n2_ := Aside0.mk (below_step (by repeat (first | (with_reducible first | exact HB.out | apply below_alloc | apply pw_below_drewN | apply below_drew1 | refine below_set ?_ GE103.out | refine below_set ?_ GE104.out) | exact HB.out)) hb); clear BK103; clear BK104; clear HB; have BK103 := n0_; have BK104 := n1_; have HB := n2_; clear n0_ n1_ n2_; (try clear hb); (try clear hb2); (try clear hk); (try clear hi); have hcz36_0 : w35.cell? ⟨gb104, 0, none⟩ = some (.int .i8 (IntKind.i8.wrap (a0 / 134217728))) := (blk_cell BK104.out 0).trans rfl; have hcz36_1 : w35.cell? ⟨gb104, 1, none⟩ = some (.int .i8 (IntKind.i8.wrap (Go.bits .and .u32 (a0 / 8388608) 15))) := (blk_cell BK104.out 1).trans rfl; have hcz36_2 : w35.cell? ⟨gb104, 2, none⟩ = some (.int .i8 (IntKind.i8.wrap (Go.bits .and .u32 (a0 / 524288) 15))) := (blk_cell BK104.out 2).trans rfl; have hcz36_3 : w35.cell? ⟨gb104, 3, none⟩ = some (.int .i8 (IntKind.i8.wrap (Go.bits .and .u32 (a0 / 32768) 15))) := (blk_cell BK104.out 3).trans rfl; have hcz36_4 : w35.cell? ⟨gb104, 4, none⟩ = some (.int .i64 (wrap64 (Go.bits .and .u32 a0 32767))) := (blk_cell BK104.out 4).trans rfl; have hfz36_0 := blk_frozen BK104.out 0; have hfz36_1 := blk_frozen BK104.out 1; have hfz36_2 := blk_frozen BK104.out 2; have hfz36_3 := blk_frozen BK104.out 3; have hfz36_4 := blk_frozen BK104.out 4; have hcz37_0 : w35.cell? ⟨gb103, 0, none⟩ = some (.int .i8 0) := (blk_cell BK103.out 0).trans rfl; have hcz37_1 : w35.cell? ⟨gb103, 1, none⟩ = some (.int .i8 0) := (blk_cell BK103.out 1).trans rfl; have hcz37_2 : w35.cell? ⟨gb103, 2, none⟩ = some (.int .i8 0) := (blk_cell BK103.out 2).trans rfl; have hcz37_3 : w35.cell? ⟨gb103, 3, none⟩ = some (.int .i8 0) := (blk_cell BK103.out 3).trans rfl; have hcz37_4 : w35.cell? ⟨gb103, 4, none⟩ = some (.int .i64 0) := (blk_cell BK103.out 4).trans rfl; have hfz37_0 := blk_frozen BK103.out 0; have hfz37_1 := blk_frozen BK103.out 1; have hfz37_2 := blk_frozen BK103.out 2; have hfz37_3 := blk_frozen BK103.out 3; have hfz37_4 := blk_frozen BK103.out 4))
      refine bodyPost_ret (results_cell_row rfl _ _ gb103 127 #[.int .i8 (IntKind.i8.wrap (a0 / 134217728)), .int .i8 (IntKind.i8.wrap (Go.bits .and .u32 (a0 / 8388608) 15)), .int .i8 (IntKind.i8.wrap (Go.bits .and .u32 (a0 / 524288) 15)), .int .i8 (IntKind.i8.wrap (Go.bits .and .u32 (a0 / 32768) 15)), .int .i64 (wrap64 (Go.bits .and .u32 a0 32767))] (0, 0) _ rfl (by (with_reducible repeat (first | refine blk_drewN ?_ _ | refine blk_drew ?_ | refine blk_alloc ?_ _)); refine blk_put (cs := #[.int .i8 (IntKind.i8.wrap (a0 / 134217728)), .int .i8 (IntKind.i8.wrap (Go.bits .and .u32 (a0 / 8388608) 15)), .int .i8 (IntKind.i8.wrap (Go.bits .and .u32 (a0 / 524288) 15)), .int .i8 (IntKind.i8.wrap (Go.bits .and .u32 (a0 / 32768) 15)), .int .i64 0]) ?_ 4 _ rfl; (with_reducible repeat (first | refine blk_drewN ?_ _ | refine blk_drew ?_ | refine blk_alloc ?_ _)); refine blk_put (cs := #[.int .i8 (IntKind.i8.wrap (a0 / 134217728)), .int .i8 (IntKind.i8.wrap (Go.bits .and .u32 (a0 / 8388608) 15)), .int .i8 (IntKind.i8.wrap (Go.bits .and .u32 (a0 / 524288) 15)), .int .i8 0, .int .i64 0]) ?_ 3 _ rfl; (with_reducible repeat (first | refine blk_drewN ?_ _ | refine blk_drew ?_ | refine blk_alloc ?_ _)); refine blk_put (cs := #[.int .i8 (IntKind.i8.wrap (a0 / 134217728)), .int .i8 (IntKind.i8.wrap (Go.bits .and .u32 (a0 / 8388608) 15)), .int .i8 0, .int .i8 0, .int .i64 0]) ?_ 2 _ rfl; (with_reducible repeat (first | refine blk_drewN ?_ _ | refine blk_drew ?_ | refine blk_alloc ?_ _)); refine blk_put (cs := #[.int .i8 (IntKind.i8.wrap (a0 / 134217728)), .int .i8 0, .int .i8 0, .int .i8 0, .int .i64 0]) ?_ 1 _ rfl; (with_reducible repeat (first | refine blk_drewN ?_ _ | refine blk_drew ?_ | refine blk_alloc ?_ _)); refine blk_put (cs := #[.int .i8 0, .int .i8 0, .int .i8 0, .int .i8 0, .int .i64 0]) ?_ 0 _ rfl; (with_reducible repeat (first | refine blk_drewN ?_ _ | refine blk_drew ?_ | refine blk_alloc ?_ _)); exact BK103.out) Tryd.underlying127 rfl (by kernel_rfl)) rfl ?_
      exact ⟨by first | rfl | (simp [errW_none, errW_some] <;> rfl) | (simp [*, errW_none, errW_some] <;> rfl), by repeat (first | (with_reducible first | exact HB.out | apply below_alloc | apply pw_below_drewN | apply below_drew1 | refine below_set ?_ GE103.out | refine below_set ?_ GE104.out) | exact HB.out)⟩
     ·
      rw [if_neg c32] at H
      have c32b0 : (t108 == a0) = false := beq_eq_false_iff_ne.mpr c32
      have c32b1 : (t108 != a0) = true := bne_iff_ne.mpr c32
      simp only [Option.some.injEq, Prod.mk.injEq] at H
      obtain ⟨rfl, rfl, rfl, rfl, rfl⟩ := H
      have hnb38 := NB104_103.out
      have hnc38 := NB103_104.out
      have hcz39_0 : wc.cell? ⟨gb104, 0, none⟩ = some (.int .i8 (IntKind.i8.wrap (a0 / 134217728))) := (blk_cell BK104.out 0).trans rfl
      have hcz39_1 : wc.cell? ⟨gb104, 1, none⟩ = some (.int .i8 (IntKind.i8.wrap (Go.bits .and .u32 (a0 / 8388608) 15))) := (blk_cell BK104.out 1).trans rfl
      have hcz39_2 : wc.cell? ⟨gb104, 2, none⟩ = some (.int .i8 (IntKind.i8.wrap (Go.bits .and .u32 (a0 / 524288) 15))) := (blk_cell BK104.out 2).trans rfl
      have hcz39_3 : wc.cell? ⟨gb104, 3, none⟩ = some (.int .i8 (IntKind.i8.wrap (Go.bits .and .u32 (a0 / 32768) 15))) := (blk_cell BK104.out 3).trans rfl
      have hcz39_4 : wc.cell? ⟨gb104, 4, none⟩ = some (.int .i64 (wrap64 (Go.bits .and .u32 a0 32767))) := (blk_cell BK104.out 4).trans rfl
      have hfz39_0 := blk_frozen BK104.out 0
      have hfz39_1 := blk_frozen BK104.out 1
      have hfz39_2 := blk_frozen BK104.out 2
      have hfz39_3 := blk_frozen BK104.out 3
      have hfz39_4 := blk_frozen BK104.out 4
      go_wp2_with (first | ((with_reducible refine gate_callee (f := 70) rfl ?_); refine goesL_ (some 48) rfl rfl Tryd.func70 (by kernel_rfl) rfl #[.agg #[.int .i8 (IntKind.i8.wrap (a0 / 134217728)), .int .i8 (IntKind.i8.wrap (Go.bits .and .u32 (a0 / 8388608) 15)), .int .i8 (IntKind.i8.wrap (Go.bits .and .u32 (a0 / 524288) 15)), .int .i8 (IntKind.i8.wrap (Go.bits .and .u32 (a0 / 32768) 15)), .int .i64 (wrap64 (Go.bits .and .u32 a0 32767))]] rfl (by (try simp only [List.map_toArray, List.map_cons, List.map_nil]); first | done | rfl | (simp only [List.length_drop, List.length_take]; rfl)) ?_; (with_reducible refine (isa_Encode.calls (IntKind.i8.wrap (a0 / 134217728)) (IntKind.i8.wrap (Go.bits .and .u32 (a0 / 8388608) 15)) (IntKind.i8.wrap (Go.bits .and .u32 (a0 / 524288) 15)) (IntKind.i8.wrap (Go.bits .and .u32 (a0 / 32768) 15)) (wrap64 (Go.bits .and .u32 a0 32767)) t108 t109 _ A30.out).mono ?_); rintro e w40 ⟨rfl, hb⟩; refine ⟨_, rfl, ?_⟩; have n0_ := Aside0.mk (blk_below (g := gb103) (o := .cells #[.int .i8 0, .int .i8 0, .int .i8 0, .int .i8 0, .int .i64 0] 127 (0, 0)) (by (with_reducible repeat (first | refine blk_drewN ?_ _ | refine blk_drew ?_ | refine blk_alloc ?_ _)); exact BK103.out) hb); have n1_ := Aside0.mk (blk_below (g := gb104) (o := .cells #[.int .i8 (IntKind.i8.wrap (a0 / 134217728)), .int .i8 (IntKind.i8.wrap (Go.bits .and .u32 (a0 / 8388608) 15)), .int .i8 (IntKind.i8.wrap (Go.bits .and .u32 (a0 / 524288) 15)), .int .i8 (IntKind.i8.wrap (Go.bits .and .u32 (a0 / 32768) 15)), .int .i64 (wrap64 (Go.bits .and .u32 a0 32767))] 127 (0, 0)) (by (with_reducible repeat (first | refine blk_drewN ?_ _ | refine blk_drew ?_ | refine blk_alloc ?_ _)); exact BK104.out) hb); have n2_ := Aside0.mk (below_step (by repeat (first | (with_reducible first | exact HB.out | apply below_alloc | apply pw_below_drewN | apply below_drew1 | refine below_set ?_ GE103.out | refine below_set ?_ GE104.out) | exact HB.out)) hb); clear BK103; clear BK104; clear HB; have BK103 := n0_; have BK104 := n1_; have HB := n2_; clear n0_ n1_ n2_; (try clear hb); (try clear hb2); (try clear hk); (try clear hi); have hcz41_0 : w40.cell? ⟨gb103, 0, none⟩ = some (.int .i8 0) := (blk_cell BK103.out 0).trans rfl; have hcz41_1 : w40.cell? ⟨gb103, 1, none⟩ = some (.int .i8 0) := (blk_cell BK103.out 1).trans rfl; have hcz41_2 : w40.cell? ⟨gb103, 2, none⟩ = some (.int .i8 0) := (blk_cell BK103.out 2).trans rfl; have hcz41_3 : w40.cell? ⟨gb103, 3, none⟩ = some (.int .i8 0) := (blk_cell BK103.out 3).trans rfl; have hcz41_4 : w40.cell? ⟨gb103, 4, none⟩ = some (.int .i64 0) := (blk_cell BK103.out 4).trans rfl; have hfz41_0 := blk_frozen BK103.out 0; have hfz41_1 := blk_frozen BK103.out 1; have hfz41_2 := blk_frozen BK103.out 2; have hfz41_3 := blk_frozen BK103.out 3; have hfz41_4 := blk_frozen BK103.out 4))
      refine bodyPost_ret (results_cell_row rfl _ _ gb103 127 #[.int .i8 (-1), .int .i8 0, .int .i8 0, .int .i8 0, .int .i64 (wrap64 (a0))] (0, 0) _ rfl (by (with_reducible repeat (first | refine blk_drewN ?_ _ | refine blk_drew ?_ | refine blk_alloc ?_ _)); refine blk_put (cs := #[.int .i8 (-1), .int .i8 0, .int .i8 0, .int .i8 0, .int .i64 0]) ?_ 4 _ rfl; (with_reducible repeat (first | refine blk_drewN ?_ _ | refine blk_drew ?_ | refine blk_alloc ?_ _)); refine blk_put (cs := #[.int .i8 (-1), .int .i8 0, .int .i8 0, .int .i8 0, .int .i64 0]) ?_ 3 _ rfl; (with_reducible repeat (first | refine blk_drewN ?_ _ | refine blk_drew ?_ | refine blk_alloc ?_ _)); refine blk_put (cs := #[.int .i8 (-1), .int .i8 0, .int .i8 0, .int .i8 0, .int .i64 0]) ?_ 2 _ rfl; (with_reducible repeat (first | refine blk_drewN ?_ _ | refine blk_drew ?_ | refine blk_alloc ?_ _)); refine blk_put (cs := #[.int .i8 (-1), .int .i8 0, .int .i8 0, .int .i8 0, .int .i64 0]) ?_ 1 _ rfl; (with_reducible repeat (first | refine blk_drewN ?_ _ | refine blk_drew ?_ | refine blk_alloc ?_ _)); refine blk_put (cs := #[.int .i8 0, .int .i8 0, .int .i8 0, .int .i8 0, .int .i64 0]) ?_ 0 _ rfl; (with_reducible repeat (first | refine blk_drewN ?_ _ | refine blk_drew ?_ | refine blk_alloc ?_ _)); exact BK103.out) Tryd.underlying127 rfl (by kernel_rfl)) rfl ?_
      exact ⟨by first | rfl | (simp [errW_none, errW_some] <;> rfl) | (simp [*, errW_none, errW_some] <;> rfl), by repeat (first | (with_reducible first | exact HB.out | apply below_alloc | apply pw_below_drewN | apply below_drew1 | refine below_set ?_ GE103.out | refine below_set ?_ GE104.out) | exact HB.out)⟩
    ·
     rw [if_neg c31] at H
     have c31b0 : (t109 == 0) = false := beq_eq_false_iff_ne.mpr c31
     have c31b1 : (t109 != 0) = true := bne_iff_ne.mpr c31
     simp only [Option.some.injEq, Prod.mk.injEq] at H
     obtain ⟨rfl, rfl, rfl, rfl, rfl⟩ := H
     have hnb42 := NB104_103.out
     have hnc42 := NB103_104.out
     have hcz43_0 : wc.cell? ⟨gb104, 0, none⟩ = some (.int .i8 (IntKind.i8.wrap (a0 / 134217728))) := (blk_cell BK104.out 0).trans rfl
     have hcz43_1 : wc.cell? ⟨gb104, 1, none⟩ = some (.int .i8 (IntKind.i8.wrap (Go.bits .and .u32 (a0 / 8388608) 15))) := (blk_cell BK104.out 1).trans rfl
     have hcz43_2 : wc.cell? ⟨gb104, 2, none⟩ = some (.int .i8 (IntKind.i8.wrap (Go.bits .and .u32 (a0 / 524288) 15))) := (blk_cell BK104.out 2).trans rfl
     have hcz43_3 : wc.cell? ⟨gb104, 3, none⟩ = some (.int .i8 (IntKind.i8.wrap (Go.bits .and .u32 (a0 / 32768) 15))) := (blk_cell BK104.out 3).trans rfl
     have hcz43_4 : wc.cell? ⟨gb104, 4, none⟩ = some (.int .i64 (wrap64 (Go.bits .and .u32 a0 32767))) := (blk_cell BK104.out 4).trans rfl
     have hfz43_0 := blk_frozen BK104.out 0
     have hfz43_1 := blk_frozen BK104.out 1
     have hfz43_2 := blk_frozen BK104.out 2
     have hfz43_3 := blk_frozen BK104.out 3
     have hfz43_4 := blk_frozen BK104.out 4
     go_wp2_with (first | ((with_reducible refine gate_callee (f := 70) rfl ?_); refine goesL_ (some 48) rfl rfl Tryd.func70 (by kernel_rfl) rfl #[.agg #[.int .i8 (IntKind.i8.wrap (a0 / 134217728)), .int .i8 (IntKind.i8.wrap (Go.bits .and .u32 (a0 / 8388608) 15)), .int .i8 (IntKind.i8.wrap (Go.bits .and .u32 (a0 / 524288) 15)), .int .i8 (IntKind.i8.wrap (Go.bits .and .u32 (a0 / 32768) 15)), .int .i64 (wrap64 (Go.bits .and .u32 a0 32767))]] rfl (by (try simp only [List.map_toArray, List.map_cons, List.map_nil]); first | done | rfl | (simp only [List.length_drop, List.length_take]; rfl)) ?_; (with_reducible refine (isa_Encode.calls (IntKind.i8.wrap (a0 / 134217728)) (IntKind.i8.wrap (Go.bits .and .u32 (a0 / 8388608) 15)) (IntKind.i8.wrap (Go.bits .and .u32 (a0 / 524288) 15)) (IntKind.i8.wrap (Go.bits .and .u32 (a0 / 32768) 15)) (wrap64 (Go.bits .and .u32 a0 32767)) t108 t109 _ A30.out).mono ?_); rintro e w44 ⟨rfl, hb⟩; refine ⟨_, rfl, ?_⟩; have n0_ := Aside0.mk (blk_below (g := gb103) (o := .cells #[.int .i8 0, .int .i8 0, .int .i8 0, .int .i8 0, .int .i64 0] 127 (0, 0)) (by (with_reducible repeat (first | refine blk_drewN ?_ _ | refine blk_drew ?_ | refine blk_alloc ?_ _)); exact BK103.out) hb); have n1_ := Aside0.mk (blk_below (g := gb104) (o := .cells #[.int .i8 (IntKind.i8.wrap (a0 / 134217728)), .int .i8 (IntKind.i8.wrap (Go.bits .and .u32 (a0 / 8388608) 15)), .int .i8 (IntKind.i8.wrap (Go.bits .and .u32 (a0 / 524288) 15)), .int .i8 (IntKind.i8.wrap (Go.bits .and .u32 (a0 / 32768) 15)), .int .i64 (wrap64 (Go.bits .and .u32 a0 32767))] 127 (0, 0)) (by (with_reducible repeat (first | refine blk_drewN ?_ _ | refine blk_drew ?_ | refine blk_alloc ?_ _)); exact BK104.out) hb); have n2_ := Aside0.mk (below_step (by repeat (first | (with_reducible first | exact HB.out | apply below_alloc | apply pw_below_drewN | apply below_drew1 | refine below_set ?_ GE103.out | refine below_set ?_ GE104.out) | exact HB.out)) hb); clear BK103; clear BK104; clear HB; have BK103 := n0_; have BK104 := n1_; have HB := n2_; clear n0_ n1_ n2_; (try clear hb); (try clear hb2); (try clear hk); (try clear hi); have hcz45_0 : w44.cell? ⟨gb103, 0, none⟩ = some (.int .i8 0) := (blk_cell BK103.out 0).trans rfl; have hcz45_1 : w44.cell? ⟨gb103, 1, none⟩ = some (.int .i8 0) := (blk_cell BK103.out 1).trans rfl; have hcz45_2 : w44.cell? ⟨gb103, 2, none⟩ = some (.int .i8 0) := (blk_cell BK103.out 2).trans rfl; have hcz45_3 : w44.cell? ⟨gb103, 3, none⟩ = some (.int .i8 0) := (blk_cell BK103.out 3).trans rfl; have hcz45_4 : w44.cell? ⟨gb103, 4, none⟩ = some (.int .i64 0) := (blk_cell BK103.out 4).trans rfl; have hfz45_0 := blk_frozen BK103.out 0; have hfz45_1 := blk_frozen BK103.out 1; have hfz45_2 := blk_frozen BK103.out 2; have hfz45_3 := blk_frozen BK103.out 3; have hfz45_4 := blk_frozen BK103.out 4))
     refine bodyPost_ret (results_cell_row rfl _ _ gb103 127 #[.int .i8 (-1), .int .i8 0, .int .i8 0, .int .i8 0, .int .i64 (wrap64 (a0))] (0, 0) _ rfl (by (with_reducible repeat (first | refine blk_drewN ?_ _ | refine blk_drew ?_ | refine blk_alloc ?_ _)); refine blk_put (cs := #[.int .i8 (-1), .int .i8 0, .int .i8 0, .int .i8 0, .int .i64 0]) ?_ 4 _ rfl; (with_reducible repeat (first | refine blk_drewN ?_ _ | refine blk_drew ?_ | refine blk_alloc ?_ _)); refine blk_put (cs := #[.int .i8 (-1), .int .i8 0, .int .i8 0, .int .i8 0, .int .i64 0]) ?_ 3 _ rfl; (with_reducible repeat (first | refine blk_drewN ?_ _ | refine blk_drew ?_ | refine blk_alloc ?_ _)); refine blk_put (cs := #[.int .i8 (-1), .int .i8 0, .int .i8 0, .int .i8 0, .int .i64 0]) ?_ 2 _ rfl; (with_reducible repeat (first | refine blk_drewN ?_ _ | refine blk_drew ?_ | refine blk_alloc ?_ _)); refine blk_put (cs := #[.int .i8 (-1), .int .i8 0, .int .i8 0, .int .i8 0, .int .i64 0]) ?_ 1 _ rfl; (with_reducible repeat (first | refine blk_drewN ?_ _ | refine blk_drew ?_ | refine blk_alloc ?_ _)); refine blk_put (cs := #[.int .i8 0, .int .i8 0, .int .i8 0, .int .i8 0, .int .i64 0]) ?_ 0 _ rfl; (with_reducible repeat (first | refine blk_drewN ?_ _ | refine blk_drew ?_ | refine blk_alloc ?_ _)); exact BK103.out) Tryd.underlying127 rfl (by kernel_rfl)) rfl ?_
     exact ⟨by first | rfl | (simp [errW_none, errW_some] <;> rfl) | (simp [*, errW_none, errW_some] <;> rfl), by repeat (first | (with_reducible first | exact HB.out | apply below_alloc | apply pw_below_drewN | apply below_drew1 | refine below_set ?_ GE103.out | refine below_set ?_ GE104.out) | exact HB.out)⟩


/-! ### isa_Target: function 23 -/
def isa_Target.f (k : Nat) (a0 : Int) : Option (Int × Bool) := (isa_Decode.f k a0).bind fun bt110 => ((isa_has.f bt110.1).bind fun t116 => (if (Go.bits .and .i64 t116 16) = 0 then (some (0, false)) else (some (bt110.2.2.2.2, true))))
theorem isa_Target.mono : ∀ a0 k, LeO (isa_Target.f k a0) (isa_Target.f (k + 1) a0) := by
 intro a0 k
 unfold isa_Target.f
 repeat' first
   | (with_reducible exact isa_Decode.mono _ _)
   | (with_reducible exact LeO.refl _)
   | (with_reducible exact LeO.none _)
   | (with_reducible refine LeO.ite ?_ ?_)
   | (with_reducible refine LeO.bind ?_ (fun _ => ?_))
   | exact isa_Decode.mono _ _
   | exact LeO.none _
   | refine LeO.ite ?_ ?_
   | refine LeO.bind ?_ (fun _ => ?_)
set_option maxHeartbeats 8000000 in
set_option maxRecDepth 100000 in
theorem isa_Target.calls (k : Nat) (a0 : Int) (r1 : Int) (r2 : Bool) (w : World) (h : isa_Target.f k a0 = some (r1, r2)) :
  Calls Tryd.prog 23 #[.int .u32 a0] w fun e w' => e = .returned (.tuple #[.int .i64 r1, .bool r2]) ∧ Below w.heap.size w w' := by
 have hu127 := Tryd.underlying127
 have HB := Aside0.mk (Below.refl w.heap.size w)
 have H : ((isa_Decode.f k a0).bind fun bt110 => ((isa_has.f bt110.1).bind fun t116 => (if (Go.bits .and .i64 t116 16) = 0 then (some (0, false)) else (some (bt110.2.2.2.2, true))))) = some (r1, r2) := h
 clear h
 replace H := Option.bind_eq_some_iff.mp H
 obtain ⟨⟨t110, t111, t112, t113, t114⟩, A20, H⟩ := H
 try dsimp only at H
 have A2 := Aside0.mk A20
 clear A20
 replace H := Option.bind_eq_some_iff.mp H
 obtain ⟨t116, A30, H⟩ := H
 try dsimp only at H
 have A3 := Aside0.mk A30
 clear A30
 by_cases c4 : (Go.bits .and .i64 t116 16) = 0
 ·
  rw [if_pos c4] at H
  have c4b0 : ((Go.bits .and .i64 t116 16) == 0) = true := beq_iff_eq.mpr c4
  have c4b1 : ((Go.bits .and .i64 t116 16) != 0) = false := bne_eq_false_iff_eq.mpr c4
  clear c4
  simp only [Option.some.injEq, Prod.mk.injEq] at H
  obtain ⟨rfl, rfl⟩ := H
  go_enter Tryd.func23, Tryd.ntmps23
  go_wp2_with (first | ((with_reducible refine gate_callee (f := 64) rfl ?_); refine goesL_ (some 6) rfl rfl Tryd.func64 (by kernel_rfl) rfl #[.int .u32 a0] rfl (by (try simp only [List.map_toArray, List.map_cons, List.map_nil]); first | done | rfl | (simp only [List.length_drop, List.length_take]; rfl)) ?_; (with_reducible refine (isa_Decode.calls k a0 t110 t111 t112 t113 t114 _ A2.out).mono ?_); rintro e w5 ⟨rfl, hb⟩; refine ⟨_, rfl, ?_⟩; have n0_ := Aside0.mk (below_step (by repeat (first | (with_reducible first | exact HB.out | apply below_alloc | apply pw_below_drewN | apply below_drew1) | exact HB.out)) hb); clear HB; have HB := n0_; clear n0_; (try clear hb); (try clear hb2); (try clear hk); (try clear hi)) | ((with_reducible refine gate_dst (N := 4) rfl ?_); refine box_event ?hg (N := 4) ?hd (cs := #[.int .i8 0, .int .i8 0, .int .i8 0, .int .i8 0, .int .i64 0]) (t := 127) ?hr ?_; (case hd => rfl); (case hg => rfl); (case hr => first | (go_simp; done) | (go_simp; rfl)); intro gb115 hg w6 hbox hb; have n0_ := Aside0.mk (below_step (by repeat (first | (with_reducible first | exact HB.out | apply below_alloc | apply pw_below_drewN | apply below_drew1) | exact HB.out)) hb); have n1_ := Aside0.mk (hbox); have n2_ := Aside0.mk ((by rw [hg]; exact (below_size (by repeat (first | (with_reducible first | exact HB.out | apply below_alloc | apply pw_below_drewN | apply below_drew1) | exact HB.out))) : w.heap.size ≤ gb115)); have n3_ := Aside0.mk ((by rw [hg]; exact (below_size (by repeat (first | (with_reducible first | exact HB.out | apply below_alloc | apply pw_below_drewN | apply below_drew1) | exact HB.out))) : w.heap.size ≤ gb115)); clear HB; have HB := n0_; have BK115 := n1_; have GW115 := n2_; have GE115 := n3_; clear n0_ n1_ n2_ n3_; clear hb hbox hg; have hcz7_0 : w6.cell? ⟨gb115, 0, none⟩ = some (.int .i8 0) := (blk_cell BK115.out 0).trans rfl; have hcz7_1 : w6.cell? ⟨gb115, 1, none⟩ = some (.int .i8 0) := (blk_cell BK115.out 1).trans rfl; have hcz7_2 : w6.cell? ⟨gb115, 2, none⟩ = some (.int .i8 0) := (blk_cell BK115.out 2).trans rfl; have hcz7_3 : w6.cell? ⟨gb115, 3, none⟩ = some (.int .i8 0) := (blk_cell BK115.out 3).trans rfl; have hcz7_4 : w6.cell? ⟨gb115, 4, none⟩ = some (.int .i64 0) := (blk_cell BK115.out 4).trans rfl; have hfz7_0 := blk_frozen BK115.out 0; have hfz7_1 := blk_frozen BK115.out 1; have hfz7_2 := blk_frozen BK115.out 2; have hfz7_3 := blk_frozen BK115.out 3; have hfz7_4 := blk_frozen BK115.out 4) | ((with_reducible refine gate_callee (f := 69) rfl ?_); refine goesL_ (some 9) rfl rfl Tryd.func69 (by kernel_rfl) rfl #[.int .i8 t110] rfl (by (try simp only [List.map_toArray, List.map_cons, List.map_nil]); first | done | rfl | (simp only [List.length_drop, List.length_take]; rfl)) ?_; (with_reducible refine (isa_has.calls t110 t116 _ A3.out).mono ?_); rintro e w8 ⟨rfl, hb⟩; refine ⟨_, rfl, ?_⟩; have n0_ := Aside0.mk (blk_below (g := gb115) (o := .cells #[.int .i8 t110, .int .i8 t111, .int .i8 t112, .int .i8 t113, .int .i64 t114] 127 (0, 0)) (by (with_reducible repeat (first | refine blk_drewN ?_ _ | refine blk_drew ?_ | refine blk_alloc ?_ _)); refine blk_put (cs := #[.int .i8 t110, .int .i8 t111, .int .i8 t112, .int .i8 t113, .int .i64 0]) ?_ 4 _ rfl; (with_reducible repeat (first | refine blk_drewN ?_ _ | refine blk_drew ?_ | refine blk_alloc ?_ _)); refine blk_put (cs := #[.int .i8 t110, .int .i8 t111, .int .i8 t112, .int .i8 0, .int .i64 0]) ?_ 3 _ rfl; (with_reducible repeat (first | refine blk_drewN ?_ _ | refine blk_drew ?_ | refine blk_alloc ?_ _)); refine blk_put (cs := #[.int .i8 t110, .int .i8 t111, .int .i8 0, .int .i8 0, .int .i64 0]) ?_ 2 _ rfl; (with_reducible repeat (first | refine blk_drewN ?_ _ | refine blk_drew ?_ | refine blk_alloc ?_ _)); refine blk_put (cs := #[.int .i8 t110, .int .i8 0, .int .i8 0, .int .i8 0, .int .i64 0]) ?_ 1 _ rfl; (with_reducible repeat (first | refine blk_drewN ?_ _ | refine blk_drew ?_ | refine blk_alloc ?_ _)); refine blk_put (cs := #[.int .i8 0, .int .i8 0, .int .i8 0, .int .i8 0, .int .i64 0]) ?_ 0 _ rfl; (with_reducible repeat (first | refine blk_drewN ?_ _ | refine blk_drew ?_ | refine blk_alloc ?_ _)); exact BK115.out) hb); have n1_ := Aside0.mk (below_step (by repeat (first | (with_reducible first | exact HB.out | apply below_alloc | apply pw_below_drewN | apply below_drew1 | refine below_set ?_ GE115.out) | exact HB.out)) hb); clear BK115; clear HB; have BK115 := n0_; have HB := n1_; clear n0_ n1_; (try clear hb); (try clear hb2); (try clear hk); (try clear hi)))
  go_ret2
  exact ⟨by first | rfl | (simp [errW_none, errW_some] <;> rfl) | (simp [*, errW_none, errW_some] <;> rfl), by repeat (first | (with_reducible first | exact HB.out | apply below_alloc | apply pw_below_drewN | apply below_drew1 | refine below_set ?_ GE115.out) | exact HB.out)⟩
 ·
  rw [if_neg c4] at H
  have c4b0 : ((Go.bits .and .i64 t116 16) == 0) = false := beq_eq_false_iff_ne.mpr c4
  have c4b1 : ((Go.bits .and .i64 t116 16) != 0) = true := bne_iff_ne.mpr c4
  simp only [Option.some.injEq, Prod.mk.injEq] at H
  obtain ⟨rfl, rfl⟩ := H
  go_enter Tryd.func23, Tryd.ntmps23
  go_wp2_with (first | ((with_reducible refine gate_callee (f := 64) rfl ?_); refine goesL_ (some 6) rfl rfl Tryd.func64 (by kernel_rfl) rfl #[.int .u32 a0] rfl (by (try simp only [List.map_toArray, List.map_cons, List.map_nil]); first | done | rfl | (simp only [List.length_drop, List.length_take]; rfl)) ?_; (with_reducible refine (isa_Decode.calls k a0 t110 t111 t112 t113 t114 _ A2.out).mono ?_); rintro e w9 ⟨rfl, hb⟩; refine ⟨_, rfl, ?_⟩; have n0_ := Aside0.mk (below_step (by repeat (first | (with_reducible first | exact HB.out | apply below_alloc | apply pw_below_drewN | apply below_drew1) | exact HB.out)) hb); clear HB; have HB := n0_; clear n0_; (try clear hb); (try clear hb2); (try clear hk); (try clear hi)) | ((with_reducible refine gate_dst (N := 4) rfl ?_); refine box_event ?hg (N := 4) ?hd (cs := #[.int .i8 0, .int .i8 0, .int .i8 0, .int .i8 0, .int .i64 0]) (t := 127) ?hr ?_; (case hd => rfl); (case hg => rfl); (case hr => first | (go_simp; done) | (go_simp; rfl)); intro gb115 hg w10 hbox hb; have n0_ := Aside0.mk (below_step (by repeat (first | (with_reducible first | exact HB.out | apply below_alloc | apply pw_below_drewN | apply below_drew1) | exact HB.out)) hb); have n1_ := Aside0.mk (hbox); have n2_ := Aside0.mk ((by rw [hg]; exact (below_size (by repeat (first | (with_reducible first | exact HB.out | apply below_alloc | apply pw_below_drewN | apply below_drew1) | exact HB.out))) : w.heap.size ≤ gb115)); have n3_ := Aside0.mk ((by rw [hg]; exact (below_size (by repeat (first | (with_reducible first | exact HB.out | apply below_alloc | apply pw_below_drewN | apply below_drew1) | exact HB.out))) : w.heap.size ≤ gb115)); clear HB; have HB := n0_; have BK115 := n1_; have GW115 := n2_; have GE115 := n3_; clear n0_ n1_ n2_ n3_; clear hb hbox hg; have hcz11_0 : w10.cell? ⟨gb115, 0, none⟩ = some (.int .i8 0) := (blk_cell BK115.out 0).trans rfl; have hcz11_1 : w10.cell? ⟨gb115, 1, none⟩ = some (.int .i8 0) := (blk_cell BK115.out 1).trans rfl; have hcz11_2 : w10.cell? ⟨gb115, 2, none⟩ = some (.int .i8 0) := (blk_cell BK115.out 2).trans rfl; have hcz11_3 : w10.cell? ⟨gb115, 3, none⟩ = some (.int .i8 0) := (blk_cell BK115.out 3).trans rfl; have hcz11_4 : w10.cell? ⟨gb115, 4, none⟩ = some (.int .i64 0) := (blk_cell BK115.out 4).trans rfl; have hfz11_0 := blk_frozen BK115.out 0; have hfz11_1 := blk_frozen BK115.out 1; have hfz11_2 := blk_frozen BK115.out 2; have hfz11_3 := blk_frozen BK115.out 3; have hfz11_4 := blk_frozen BK115.out 4) | ((with_reducible refine gate_callee (f := 69) rfl ?_); refine goesL_ (some 9) rfl rfl Tryd.func69 (by kernel_rfl) rfl #[.int .i8 t110] rfl (by (try simp only [List.map_toArray, List.map_cons, List.map_nil]); first | done | rfl | (simp only [List.length_drop, List.length_take]; rfl)) ?_; (with_reducible refine (isa_has.calls t110 t116 _ A3.out).mono ?_); rintro e w12 ⟨rfl, hb⟩; refine ⟨_, rfl, ?_⟩; have n0_ := Aside0.mk (blk_below (g := gb115) (o := .cells #[.int .i8 t110, .int .i8 t111, .int .i8 t112, .int .i8 t113, .int .i64 t114] 127 (0, 0)) (by (with_reducible repeat (first | refine blk_drewN ?_ _ | refine blk_drew ?_ | refine blk_alloc ?_ _)); refine blk_put (cs := #[.int .i8 t110, .int .i8 t111, .int .i8 t112, .int .i8 t113, .int .i64 0]) ?_ 4 _ rfl; (with_reducible repeat (first | refine blk_drewN ?_ _ | refine blk_drew ?_ | refine blk_alloc ?_ _)); refine blk_put (cs := #[.int .i8 t110, .int .i8 t111, .int .i8 t112, .int .i8 0, .int .i64 0]) ?_ 3 _ rfl; (with_reducible repeat (first | refine blk_drewN ?_ _ | refine blk_drew ?_ | refine blk_alloc ?_ _)); refine blk_put (cs := #[.int .i8 t110, .int .i8 t111, .int .i8 0, .int .i8 0, .int .i64 0]) ?_ 2 _ rfl; (with_reducible repeat (first | refine blk_drewN ?_ _ | refine blk_drew ?_ | refine blk_alloc ?_ _)); refine blk_put (cs := #[.int .i8 t110, .int .i8 0, .int .i8 0, .int .i8 0, .int .i64 0]) ?_ 1 _ rfl; (with_reducible repeat (first | refine blk_drewN ?_ _ | refine blk_drew ?_ | refine blk_alloc ?_ _)); refine blk_put (cs := #[.int .i8 0, .int .i8 0, .int .i8 0, .int .i8 0, .int .i64 0]) ?_ 0 _ rfl; (with_reducible repeat (first | refine blk_drewN ?_ _ | refine blk_drew ?_ | refine blk_alloc ?_ _)); exact BK115.out) hb); have n1_ := Aside0.mk (below_step (by repeat (first | (with_reducible first | exact HB.out | apply below_alloc | apply pw_below_drewN | apply below_drew1 | refine below_set ?_ GE115.out) | exact HB.out)) hb); clear BK115; clear HB; have BK115 := n0_; have HB := n1_; clear n0_ n1_; (try clear hb); (try clear hb2); (try clear hk); (try clear hi); have hcz13_0 : w12.cell? ⟨gb115, 0, none⟩ = some (.int .i8 t110) := (blk_cell BK115.out 0).trans rfl; have hcz13_1 : w12.cell? ⟨gb115, 1, none⟩ = some (.int .i8 t111) := (blk_cell BK115.out 1).trans rfl; have hcz13_2 : w12.cell? ⟨gb115, 2, none⟩ = some (.int .i8 t112) := (blk_cell BK115.out 2).trans rfl; have hcz13_3 : w12.cell? ⟨gb115, 3, none⟩ = some (.int .i8 t113) := (blk_cell BK115.out 3).trans rfl; have hcz13_4 : w12.cell? ⟨gb115, 4, none⟩ = some (.int .i64 t114) := (blk_cell BK115.out 4).trans rfl; have hfz13_0 := blk_frozen BK115.out 0; have hfz13_1 := blk_frozen BK115.out 1; have hfz13_2 := blk_frozen BK115.out 2; have hfz13_3 := blk_frozen BK115.out 3; have hfz13_4 := blk_frozen BK115.out 4))
  go_ret2
  exact ⟨by first | rfl | (simp [errW_none, errW_some] <;> rfl) | (simp [*, errW_none, errW_some] <;> rfl), by repeat (first | (with_reducible first | exact HB.out | apply below_alloc | apply pw_below_drewN | apply below_drew1 | refine below_set ?_ GE115.out) | exact HB.out)⟩
end Go.Proofs.YtiaohbbafaaibabDoor.P

/- OWN TEXT: the instructions over plain numbers: what the program's and the reference's functions come to. -/
set_option linter.unusedVariables false
set_option linter.unusedSimpArgs false
namespace Go.Proofs.YtiaohbbafaaibabDoor.P
open Go.RowKit Go.Proofs.YtiaohbbafaaibabDoorW.PrintWords

def hasF (op : Int) : Int := if op < 0 then 0 else if op ≥ 22 then 0 else hasT op
theorem has1 (op : Int) : isa_has.f op = some (hasF op) := by
  unfold isa_has.f hasF
  repeat' split
  all_goals rfl
/-- Is a bit of a word of fields set? -/
def bitF (f m : Int) : Bool := Go.bits .and .i64 f m != 0
theorem and_u32 (i : Nat) (hi : i ≤ 32) {x : Int} (h0 : 0 ≤ x) (h1 : x < 4294967296) : Go.bits .and .u32 x (2 ^ i - 1) = x % 2 ^ i :=
  Go.bits_mask .u32 32 (by decide) (fun n a b => by rw [IntKind.wrap_u32]; omega) i hi x h0 (by omega)
theorem and_15 {x : Int} (h0 : 0 ≤ x) (h1 : x < 4294967296) : Go.bits .and .u32 x 15 = x % 16 := and_u32 4 (by decide) h0 h1
theorem and_32767 {x : Int} (h0 : 0 ≤ x) (h1 : x < 4294967296) : Go.bits .and .u32 x 32767 = x % 32768 := and_u32 15 (by decide) h0 h1
theorem or_u32 (i : Nat) {x y : Int} (hx0 : 0 ≤ x) (hx : x % 2 ^ i = 0) (hx1 : x < 4294967296) (hy0 : 0 ≤ y) (hy : y < 2 ^ i) (hy1 : y < 4294967296) : Go.bits .or .u32 x y = x + y :=
  Go.bits_join .u32 32 (by decide) (fun n a b => by rw [IntKind.wrap_u32]; omega) i x y hx0 hx (by omega) hy0 hy (by omega)
def wordS (op d a b n : Int) : Int := op * 134217728 + d * 8388608 + a * 524288 + b * 32768 + n % 32768
theorem encW_eq {op d a b n : Int} (h0 : 0 ≤ op) (h1 : op < 22) (d0 : 0 ≤ d) (d1 : d < 16) (a0 : 0 ≤ a) (a1 : a < 16) (b0 : 0 ≤ b) (b1 : b < 16) : encW op d a b n = wordS op d a b n := by
  unfold encW wordS
  rw [and_32767 (by omega) (by omega), or_u32 27 (x := op * 134217728) (y := d * 8388608) (by omega) (by omega) (by omega) (by omega) (by omega) (by omega),
    or_u32 23 (x := op * 134217728 + d * 8388608) (y := a * 524288) (by omega) (by omega) (by omega) (by omega) (by omega) (by omega),
    or_u32 19 (x := op * 134217728 + d * 8388608 + a * 524288) (y := b * 32768) (by omega) (by omega) (by omega) (by omega) (by omega) (by omega),
    or_u32 15 (y := n % 4294967296 % 32768) (by omega) (by omega) (by omega) (by omega) (by omega) (by omega)]
  omega
def encS (op d a b n : Int) : Int × Int := if op < 0 then (0, 10) else if op ≥ 22 then (0, 10) else if BadIns (hasT op) d a b n then (0, 11) else (wordS op d a b n, 0)
theorem not_bad {f d a b n : Int} (h : ¬ BadIns f d a b n) : (0 ≤ d ∧ d < 16) ∧ (0 ≤ a ∧ a < 16) ∧ (0 ≤ b ∧ b < 16) ∧ lowT f ≤ n ∧ n ≤ highT f := by
  unfold BadIns badReg at h
  omega
theorem enc1 (op d a b n : Int) : isa_Encode.f op d a b n = some (encS op d a b n) := by
  unfold isa_Encode.f encS
  split
  · rfl
  · split
    · rfl
    · split
      · rfl
      · rename_i h1 h2 h3
        obtain ⟨⟨d0, d1⟩, ⟨a0, a1⟩, ⟨b0, b1⟩, _⟩ := not_bad h3
        rw [encW_eq (by omega) (by omega) d0 d1 a0 a1 b0 b1]
theorem i8_id {x : Int} (h0 : -128 ≤ x) (h1 : x ≤ 127) : IntKind.i8.wrap x = x := by
  simp [IntKind.wrap, IntKind.bits, IntKind.signed]
  omega
/-- The number of a word, its sign as its op has it. -/
def nS (w : Int) : Int := if bitF (hasF (w / 134217728)) 8 = true ∧ bitF (hasF (w / 134217728)) 16 = false ∧ 16384 ≤ w % 32768 then w % 32768 - 32768 else w % 32768
def decS (w : Int) : Int × Int × Int × Int × Int :=
  if encS (w / 134217728) (w / 8388608 % 16) (w / 524288 % 16) (w / 32768 % 16) (nS w) = (w, 0) then (w / 134217728, w / 8388608 % 16, w / 524288 % 16, w / 32768 % 16, nS w) else (-1, 0, 0, 0, w)
def decJ (w : Int) (b : Bool) (op d a c m : Int) : Int × Int × Int × Int × Int := if encS op d a c (if b = true then m - 32768 else m) = (w, 0) then (op, d, a, c, if b = true then m - 32768 else m) else (-1, 0, 0, 0, w)
theorem decJ1 {w : Int} (w0 : 0 ≤ w) (w1 : w < 4294967296) (b : Bool) (op d a c m : Int) (m0 : 0 ≤ m) (m1 : m < 32768) : Ev (fun k => isa_Decode.j0 k w b op d a c m) (decJ w b op d a c m) := by
  have hw : wrap64 w = w := wrap64_id (by omega) (by omega)
  have hm : wrap64 (m - 32768) = m - 32768 := wrap64_id (by omega) (by omega)
  refine Ev.succ ?_
  simp only [isa_Decode.j0, hw, hm]
  cases b with
  | true =>
    refine Ev.iteT rfl (Ev.bind0 (enc1 _ _ _ _ _) ?_)
    unfold decJ
    simp only [if_true]
    refine Ev.ite2 (fun h2 => Ev.ite2 (fun h1 => Ev.val ?_) (fun h1 => Ev.val ?_)) (fun h2 => Ev.val ?_)
    · rw [if_pos (Prod.ext h1 h2)]
    · rw [if_neg (fun h => h1 (by rw [h]))]
    · rw [if_neg (fun h => h2 (by rw [h]))]
  | false =>
    refine Ev.iteF (by decide) (Ev.bind0 (enc1 _ _ _ _ _) ?_)
    unfold decJ
    simp only [Bool.false_eq_true, if_false]
    refine Ev.ite2 (fun h2 => Ev.ite2 (fun h1 => Ev.val ?_) (fun h1 => Ev.val ?_)) (fun h2 => Ev.val ?_)
    · rw [if_pos (Prod.ext h1 h2)]
    · rw [if_neg (fun h => h1 (by rw [h]))]
    · rw [if_neg (fun h => h2 (by rw [h]))]

theorem parts {w : Int} (w0 : 0 ≤ w) (w1 : w < 4294967296) : IntKind.i8.wrap (w / 134217728) = w / 134217728 ∧ IntKind.i8.wrap (Go.bits .and .u32 (w / 8388608) 15) = w / 8388608 % 16 ∧ IntKind.i8.wrap (Go.bits .and .u32 (w / 524288) 15) = w / 524288 % 16 ∧
    IntKind.i8.wrap (Go.bits .and .u32 (w / 32768) 15) = w / 32768 % 16 ∧ wrap64 (Go.bits .and .u32 w 32767) = w % 32768 := by
  rw [and_15 (by omega) (by omega), and_15 (by omega) (by omega), and_15 (by omega) (by omega), and_32767 w0 w1]
  exact ⟨i8_id (by omega) (by omega), i8_id (by omega) (by omega), i8_id (by omega) (by omega), i8_id (by omega) (by omega), wrap64_id (by omega) (by omega)⟩
theorem dec1 {w : Int} (w0 : 0 ≤ w) (w1 : w < 4294967296) : Ev (fun k => isa_Decode.f k w) (decS w) := by
  have m0 : 0 ≤ w % 32768 := by omega
  have m1 : w % 32768 < 32768 := by omega
  obtain ⟨p1, p2, p3, p4, p5⟩ := parts w0 w1
  have J := fun b => decJ1 w0 w1 b (w / 134217728) (w / 8388608 % 16) (w / 524288 % 16) (w / 32768 % 16) (w % 32768) m0 m1
  have E0 : (bitF (hasF (w / 134217728)) 8 = true ∧ bitF (hasF (w / 134217728)) 16 = false ∧ 16384 ≤ w % 32768) → decJ w true (w / 134217728) (w / 8388608 % 16) (w / 524288 % 16) (w / 32768 % 16) (w % 32768) = decS w := fun h => by
    unfold decJ decS nS
    simp only [if_pos h, if_true]
  have E1 : ¬ (bitF (hasF (w / 134217728)) 8 = true ∧ bitF (hasF (w / 134217728)) 16 = false ∧ 16384 ≤ w % 32768) → decJ w false (w / 134217728) (w / 8388608 % 16) (w / 524288 % 16) (w / 32768 % 16) (w % 32768) = decS w := fun h => by
    unfold decJ decS nS
    simp only [if_neg h, Bool.false_eq_true, if_false]
  unfold isa_Decode.f
  rw [p1, p2, p3, p4, p5]
  refine Ev.bind0 (has1 _) (Ev.ite2 (fun h8 => ?_) (fun h8 => Ev.ite2 (fun h16 => ?_) (fun h16 => ?_)))
  · exact Ev.to (J false) (E1 (fun h => by simp [bitF, h8] at h))
  · by_cases hm : w % 32768 ≥ 16384
    · rw [show decide (w % 32768 ≥ 16384) = true from decide_eq_true hm]
      exact Ev.to (J true) (E0 ⟨by simp [bitF, h8], by simp [bitF, h16], hm⟩)
    · rw [show decide (w % 32768 ≥ 16384) = false from decide_eq_false hm]
      exact Ev.to (J false) (E1 (fun h => hm h.2.2))
  · exact Ev.to (J false) (E1 (fun h => by simp [bitF, h16] at h))

def tgtS (w : Int) : Int × Bool := if bitF (hasF (decS w).1) 16 = true then ((decS w).2.2.2.2, true) else (0, false)
theorem tgt1 {w : Int} (w0 : 0 ≤ w) (w1 : w < 4294967296) : Ev (fun k => isa_Target.f k w) (tgtS w) := by
  unfold isa_Target.f tgtS
  refine Ev.bind (dec1 w0 w1) (Ev.bind0 (has1 _) (Ev.ite2 (fun h => Ev.val ?_) (fun h => Ev.val ?_)))
  · rw [if_neg (by simp [bitF, h])]
  · rw [if_pos (by simp [bitF, h])]

end Go.Proofs.YtiaohbbafaaibabDoor.P

/- OWN TEXT: whether an object may be, over plain lists: what object.Check comes to. -/
namespace Go.Proofs.YtiaohbbafaaibabDoor.P
open Go.RowKit Go.Proofs.YtiaohbbafaaibabDoorW.PrintWords Go.Proofs.YtiaohbbafaaibabDoorW.PrintLast Go.Proofs.YtiaohbbafaaibabDoorW.PrintMore
set_option linter.unusedVariables false
set_option linter.unusedSimpArgs false

abbrev Rel := S68
def rl (l : List Rel) (i : Nat) : Rel := rd_T68 l (i : Int)
def wordsO (t : List Int) : Bool := t.all fun x => decide (0 ≤ x) && decide (x < 4294967296)
theorem wordsO_at {t : List Int} (h : wordsO t = true) {x : Int} (hx : x ∈ t) : 0 ≤ x ∧ x < 4294967296 := by
  have := List.all_eq_true.1 h x hx
  simpa using this
def lastR (l : List Rel) : Nat → Int
  | 0 => -1
  | i + 1 => (rl l i).f0
def relE (code : List Int) (ns : Int) (l : List Rel) (i : Nat) : Int :=
  if (rl l i).f0 ≤ lastR l i then 24 else if (rl l i).f0 ≥ (code.length : Int) then 24 else if (rl l i).f1 < 0 then 24 else if (rl l i).f1 ≥ ns then 24 else if (tgtS (rd code (rl l i).f0)).2 = true then (if (tgtS (rd code (rl l i).f0)).1 = 0 then 0 else 24) else 24
def markB (l : List Rel) : Nat → Nat → Bool
  | 0 => fun _ => false
  | i + 1 => fun k => decide (k = (rl l i).f0.toNat) || markB l i k
def scanE (code : List Int) (named : Nat → Bool) (k : Nat) : Int :=
  if (tgtS (rd code (k : Int))).2 = true then (if named k = true then 0 else if (tgtS (rd code (k : Int))).1 > (code.length : Int) then 22 else 0) else 0
def scanS (g : Nat → Int) (n : Nat) : Nat → Int × Int
  | 0 => (0, 0)
  | d + 1 => if g (n - (d + 1)) = 0 then scanS g n d else (g (n - (d + 1)), -1 - ((n - (d + 1) : Nat) : Int))
theorem scanS_step (g : Nat → Int) {n i : Nat} (h : i < n) : scanS g n (n - i) = if g i = 0 then scanS g n (n - (i + 1)) else (g i, -1 - (i : Int)) := by
  rw [show n - i = (n - (i + 1)) + 1 by omega]
  show (if g (n - (n - (i + 1) + 1)) = 0 then _ else _) = _
  rw [show n - (n - (i + 1) + 1) = i by omega]
def relocsS (code : List Int) (ns : Int) (l : List Rel) : Int × Int :=
  if (firstS (relE code ns l) l.length l.length).1 = 0 then scanS (scanE code (markB l l.length)) code.length code.length else firstS (relE code ns l) l.length l.length
def sizeS (name : ByteArray) (code : List Int) (dat : Int) (data : List Int) (ns nr : Nat) : Int × Int :=
  if nameS name = true then (if (code.length : Int) > 16384 then (21, -1) else if (ns : Int) > 256 then (21, -2) else if (nr : Int) > (code.length : Int) then (21, -3) else if dat < 0 then (25, -1) else if dat > 4096 then (25, -1) else if (data.length : Int) > 4096 - dat then (25, -1) else (0, 0)) else (20, -1)
def chkO (name : ByteArray) (code : List Int) (dat : Int) (data : List Int) (syms : List Sym) (rels : List Rel) : Int × Int :=
  if (sizeS name code dat data syms.length rels.length).1 = 0 then
    (if (symsS syms (code.length : Int)).1 = 0 then
      (if (relocsS code (syms.length : Int) rels).1 = 0 then (0, 0) else relocsS code (syms.length : Int) rels)
    else symsS syms (code.length : Int))
  else sizeS name code dat data syms.length rels.length
def object_Check.f (a0_0 : ByteArray) (l0_1 : List Int) (a0_2 : Int) (l0_3 : List Int) (l0_4 : List Sym) (l0_5 : List Rel) : Option (Int × Int) := if wordsO l0_1 = true then some (chkO a0_0 l0_1 a0_2 l0_3 l0_4 l0_5) else none
end Go.Proofs.YtiaohbbafaaibabDoor.P
