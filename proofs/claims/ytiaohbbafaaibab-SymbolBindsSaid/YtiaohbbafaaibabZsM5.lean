/- OWN TEXT and printed parts of this claim, laid together: P17, IsaL, HObjD, HSymR. -/
import Derived.Test.YtiaohbbafaaibabZsM0
import Derived.Test.YtiaohbbafaaibabZsM3
import Derived.Test.YtiaohbbafaaibabZsM4
import Derived.Test.YtiaohbbafaaibabZsM2
import Derived.Test.YtiaohbbafaaibabZsM1
/- What the Go functions named below come to, as plain functions, each with its proof; written by this session's prt.py over the kit's print. -/
namespace Go.Proofs.Ytiaohbbafaaibab.P
open Go.RowKit Go.Proofs.YtiaohbbafaaibabW.PrintWords Go.Proofs.YtiaohbbafaaibabW.PrintLast Go.Proofs.YtiaohbbafaaibabW.PrintMore
attribute [local go_sem] max2_int min2_int max_two min_two max_three min_three max_four min_four   -- for this text's walks alone
set_option linter.unusedVariables false
set_option linter.unusedSimpArgs false
/-! ### pleatref02_Decode: function 74 -/
def pleatref02_Decode.j0 : Nat → Int → Bool → Int → Int → Int → Int → Int → Option (Int × Int × Int × Int × Int)
 | 0, _, _, _, _, _, _, _ => none
 | k + 1, x0, x40, x478000, x478001, x478002, x478003, x478004 => if x40 = true then ((pleatref02_Encode.f k x478000 x478001 x478002 x478003 (wrap64 (x478004 - 32768))).bind fun bt484 => (if bt484.2 = 0 then (if bt484.1 = x0 then (some (x478000, x478001, x478002, x478003, wrap64 (x478004 - 32768))) else (some ((-1), 0, 0, 0, wrap64 (x0)))) else (some ((-1), 0, 0, 0, wrap64 (x0))))) else ((pleatref02_Encode.f k x478000 x478001 x478002 x478003 x478004).bind fun bt486 => (if bt486.2 = 0 then (if bt486.1 = x0 then (some (x478000, x478001, x478002, x478003, x478004)) else (some ((-1), 0, 0, 0, wrap64 (x0)))) else (some ((-1), 0, 0, 0, wrap64 (x0)))))
def pleatref02_Decode.f (k : Nat) (a0 : Int) : Option (Int × Int × Int × Int × Int) := (pleatref02_Has.f k (IntKind.i8.wrap (a0 / 134217728))).bind fun bt478 => (if bt478.2.2.2.1 = true then (if bt478.2.2.2.2 = true then (pleatref02_Decode.j0 k a0 false (IntKind.i8.wrap (a0 / 134217728)) (IntKind.i8.wrap (Go.bits .and .u32 (a0 / 8388608) 15)) (IntKind.i8.wrap (Go.bits .and .u32 (a0 / 524288) 15)) (IntKind.i8.wrap (Go.bits .and .u32 (a0 / 32768) 15)) (wrap64 (Go.bits .and .u32 a0 32767))) else (pleatref02_Decode.j0 k a0 (decide ((wrap64 (Go.bits .and .u32 a0 32767)) ≥ 16384)) (IntKind.i8.wrap (a0 / 134217728)) (IntKind.i8.wrap (Go.bits .and .u32 (a0 / 8388608) 15)) (IntKind.i8.wrap (Go.bits .and .u32 (a0 / 524288) 15)) (IntKind.i8.wrap (Go.bits .and .u32 (a0 / 32768) 15)) (wrap64 (Go.bits .and .u32 a0 32767)))) else (pleatref02_Decode.j0 k a0 false (IntKind.i8.wrap (a0 / 134217728)) (IntKind.i8.wrap (Go.bits .and .u32 (a0 / 8388608) 15)) (IntKind.i8.wrap (Go.bits .and .u32 (a0 / 524288) 15)) (IntKind.i8.wrap (Go.bits .and .u32 (a0 / 32768) 15)) (wrap64 (Go.bits .and .u32 a0 32767))))
theorem pleatref02_Decode.mono_l : ∀ k, (∀ y0 y1 y2 y3 y4 y5 y6, LeO (pleatref02_Decode.j0 k y0 y1 y2 y3 y4 y5 y6) (pleatref02_Decode.j0 (k + 1) y0 y1 y2 y3 y4 y5 y6))
 | 0 => fun _ _ _ _ _ _ _ r h => by simp [pleatref02_Decode.j0] at h
 | k + 1 => by
  have ih0 := pleatref02_Decode.mono_l k
  ·
   intro y0 y1 y2 y3 y4 y5 y6
   unfold pleatref02_Decode.j0
   repeat' first
   | (with_reducible exact ih0 _ _ _ _ _ _ _)
   | (with_reducible exact pleatref02_Encode.mono _ _ _ _ _ _)
   | (with_reducible exact pleatref02_Has.mono _ _)
   | (with_reducible exact LeO.refl _)
   | (with_reducible exact LeO.none _)
   | (with_reducible refine LeO.ite ?_ ?_)
   | (with_reducible refine LeO.bind ?_ (fun _ => ?_))
   | exact ih0 _ _ _ _ _ _ _
   | exact pleatref02_Encode.mono _ _ _ _ _ _
   | exact pleatref02_Has.mono _ _
   | exact LeO.none _
   | refine LeO.ite ?_ ?_
   | refine LeO.bind ?_ (fun _ => ?_)
theorem pleatref02_Decode.mono : ∀ a0 k, LeO (pleatref02_Decode.f k a0) (pleatref02_Decode.f (k + 1) a0) := by
 intro a0 k
 have ih0 := pleatref02_Decode.mono_l k
 unfold pleatref02_Decode.f
 repeat' first
   | (with_reducible exact ih0 _ _ _ _ _ _ _)
   | (with_reducible exact pleatref02_Encode.mono _ _ _ _ _ _)
   | (with_reducible exact pleatref02_Has.mono _ _)
   | (with_reducible exact LeO.refl _)
   | (with_reducible exact LeO.none _)
   | (with_reducible refine LeO.ite ?_ ?_)
   | (with_reducible refine LeO.bind ?_ (fun _ => ?_))
   | exact ih0 _ _ _ _ _ _ _
   | exact pleatref02_Encode.mono _ _ _ _ _ _
   | exact pleatref02_Has.mono _ _
   | exact LeO.none _
   | refine LeO.ite ?_ ?_
   | refine LeO.bind ?_ (fun _ => ?_)
set_option maxHeartbeats 8000000 in
set_option maxRecDepth 100000 in
theorem pleatref02_Decode.calls (k : Nat) (a0 : Int) (r1 : Int) (r2 : Int) (r3 : Int) (r4 : Int) (r5 : Int) (w : World) (h : pleatref02_Decode.f k a0 = some (r1, r2, r3, r4, r5)) :
  Calls Try.prog 74 #[.int .u32 a0] w fun e w' => e = .returned (.agg #[.int .i8 r1, .int .i8 r2, .int .i8 r3, .int .i8 r4, .int .i64 r5]) ∧ Below w.heap.size w w' := by
 have hu106 := Try.underlying106
 have hu115 := Try.underlying115
 have HB := Aside0.mk (Below.refl w.heap.size w)
 have H : ((pleatref02_Has.f k (IntKind.i8.wrap (a0 / 134217728))).bind fun bt478 => (if bt478.2.2.2.1 = true then (if bt478.2.2.2.2 = true then (pleatref02_Decode.j0 k a0 false (IntKind.i8.wrap (a0 / 134217728)) (IntKind.i8.wrap (Go.bits .and .u32 (a0 / 8388608) 15)) (IntKind.i8.wrap (Go.bits .and .u32 (a0 / 524288) 15)) (IntKind.i8.wrap (Go.bits .and .u32 (a0 / 32768) 15)) (wrap64 (Go.bits .and .u32 a0 32767))) else (pleatref02_Decode.j0 k a0 (decide ((wrap64 (Go.bits .and .u32 a0 32767)) ≥ 16384)) (IntKind.i8.wrap (a0 / 134217728)) (IntKind.i8.wrap (Go.bits .and .u32 (a0 / 8388608) 15)) (IntKind.i8.wrap (Go.bits .and .u32 (a0 / 524288) 15)) (IntKind.i8.wrap (Go.bits .and .u32 (a0 / 32768) 15)) (wrap64 (Go.bits .and .u32 a0 32767)))) else (pleatref02_Decode.j0 k a0 false (IntKind.i8.wrap (a0 / 134217728)) (IntKind.i8.wrap (Go.bits .and .u32 (a0 / 8388608) 15)) (IntKind.i8.wrap (Go.bits .and .u32 (a0 / 524288) 15)) (IntKind.i8.wrap (Go.bits .and .u32 (a0 / 32768) 15)) (wrap64 (Go.bits .and .u32 a0 32767))))) = some (r1, r2, r3, r4, r5) := h
 clear h
 replace H := Option.bind_eq_some_iff.mp H
 obtain ⟨⟨t478, t479, t480, t481, t482⟩, A20, H⟩ := H
 try dsimp only at H
 have A2 := Aside0.mk A20
 clear A20
 have HC3 := Aside0.mk H
 clear H
 go_enter Try.func74, Try.ntmps74
 go_upto_region 3 with (first | ((with_reducible refine gate_dst (N := 2) rfl ?_); refine box_event ?hg (N := 2) ?hd (cs := #[.int .i8 0, .int .i8 0, .int .i8 0, .int .i8 0, .int .i64 0]) (t := 106) ?hr ?_; (case hd => rfl); (case hg => rfl); (case hr => first | (go_simp; done) | (go_simp; rfl)); intro gb476 hg w4 hbox hb; have n0_ := Aside0.mk (below_step (by repeat (first | (with_reducible first | exact HB.out | apply below_alloc | apply pw_below_drewN | apply below_drew1) | exact HB.out)) hb); have n1_ := Aside0.mk (hbox); have n2_ := Aside0.mk ((by rw [hg]; exact (below_size (by repeat (first | (with_reducible first | exact HB.out | apply below_alloc | apply pw_below_drewN | apply below_drew1) | exact HB.out))) : w.heap.size ≤ gb476)); have n3_ := Aside0.mk ((by rw [hg]; exact (below_size (by repeat (first | (with_reducible first | exact HB.out | apply below_alloc | apply pw_below_drewN | apply below_drew1) | exact HB.out))) : w.heap.size ≤ gb476)); clear HB; have HB := n0_; have BK476 := n1_; have GW476 := n2_; have GE476 := n3_; clear n0_ n1_ n2_ n3_; clear hb hbox hg) | ((with_reducible refine gate_dst (N := 3) rfl ?_); refine box_event ?hg (N := 3) ?hd (cs := #[.int .i8 0, .int .i8 0, .int .i8 0, .int .i8 0, .int .i64 0]) (t := 106) ?hr ?_; (case hd => rfl); (case hg => rfl); (case hr => first | (go_simp; done) | (go_simp; rfl)); intro gb477 hg w5 hbox hb; have n0_ := Aside0.mk (blk_below (g := gb476) (o := .cells #[.int .i8 0, .int .i8 0, .int .i8 0, .int .i8 0, .int .i64 0] 106 (0, 0)) (by (with_reducible repeat (first | refine blk_drewN ?_ _ | refine blk_drew ?_ | refine blk_alloc ?_ _)); exact BK476.out) hb); have n1_ := Aside0.mk (below_step (by repeat (first | (with_reducible first | exact HB.out | apply below_alloc | apply pw_below_drewN | apply below_drew1 | refine below_set ?_ GE476.out) | exact HB.out)) hb); have n2_ := Aside0.mk (hbox); have n3_ := Aside0.mk ((by rw [hg]; exact (below_size (by repeat (first | (with_reducible first | exact HB.out | apply below_alloc | apply pw_below_drewN | apply below_drew1 | refine below_set ?_ GE476.out) | exact HB.out))) : w.heap.size ≤ gb477)); have n4_ := Aside0.mk ((by rw [hg]; exact (below_size (by repeat (first | (with_reducible first | exact HB.out | apply below_alloc | apply pw_below_drewN | apply below_drew1 | refine below_set ?_ GE476.out) | exact HB.out))) : w.heap.size ≤ gb477)); have n5_ := Aside0.mk ((by rw [hg]; exact Nat.ne_of_lt (blk_lt (g := gb476) (o := .cells #[.int .i8 0, .int .i8 0, .int .i8 0, .int .i8 0, .int .i64 0] 106 (0, 0)) (by (with_reducible repeat (first | refine blk_drewN ?_ _ | refine blk_drew ?_ | refine blk_alloc ?_ _)); exact BK476.out)) : gb476 ≠ gb477)); have n6_ := Aside0.mk ((by rw [hg]; exact Nat.ne_of_gt (blk_lt (g := gb476) (o := .cells #[.int .i8 0, .int .i8 0, .int .i8 0, .int .i8 0, .int .i64 0] 106 (0, 0)) (by (with_reducible repeat (first | refine blk_drewN ?_ _ | refine blk_drew ?_ | refine blk_alloc ?_ _)); exact BK476.out)) : gb477 ≠ gb476)); clear BK476; clear HB; have BK476 := n0_; have HB := n1_; have BK477 := n2_; have GW477 := n3_; have GE477 := n4_; have NB476_477 := n5_; have NB477_476 := n6_; clear n0_ n1_ n2_ n3_ n4_ n5_ n6_; clear hb hbox hg; have hnb6 := NB477_476.out; have hnc6 := NB476_477.out; have hcz7_0 : w5.cell? ⟨gb477, 0, none⟩ = some (.int .i8 0) := (blk_cell BK477.out 0).trans rfl; have hcz7_1 : w5.cell? ⟨gb477, 1, none⟩ = some (.int .i8 0) := (blk_cell BK477.out 1).trans rfl; have hcz7_2 : w5.cell? ⟨gb477, 2, none⟩ = some (.int .i8 0) := (blk_cell BK477.out 2).trans rfl; have hcz7_3 : w5.cell? ⟨gb477, 3, none⟩ = some (.int .i8 0) := (blk_cell BK477.out 3).trans rfl; have hcz7_4 : w5.cell? ⟨gb477, 4, none⟩ = some (.int .i64 0) := (blk_cell BK477.out 4).trans rfl; have hfz7_0 := blk_frozen BK477.out 0; have hfz7_1 := blk_frozen BK477.out 1; have hfz7_2 := blk_frozen BK477.out 2; have hfz7_3 := blk_frozen BK477.out 3; have hfz7_4 := blk_frozen BK477.out 4) | ((with_reducible refine gate_callee (f := 75) rfl ?_); refine goesL_ (some 28) rfl rfl Try.func75 (by kernel_rfl) rfl #[.int .i8 (IntKind.i8.wrap (a0 / 134217728))] rfl (by (try simp only [List.map_toArray, List.map_cons, List.map_nil]); first | done | rfl | (simp only [List.length_drop, List.length_take]; rfl)) ?_; (with_reducible refine (pleatref02_Has.calls k (IntKind.i8.wrap (a0 / 134217728)) t478 t479 t480 t481 t482 _ A2.out).mono ?_); rintro e w8 ⟨rfl, hb⟩; refine ⟨_, rfl, ?_⟩; have n0_ := Aside0.mk (blk_below (g := gb476) (o := .cells #[.int .i8 0, .int .i8 0, .int .i8 0, .int .i8 0, .int .i64 0] 106 (0, 0)) (by (with_reducible repeat (first | refine blk_drewN ?_ _ | refine blk_drew ?_ | refine blk_alloc ?_ _)); refine blk_far ?_ NB476_477.out _; (with_reducible repeat (first | refine blk_drewN ?_ _ | refine blk_drew ?_ | refine blk_alloc ?_ _)); refine blk_far ?_ NB476_477.out _; (with_reducible repeat (first | refine blk_drewN ?_ _ | refine blk_drew ?_ | refine blk_alloc ?_ _)); refine blk_far ?_ NB476_477.out _; (with_reducible repeat (first | refine blk_drewN ?_ _ | refine blk_drew ?_ | refine blk_alloc ?_ _)); refine blk_far ?_ NB476_477.out _; (with_reducible repeat (first | refine blk_drewN ?_ _ | refine blk_drew ?_ | refine blk_alloc ?_ _)); refine blk_far ?_ NB476_477.out _; (with_reducible repeat (first | refine blk_drewN ?_ _ | refine blk_drew ?_ | refine blk_alloc ?_ _)); exact BK476.out) hb); have n1_ := Aside0.mk (blk_below (g := gb477) (o := .cells #[.int .i8 (IntKind.i8.wrap (a0 / 134217728)), .int .i8 (IntKind.i8.wrap (Go.bits .and .u32 (a0 / 8388608) 15)), .int .i8 (IntKind.i8.wrap (Go.bits .and .u32 (a0 / 524288) 15)), .int .i8 (IntKind.i8.wrap (Go.bits .and .u32 (a0 / 32768) 15)), .int .i64 (wrap64 (Go.bits .and .u32 a0 32767))] 106 (0, 0)) (by (with_reducible repeat (first | refine blk_drewN ?_ _ | refine blk_drew ?_ | refine blk_alloc ?_ _)); refine blk_put (cs := #[.int .i8 (IntKind.i8.wrap (a0 / 134217728)), .int .i8 (IntKind.i8.wrap (Go.bits .and .u32 (a0 / 8388608) 15)), .int .i8 (IntKind.i8.wrap (Go.bits .and .u32 (a0 / 524288) 15)), .int .i8 (IntKind.i8.wrap (Go.bits .and .u32 (a0 / 32768) 15)), .int .i64 0]) ?_ 4 _ rfl; (with_reducible repeat (first | refine blk_drewN ?_ _ | refine blk_drew ?_ | refine blk_alloc ?_ _)); refine blk_put (cs := #[.int .i8 (IntKind.i8.wrap (a0 / 134217728)), .int .i8 (IntKind.i8.wrap (Go.bits .and .u32 (a0 / 8388608) 15)), .int .i8 (IntKind.i8.wrap (Go.bits .and .u32 (a0 / 524288) 15)), .int .i8 0, .int .i64 0]) ?_ 3 _ rfl; (with_reducible repeat (first | refine blk_drewN ?_ _ | refine blk_drew ?_ | refine blk_alloc ?_ _)); refine blk_put (cs := #[.int .i8 (IntKind.i8.wrap (a0 / 134217728)), .int .i8 (IntKind.i8.wrap (Go.bits .and .u32 (a0 / 8388608) 15)), .int .i8 0, .int .i8 0, .int .i64 0]) ?_ 2 _ rfl; (with_reducible repeat (first | refine blk_drewN ?_ _ | refine blk_drew ?_ | refine blk_alloc ?_ _)); refine blk_put (cs := #[.int .i8 (IntKind.i8.wrap (a0 / 134217728)), .int .i8 0, .int .i8 0, .int .i8 0, .int .i64 0]) ?_ 1 _ rfl; (with_reducible repeat (first | refine blk_drewN ?_ _ | refine blk_drew ?_ | refine blk_alloc ?_ _)); refine blk_put (cs := #[.int .i8 0, .int .i8 0, .int .i8 0, .int .i8 0, .int .i64 0]) ?_ 0 _ rfl; (with_reducible repeat (first | refine blk_drewN ?_ _ | refine blk_drew ?_ | refine blk_alloc ?_ _)); exact BK477.out) hb); have n2_ := Aside0.mk (below_step (by repeat (first | (with_reducible first | exact HB.out | apply below_alloc | apply pw_below_drewN | apply below_drew1 | refine below_set ?_ GE476.out | refine below_set ?_ GE477.out) | exact HB.out)) hb); clear BK476; clear BK477; clear HB; have BK476 := n0_; have BK477 := n1_; have HB := n2_; clear n0_ n1_ n2_; (try clear hb); (try clear hb2); (try clear hk); (try clear hi)) | ((with_reducible refine gate_dst (N := 4) rfl ?_); refine box_event ?hg (N := 4) ?hd (cs := #[.bool false, .bool false, .bool false, .bool false, .bool false]) (t := 115) ?hr ?_; (case hd => rfl); (case hg => rfl); (case hr => first | (go_simp; done) | (go_simp; rfl)); intro gb483 hg w9 hbox hb; have n0_ := Aside0.mk (blk_below (g := gb476) (o := .cells #[.int .i8 0, .int .i8 0, .int .i8 0, .int .i8 0, .int .i64 0] 106 (0, 0)) (by (with_reducible repeat (first | refine blk_drewN ?_ _ | refine blk_drew ?_ | refine blk_alloc ?_ _)); exact BK476.out) hb); have n1_ := Aside0.mk (blk_below (g := gb477) (o := .cells #[.int .i8 (IntKind.i8.wrap (a0 / 134217728)), .int .i8 (IntKind.i8.wrap (Go.bits .and .u32 (a0 / 8388608) 15)), .int .i8 (IntKind.i8.wrap (Go.bits .and .u32 (a0 / 524288) 15)), .int .i8 (IntKind.i8.wrap (Go.bits .and .u32 (a0 / 32768) 15)), .int .i64 (wrap64 (Go.bits .and .u32 a0 32767))] 106 (0, 0)) (by (with_reducible repeat (first | refine blk_drewN ?_ _ | refine blk_drew ?_ | refine blk_alloc ?_ _)); exact BK477.out) hb); have n2_ := Aside0.mk (below_step (by repeat (first | (with_reducible first | exact HB.out | apply below_alloc | apply pw_below_drewN | apply below_drew1 | refine below_set ?_ GE476.out | refine below_set ?_ GE477.out) | exact HB.out)) hb); have n3_ := Aside0.mk (hbox); have n4_ := Aside0.mk ((by rw [hg]; exact (below_size (by repeat (first | (with_reducible first | exact HB.out | apply below_alloc | apply pw_below_drewN | apply below_drew1 | refine below_set ?_ GE476.out | refine below_set ?_ GE477.out) | exact HB.out))) : w.heap.size ≤ gb483)); have n5_ := Aside0.mk ((by rw [hg]; exact (below_size (by repeat (first | (with_reducible first | exact HB.out | apply below_alloc | apply pw_below_drewN | apply below_drew1 | refine below_set ?_ GE476.out | refine below_set ?_ GE477.out) | exact HB.out))) : w.heap.size ≤ gb483)); have n6_ := Aside0.mk ((by rw [hg]; exact Nat.ne_of_lt (blk_lt (g := gb476) (o := .cells #[.int .i8 0, .int .i8 0, .int .i8 0, .int .i8 0, .int .i64 0] 106 (0, 0)) (by (with_reducible repeat (first | refine blk_drewN ?_ _ | refine blk_drew ?_ | refine blk_alloc ?_ _)); exact BK476.out)) : gb476 ≠ gb483)); have n7_ := Aside0.mk ((by rw [hg]; exact Nat.ne_of_gt (blk_lt (g := gb476) (o := .cells #[.int .i8 0, .int .i8 0, .int .i8 0, .int .i8 0, .int .i64 0] 106 (0, 0)) (by (with_reducible repeat (first | refine blk_drewN ?_ _ | refine blk_drew ?_ | refine blk_alloc ?_ _)); exact BK476.out)) : gb483 ≠ gb476)); have n8_ := Aside0.mk ((by rw [hg]; exact Nat.ne_of_lt (blk_lt (g := gb477) (o := .cells #[.int .i8 (IntKind.i8.wrap (a0 / 134217728)), .int .i8 (IntKind.i8.wrap (Go.bits .and .u32 (a0 / 8388608) 15)), .int .i8 (IntKind.i8.wrap (Go.bits .and .u32 (a0 / 524288) 15)), .int .i8 (IntKind.i8.wrap (Go.bits .and .u32 (a0 / 32768) 15)), .int .i64 (wrap64 (Go.bits .and .u32 a0 32767))] 106 (0, 0)) (by (with_reducible repeat (first | refine blk_drewN ?_ _ | refine blk_drew ?_ | refine blk_alloc ?_ _)); exact BK477.out)) : gb477 ≠ gb483)); have n9_ := Aside0.mk ((by rw [hg]; exact Nat.ne_of_gt (blk_lt (g := gb477) (o := .cells #[.int .i8 (IntKind.i8.wrap (a0 / 134217728)), .int .i8 (IntKind.i8.wrap (Go.bits .and .u32 (a0 / 8388608) 15)), .int .i8 (IntKind.i8.wrap (Go.bits .and .u32 (a0 / 524288) 15)), .int .i8 (IntKind.i8.wrap (Go.bits .and .u32 (a0 / 32768) 15)), .int .i64 (wrap64 (Go.bits .and .u32 a0 32767))] 106 (0, 0)) (by (with_reducible repeat (first | refine blk_drewN ?_ _ | refine blk_drew ?_ | refine blk_alloc ?_ _)); exact BK477.out)) : gb483 ≠ gb477)); clear BK476; clear BK477; clear HB; have BK476 := n0_; have BK477 := n1_; have HB := n2_; have BK483 := n3_; have GW483 := n4_; have GE483 := n5_; have NB476_483 := n6_; have NB483_476 := n7_; have NB477_483 := n8_; have NB483_477 := n9_; clear n0_ n1_ n2_ n3_ n4_ n5_ n6_ n7_ n8_ n9_; clear hb hbox hg; have hnb10 := NB483_476.out; have hnc10 := NB476_483.out; have hnb11 := NB483_477.out; have hnc11 := NB477_483.out; have hcz12_0 : w9.cell? ⟨gb483, 0, none⟩ = some (.bool false) := (blk_cell BK483.out 0).trans rfl; have hcz12_1 : w9.cell? ⟨gb483, 1, none⟩ = some (.bool false) := (blk_cell BK483.out 1).trans rfl; have hcz12_2 : w9.cell? ⟨gb483, 2, none⟩ = some (.bool false) := (blk_cell BK483.out 2).trans rfl; have hcz12_3 : w9.cell? ⟨gb483, 3, none⟩ = some (.bool false) := (blk_cell BK483.out 3).trans rfl; have hcz12_4 : w9.cell? ⟨gb483, 4, none⟩ = some (.bool false) := (blk_cell BK483.out 4).trans rfl; have hfz12_0 := blk_frozen BK483.out 0; have hfz12_1 := blk_frozen BK483.out 1; have hfz12_2 := blk_frozen BK483.out 2; have hfz12_3 := blk_frozen BK483.out 3; have hfz12_4 := blk_frozen BK483.out 4))
 (try simp only [Act.put, List.setIfInBounds_toArray, List.set_cons_zero, List.set_cons_succ])
 go_cut [40] (fun v40 wc => ∃ (kq : Nat) (x40_2 : Bool), v40 = .bool x40_2 ∧ Aside0 (pleatref02_Decode.j0 kq a0 x40_2 (IntKind.i8.wrap (a0 / 134217728)) (IntKind.i8.wrap (Go.bits .and .u32 (a0 / 8388608) 15)) (IntKind.i8.wrap (Go.bits .and .u32 (a0 / 524288) 15)) (IntKind.i8.wrap (Go.bits .and .u32 (a0 / 32768) 15)) (wrap64 (Go.bits .and .u32 a0 32767)) = some (r1, r2, r3, r4, r5)) ∧ Aside0 (kq ≤ k) ∧ Aside0 (wc.heap[gb476]? = some (.cells #[.int .i8 0, .int .i8 0, .int .i8 0, .int .i8 0, .int .i64 0] 106 (0, 0))) ∧ Aside0 (wc.heap[gb477]? = some (.cells #[.int .i8 (IntKind.i8.wrap (a0 / 134217728)), .int .i8 (IntKind.i8.wrap (Go.bits .and .u32 (a0 / 8388608) 15)), .int .i8 (IntKind.i8.wrap (Go.bits .and .u32 (a0 / 524288) 15)), .int .i8 (IntKind.i8.wrap (Go.bits .and .u32 (a0 / 32768) 15)), .int .i64 (wrap64 (Go.bits .and .u32 a0 32767))] 106 (0, 0))) ∧ Aside0 (wc.heap[gb483]? = some (.cells #[.bool t478, .bool t479, .bool t480, .bool t481, .bool t482] 115 (0, 0))) ∧ Aside0 (Below w.heap.size w wc))
 case first =>
  have H := HC3.out
  clear HC3
  by_cases c13 : t481 = true
  ·
   subst c13
   have H1 : (if t482 = true then (pleatref02_Decode.j0 k a0 false (IntKind.i8.wrap (a0 / 134217728)) (IntKind.i8.wrap (Go.bits .and .u32 (a0 / 8388608) 15)) (IntKind.i8.wrap (Go.bits .and .u32 (a0 / 524288) 15)) (IntKind.i8.wrap (Go.bits .and .u32 (a0 / 32768) 15)) (wrap64 (Go.bits .and .u32 a0 32767))) else (pleatref02_Decode.j0 k a0 (decide ((wrap64 (Go.bits .and .u32 a0 32767)) ≥ 16384)) (IntKind.i8.wrap (a0 / 134217728)) (IntKind.i8.wrap (Go.bits .and .u32 (a0 / 8388608) 15)) (IntKind.i8.wrap (Go.bits .and .u32 (a0 / 524288) 15)) (IntKind.i8.wrap (Go.bits .and .u32 (a0 / 32768) 15)) (wrap64 (Go.bits .and .u32 a0 32767)))) = some (r1, r2, r3, r4, r5) := by rw [if_pos rfl] at H; exact H
   clear H
   have H := H1
   clear H1
   by_cases c14 : t482 = true
   ·
    subst c14
    have H1 : (pleatref02_Decode.j0 k a0 false (IntKind.i8.wrap (a0 / 134217728)) (IntKind.i8.wrap (Go.bits .and .u32 (a0 / 8388608) 15)) (IntKind.i8.wrap (Go.bits .and .u32 (a0 / 524288) 15)) (IntKind.i8.wrap (Go.bits .and .u32 (a0 / 32768) 15)) (wrap64 (Go.bits .and .u32 a0 32767))) = some (r1, r2, r3, r4, r5) := by rw [if_pos rfl] at H; exact H
    clear H
    have H := H1
    clear H1
    have H' := Aside0.mk H
    clear H
    have hnb15 := NB483_476.out
    have hnc15 := NB476_483.out
    have hnb16 := NB483_477.out
    have hnc16 := NB477_483.out
    have hcz17_0 : w9.cell? ⟨gb483, 0, none⟩ = some (.bool false) := (blk_cell BK483.out 0).trans rfl
    have hcz17_1 : w9.cell? ⟨gb483, 1, none⟩ = some (.bool false) := (blk_cell BK483.out 1).trans rfl
    have hcz17_2 : w9.cell? ⟨gb483, 2, none⟩ = some (.bool false) := (blk_cell BK483.out 2).trans rfl
    have hcz17_3 : w9.cell? ⟨gb483, 3, none⟩ = some (.bool false) := (blk_cell BK483.out 3).trans rfl
    have hcz17_4 : w9.cell? ⟨gb483, 4, none⟩ = some (.bool false) := (blk_cell BK483.out 4).trans rfl
    have hfz17_0 := blk_frozen BK483.out 0
    have hfz17_1 := blk_frozen BK483.out 1
    have hfz17_2 := blk_frozen BK483.out 2
    have hfz17_3 := blk_frozen BK483.out 3
    have hfz17_4 := blk_frozen BK483.out 4
    go_wp2
    go_meet
    case rel => exact ⟨_, (false), (by first | rfl | (simp; done) | (simp [*]; done)), H', ⟨by first | omega | exact Nat.le_refl _⟩, ⟨by (with_reducible repeat (first | refine blk_drewN ?_ _ | refine blk_drew ?_ | refine blk_alloc ?_ _)); refine blk_far ?_ NB476_483.out _; (with_reducible repeat (first | refine blk_drewN ?_ _ | refine blk_drew ?_ | refine blk_alloc ?_ _)); refine blk_far ?_ NB476_483.out _; (with_reducible repeat (first | refine blk_drewN ?_ _ | refine blk_drew ?_ | refine blk_alloc ?_ _)); refine blk_far ?_ NB476_483.out _; (with_reducible repeat (first | refine blk_drewN ?_ _ | refine blk_drew ?_ | refine blk_alloc ?_ _)); refine blk_far ?_ NB476_483.out _; (with_reducible repeat (first | refine blk_drewN ?_ _ | refine blk_drew ?_ | refine blk_alloc ?_ _)); refine blk_far ?_ NB476_483.out _; (with_reducible repeat (first | refine blk_drewN ?_ _ | refine blk_drew ?_ | refine blk_alloc ?_ _)); exact BK476.out⟩, ⟨by (with_reducible repeat (first | refine blk_drewN ?_ _ | refine blk_drew ?_ | refine blk_alloc ?_ _)); refine blk_far ?_ NB477_483.out _; (with_reducible repeat (first | refine blk_drewN ?_ _ | refine blk_drew ?_ | refine blk_alloc ?_ _)); refine blk_far ?_ NB477_483.out _; (with_reducible repeat (first | refine blk_drewN ?_ _ | refine blk_drew ?_ | refine blk_alloc ?_ _)); refine blk_far ?_ NB477_483.out _; (with_reducible repeat (first | refine blk_drewN ?_ _ | refine blk_drew ?_ | refine blk_alloc ?_ _)); refine blk_far ?_ NB477_483.out _; (with_reducible repeat (first | refine blk_drewN ?_ _ | refine blk_drew ?_ | refine blk_alloc ?_ _)); refine blk_far ?_ NB477_483.out _; (with_reducible repeat (first | refine blk_drewN ?_ _ | refine blk_drew ?_ | refine blk_alloc ?_ _)); exact BK477.out⟩, ⟨by (with_reducible repeat (first | refine blk_drewN ?_ _ | refine blk_drew ?_ | refine blk_alloc ?_ _)); refine blk_put (cs := #[.bool t478, .bool t479, .bool t480, .bool true, .bool false]) ?_ 4 _ rfl; (with_reducible repeat (first | refine blk_drewN ?_ _ | refine blk_drew ?_ | refine blk_alloc ?_ _)); refine blk_put (cs := #[.bool t478, .bool t479, .bool t480, .bool false, .bool false]) ?_ 3 _ rfl; (with_reducible repeat (first | refine blk_drewN ?_ _ | refine blk_drew ?_ | refine blk_alloc ?_ _)); refine blk_put (cs := #[.bool t478, .bool t479, .bool false, .bool false, .bool false]) ?_ 2 _ rfl; (with_reducible repeat (first | refine blk_drewN ?_ _ | refine blk_drew ?_ | refine blk_alloc ?_ _)); refine blk_put (cs := #[.bool t478, .bool false, .bool false, .bool false, .bool false]) ?_ 1 _ rfl; (with_reducible repeat (first | refine blk_drewN ?_ _ | refine blk_drew ?_ | refine blk_alloc ?_ _)); refine blk_put (cs := #[.bool false, .bool false, .bool false, .bool false, .bool false]) ?_ 0 _ rfl; (with_reducible repeat (first | refine blk_drewN ?_ _ | refine blk_drew ?_ | refine blk_alloc ?_ _)); exact BK483.out⟩, ⟨by repeat (first | (with_reducible first | exact HB.out | apply below_alloc | apply pw_below_drewN | apply below_drew1 | refine below_set ?_ GE476.out | refine below_set ?_ GE477.out | refine below_set ?_ GE483.out) | exact HB.out)⟩⟩
   ·
    replace c14 := Bool.eq_false_iff.mpr c14
    subst c14
    have H1 : (pleatref02_Decode.j0 k a0 (decide ((wrap64 (Go.bits .and .u32 a0 32767)) ≥ 16384)) (IntKind.i8.wrap (a0 / 134217728)) (IntKind.i8.wrap (Go.bits .and .u32 (a0 / 8388608) 15)) (IntKind.i8.wrap (Go.bits .and .u32 (a0 / 524288) 15)) (IntKind.i8.wrap (Go.bits .and .u32 (a0 / 32768) 15)) (wrap64 (Go.bits .and .u32 a0 32767))) = some (r1, r2, r3, r4, r5) := by rw [if_neg (show ¬ (false = true) by decide)] at H; exact H
    clear H
    have H := H1
    clear H1
    have H' := Aside0.mk H
    clear H
    have hnb18 := NB483_476.out
    have hnc18 := NB476_483.out
    have hnb19 := NB483_477.out
    have hnc19 := NB477_483.out
    have hcz20_0 : w9.cell? ⟨gb483, 0, none⟩ = some (.bool false) := (blk_cell BK483.out 0).trans rfl
    have hcz20_1 : w9.cell? ⟨gb483, 1, none⟩ = some (.bool false) := (blk_cell BK483.out 1).trans rfl
    have hcz20_2 : w9.cell? ⟨gb483, 2, none⟩ = some (.bool false) := (blk_cell BK483.out 2).trans rfl
    have hcz20_3 : w9.cell? ⟨gb483, 3, none⟩ = some (.bool false) := (blk_cell BK483.out 3).trans rfl
    have hcz20_4 : w9.cell? ⟨gb483, 4, none⟩ = some (.bool false) := (blk_cell BK483.out 4).trans rfl
    have hfz20_0 := blk_frozen BK483.out 0
    have hfz20_1 := blk_frozen BK483.out 1
    have hfz20_2 := blk_frozen BK483.out 2
    have hfz20_3 := blk_frozen BK483.out 3
    have hfz20_4 := blk_frozen BK483.out 4
    have hnb21 := NB477_476.out
    have hnc21 := NB476_477.out
    have hcz22_0 : w9.cell? ⟨gb477, 0, none⟩ = some (.int .i8 (IntKind.i8.wrap (a0 / 134217728))) := (blk_cell BK477.out 0).trans rfl
    have hcz22_1 : w9.cell? ⟨gb477, 1, none⟩ = some (.int .i8 (IntKind.i8.wrap (Go.bits .and .u32 (a0 / 8388608) 15))) := (blk_cell BK477.out 1).trans rfl
    have hcz22_2 : w9.cell? ⟨gb477, 2, none⟩ = some (.int .i8 (IntKind.i8.wrap (Go.bits .and .u32 (a0 / 524288) 15))) := (blk_cell BK477.out 2).trans rfl
    have hcz22_3 : w9.cell? ⟨gb477, 3, none⟩ = some (.int .i8 (IntKind.i8.wrap (Go.bits .and .u32 (a0 / 32768) 15))) := (blk_cell BK477.out 3).trans rfl
    have hcz22_4 : w9.cell? ⟨gb477, 4, none⟩ = some (.int .i64 (wrap64 (Go.bits .and .u32 a0 32767))) := (blk_cell BK477.out 4).trans rfl
    have hfz22_0 := blk_frozen BK477.out 0
    have hfz22_1 := blk_frozen BK477.out 1
    have hfz22_2 := blk_frozen BK477.out 2
    have hfz22_3 := blk_frozen BK477.out 3
    have hfz22_4 := blk_frozen BK477.out 4
    go_wp2
    go_meet
    case rel => exact ⟨_, (decide ((wrap64 (Go.bits .and .u32 a0 32767)) ≥ 16384)), (by first | rfl | (simp; done) | (simp [*]; done)), H', ⟨by first | omega | exact Nat.le_refl _⟩, ⟨by (with_reducible repeat (first | refine blk_drewN ?_ _ | refine blk_drew ?_ | refine blk_alloc ?_ _)); refine blk_far ?_ NB476_483.out _; (with_reducible repeat (first | refine blk_drewN ?_ _ | refine blk_drew ?_ | refine blk_alloc ?_ _)); refine blk_far ?_ NB476_483.out _; (with_reducible repeat (first | refine blk_drewN ?_ _ | refine blk_drew ?_ | refine blk_alloc ?_ _)); refine blk_far ?_ NB476_483.out _; (with_reducible repeat (first | refine blk_drewN ?_ _ | refine blk_drew ?_ | refine blk_alloc ?_ _)); refine blk_far ?_ NB476_483.out _; (with_reducible repeat (first | refine blk_drewN ?_ _ | refine blk_drew ?_ | refine blk_alloc ?_ _)); refine blk_far ?_ NB476_483.out _; (with_reducible repeat (first | refine blk_drewN ?_ _ | refine blk_drew ?_ | refine blk_alloc ?_ _)); exact BK476.out⟩, ⟨by (with_reducible repeat (first | refine blk_drewN ?_ _ | refine blk_drew ?_ | refine blk_alloc ?_ _)); refine blk_far ?_ NB477_483.out _; (with_reducible repeat (first | refine blk_drewN ?_ _ | refine blk_drew ?_ | refine blk_alloc ?_ _)); refine blk_far ?_ NB477_483.out _; (with_reducible repeat (first | refine blk_drewN ?_ _ | refine blk_drew ?_ | refine blk_alloc ?_ _)); refine blk_far ?_ NB477_483.out _; (with_reducible repeat (first | refine blk_drewN ?_ _ | refine blk_drew ?_ | refine blk_alloc ?_ _)); refine blk_far ?_ NB477_483.out _; (with_reducible repeat (first | refine blk_drewN ?_ _ | refine blk_drew ?_ | refine blk_alloc ?_ _)); refine blk_far ?_ NB477_483.out _; (with_reducible repeat (first | refine blk_drewN ?_ _ | refine blk_drew ?_ | refine blk_alloc ?_ _)); exact BK477.out⟩, ⟨by (with_reducible repeat (first | refine blk_drewN ?_ _ | refine blk_drew ?_ | refine blk_alloc ?_ _)); refine blk_put (cs := #[.bool t478, .bool t479, .bool t480, .bool true, .bool false]) ?_ 4 _ rfl; (with_reducible repeat (first | refine blk_drewN ?_ _ | refine blk_drew ?_ | refine blk_alloc ?_ _)); refine blk_put (cs := #[.bool t478, .bool t479, .bool t480, .bool false, .bool false]) ?_ 3 _ rfl; (with_reducible repeat (first | refine blk_drewN ?_ _ | refine blk_drew ?_ | refine blk_alloc ?_ _)); refine blk_put (cs := #[.bool t478, .bool t479, .bool false, .bool false, .bool false]) ?_ 2 _ rfl; (with_reducible repeat (first | refine blk_drewN ?_ _ | refine blk_drew ?_ | refine blk_alloc ?_ _)); refine blk_put (cs := #[.bool t478, .bool false, .bool false, .bool false, .bool false]) ?_ 1 _ rfl; (with_reducible repeat (first | refine blk_drewN ?_ _ | refine blk_drew ?_ | refine blk_alloc ?_ _)); refine blk_put (cs := #[.bool false, .bool false, .bool false, .bool false, .bool false]) ?_ 0 _ rfl; (with_reducible repeat (first | refine blk_drewN ?_ _ | refine blk_drew ?_ | refine blk_alloc ?_ _)); exact BK483.out⟩, ⟨by repeat (first | (with_reducible first | exact HB.out | apply below_alloc | apply pw_below_drewN | apply below_drew1 | refine below_set ?_ GE476.out | refine below_set ?_ GE477.out | refine below_set ?_ GE483.out) | exact HB.out)⟩⟩
  ·
   replace c13 := Bool.eq_false_iff.mpr c13
   subst c13
   have H1 : (pleatref02_Decode.j0 k a0 false (IntKind.i8.wrap (a0 / 134217728)) (IntKind.i8.wrap (Go.bits .and .u32 (a0 / 8388608) 15)) (IntKind.i8.wrap (Go.bits .and .u32 (a0 / 524288) 15)) (IntKind.i8.wrap (Go.bits .and .u32 (a0 / 32768) 15)) (wrap64 (Go.bits .and .u32 a0 32767))) = some (r1, r2, r3, r4, r5) := by rw [if_neg (show ¬ (false = true) by decide)] at H; exact H
   clear H
   have H := H1
   clear H1
   have H' := Aside0.mk H
   clear H
   have hnb23 := NB483_476.out
   have hnc23 := NB476_483.out
   have hnb24 := NB483_477.out
   have hnc24 := NB477_483.out
   have hcz25_0 : w9.cell? ⟨gb483, 0, none⟩ = some (.bool false) := (blk_cell BK483.out 0).trans rfl
   have hcz25_1 : w9.cell? ⟨gb483, 1, none⟩ = some (.bool false) := (blk_cell BK483.out 1).trans rfl
   have hcz25_2 : w9.cell? ⟨gb483, 2, none⟩ = some (.bool false) := (blk_cell BK483.out 2).trans rfl
   have hcz25_3 : w9.cell? ⟨gb483, 3, none⟩ = some (.bool false) := (blk_cell BK483.out 3).trans rfl
   have hcz25_4 : w9.cell? ⟨gb483, 4, none⟩ = some (.bool false) := (blk_cell BK483.out 4).trans rfl
   have hfz25_0 := blk_frozen BK483.out 0
   have hfz25_1 := blk_frozen BK483.out 1
   have hfz25_2 := blk_frozen BK483.out 2
   have hfz25_3 := blk_frozen BK483.out 3
   have hfz25_4 := blk_frozen BK483.out 4
   go_wp2
   go_meet
   case rel => exact ⟨_, (false), (by first | rfl | (simp; done) | (simp [*]; done)), H', ⟨by first | omega | exact Nat.le_refl _⟩, ⟨by (with_reducible repeat (first | refine blk_drewN ?_ _ | refine blk_drew ?_ | refine blk_alloc ?_ _)); refine blk_far ?_ NB476_483.out _; (with_reducible repeat (first | refine blk_drewN ?_ _ | refine blk_drew ?_ | refine blk_alloc ?_ _)); refine blk_far ?_ NB476_483.out _; (with_reducible repeat (first | refine blk_drewN ?_ _ | refine blk_drew ?_ | refine blk_alloc ?_ _)); refine blk_far ?_ NB476_483.out _; (with_reducible repeat (first | refine blk_drewN ?_ _ | refine blk_drew ?_ | refine blk_alloc ?_ _)); refine blk_far ?_ NB476_483.out _; (with_reducible repeat (first | refine blk_drewN ?_ _ | refine blk_drew ?_ | refine blk_alloc ?_ _)); refine blk_far ?_ NB476_483.out _; (with_reducible repeat (first | refine blk_drewN ?_ _ | refine blk_drew ?_ | refine blk_alloc ?_ _)); exact BK476.out⟩, ⟨by (with_reducible repeat (first | refine blk_drewN ?_ _ | refine blk_drew ?_ | refine blk_alloc ?_ _)); refine blk_far ?_ NB477_483.out _; (with_reducible repeat (first | refine blk_drewN ?_ _ | refine blk_drew ?_ | refine blk_alloc ?_ _)); refine blk_far ?_ NB477_483.out _; (with_reducible repeat (first | refine blk_drewN ?_ _ | refine blk_drew ?_ | refine blk_alloc ?_ _)); refine blk_far ?_ NB477_483.out _; (with_reducible repeat (first | refine blk_drewN ?_ _ | refine blk_drew ?_ | refine blk_alloc ?_ _)); refine blk_far ?_ NB477_483.out _; (with_reducible repeat (first | refine blk_drewN ?_ _ | refine blk_drew ?_ | refine blk_alloc ?_ _)); refine blk_far ?_ NB477_483.out _; (with_reducible repeat (first | refine blk_drewN ?_ _ | refine blk_drew ?_ | refine blk_alloc ?_ _)); exact BK477.out⟩, ⟨by (with_reducible repeat (first | refine blk_drewN ?_ _ | refine blk_drew ?_ | refine blk_alloc ?_ _)); refine blk_put (cs := #[.bool t478, .bool t479, .bool t480, .bool false, .bool false]) ?_ 4 _ rfl; (with_reducible repeat (first | refine blk_drewN ?_ _ | refine blk_drew ?_ | refine blk_alloc ?_ _)); refine blk_put (cs := #[.bool t478, .bool t479, .bool t480, .bool false, .bool false]) ?_ 3 _ rfl; (with_reducible repeat (first | refine blk_drewN ?_ _ | refine blk_drew ?_ | refine blk_alloc ?_ _)); refine blk_put (cs := #[.bool t478, .bool t479, .bool false, .bool false, .bool false]) ?_ 2 _ rfl; (with_reducible repeat (first | refine blk_drewN ?_ _ | refine blk_drew ?_ | refine blk_alloc ?_ _)); refine blk_put (cs := #[.bool t478, .bool false, .bool false, .bool false, .bool false]) ?_ 1 _ rfl; (with_reducible repeat (first | refine blk_drewN ?_ _ | refine blk_drew ?_ | refine blk_alloc ?_ _)); refine blk_put (cs := #[.bool false, .bool false, .bool false, .bool false, .bool false]) ?_ 0 _ rfl; (with_reducible repeat (first | refine blk_drewN ?_ _ | refine blk_drew ?_ | refine blk_alloc ?_ _)); exact BK483.out⟩, ⟨by repeat (first | (with_reducible first | exact HB.out | apply below_alloc | apply pw_below_drewN | apply below_drew1 | refine below_set ?_ GE476.out | refine below_set ?_ GE477.out | refine below_set ?_ GE483.out) | exact HB.out)⟩⟩
 case rest =>
  clear HC3
  try clear c1
  try clear c2
  try clear p2
  try clear c6
  try clear p6
  try clear c7
  try clear c10
  try clear c11
  try clear c13
  try clear c14
  try clear c15
  try clear c16
  try clear c18
  try clear c19
  try clear c21
  try clear c23
  try clear c24
  try clear hcz12_0
  try clear hcz12_1
  try clear hcz12_2
  try clear hcz12_3
  try clear hcz12_4
  try clear hcz17_0
  try clear hcz17_1
  try clear hcz17_2
  try clear hcz17_3
  try clear hcz17_4
  try clear hcz20_0
  try clear hcz20_1
  try clear hcz20_2
  try clear hcz20_3
  try clear hcz20_4
  try clear hcz22_0
  try clear hcz22_1
  try clear hcz22_2
  try clear hcz22_3
  try clear hcz22_4
  try clear hcz25_0
  try clear hcz25_1
  try clear hcz25_2
  try clear hcz25_3
  try clear hcz25_4
  try clear hcz7_0
  try clear hcz7_1
  try clear hcz7_2
  try clear hcz7_3
  try clear hcz7_4
  try clear hfz12_0
  try clear hfz12_1
  try clear hfz12_2
  try clear hfz12_3
  try clear hfz12_4
  try clear hfz17_0
  try clear hfz17_1
  try clear hfz17_2
  try clear hfz17_3
  try clear hfz17_4
  try clear hfz20_0
  try clear hfz20_1
  try clear hfz20_2
  try clear hfz20_3
  try clear hfz20_4
  try clear hfz22_0
  try clear hfz22_1
  try clear hfz22_2
  try clear hfz22_3
  try clear hfz22_4
  try clear hfz25_0
  try clear hfz25_1
  try clear hfz25_2
  try clear hfz25_3
  try clear hfz25_4
  try clear hfz7_0
  try clear hfz7_1
  try clear hfz7_2
  try clear hfz7_3
  try clear hfz7_4
  obtain ⟨kq, x40_2, rfl, HA, HJ2, BK476, BK477, BK483, HB⟩ := hcut
  cases kq with
  | zero => exact absurd HA.out (by simp [pleatref02_Decode.j0])
  | succ kj2 =>
   have H := HA.out
   clear HA
   simp only [pleatref02_Decode.j0] at H
   by_cases c26 : x40_2 = true
   ·
    subst c26
    have H1 : ((pleatref02_Encode.f kj2 (IntKind.i8.wrap (a0 / 134217728)) (IntKind.i8.wrap (Go.bits .and .u32 (a0 / 8388608) 15)) (IntKind.i8.wrap (Go.bits .and .u32 (a0 / 524288) 15)) (IntKind.i8.wrap (Go.bits .and .u32 (a0 / 32768) 15)) (wrap64 ((wrap64 (Go.bits .and .u32 a0 32767)) - 32768))).bind fun bt484 => (if bt484.2 = 0 then (if bt484.1 = a0 then (some ((IntKind.i8.wrap (a0 / 134217728)), (IntKind.i8.wrap (Go.bits .and .u32 (a0 / 8388608) 15)), (IntKind.i8.wrap (Go.bits .and .u32 (a0 / 524288) 15)), (IntKind.i8.wrap (Go.bits .and .u32 (a0 / 32768) 15)), wrap64 ((wrap64 (Go.bits .and .u32 a0 32767)) - 32768))) else (some ((-1), 0, 0, 0, wrap64 (a0)))) else (some ((-1), 0, 0, 0, wrap64 (a0))))) = some (r1, r2, r3, r4, r5) := by rw [if_pos rfl] at H; exact H
    clear H
    have H := H1
    clear H1
    replace H := Option.bind_eq_some_iff.mp H
    obtain ⟨⟨t484, t485⟩, A270, H⟩ := H
    try dsimp only at H
    have A27 := Aside0.mk A270
    clear A270
    by_cases c28 : t485 = 0
    ·
     rw [if_pos c28] at H
     have c28b0 : (t485 == 0) = true := beq_iff_eq.mpr c28
     have c28b1 : (t485 != 0) = false := bne_eq_false_iff_eq.mpr c28
     clear c28
     by_cases c29 : t484 = a0
     ·
      rw [if_pos c29] at H
      have c29b0 : (t484 == a0) = true := beq_iff_eq.mpr c29
      have c29b1 : (t484 != a0) = false := bne_eq_false_iff_eq.mpr c29
      clear c29
      simp only [Option.some.injEq, Prod.mk.injEq] at H
      obtain ⟨rfl, rfl, rfl, rfl, rfl⟩ := H
      have hnb30 := NB477_476.out
      have hnc30 := NB476_477.out
      have hnb31 := NB477_483.out
      have hnc31 := NB483_477.out
      have hcz32_0 : wc.cell? ⟨gb477, 0, none⟩ = some (.int .i8 (IntKind.i8.wrap (a0 / 134217728))) := (blk_cell BK477.out 0).trans rfl
      have hcz32_1 : wc.cell? ⟨gb477, 1, none⟩ = some (.int .i8 (IntKind.i8.wrap (Go.bits .and .u32 (a0 / 8388608) 15))) := (blk_cell BK477.out 1).trans rfl
      have hcz32_2 : wc.cell? ⟨gb477, 2, none⟩ = some (.int .i8 (IntKind.i8.wrap (Go.bits .and .u32 (a0 / 524288) 15))) := (blk_cell BK477.out 2).trans rfl
      have hcz32_3 : wc.cell? ⟨gb477, 3, none⟩ = some (.int .i8 (IntKind.i8.wrap (Go.bits .and .u32 (a0 / 32768) 15))) := (blk_cell BK477.out 3).trans rfl
      have hcz32_4 : wc.cell? ⟨gb477, 4, none⟩ = some (.int .i64 (wrap64 (Go.bits .and .u32 a0 32767))) := (blk_cell BK477.out 4).trans rfl
      have hfz32_0 := blk_frozen BK477.out 0
      have hfz32_1 := blk_frozen BK477.out 1
      have hfz32_2 := blk_frozen BK477.out 2
      have hfz32_3 := blk_frozen BK477.out 3
      have hfz32_4 := blk_frozen BK477.out 4
      go_wp2_with (first | ((with_reducible refine gate_callee (f := 77) rfl ?_); refine goesL_ (some 47) rfl rfl Try.func77 (by kernel_rfl) rfl #[.agg #[.int .i8 (IntKind.i8.wrap (a0 / 134217728)), .int .i8 (IntKind.i8.wrap (Go.bits .and .u32 (a0 / 8388608) 15)), .int .i8 (IntKind.i8.wrap (Go.bits .and .u32 (a0 / 524288) 15)), .int .i8 (IntKind.i8.wrap (Go.bits .and .u32 (a0 / 32768) 15)), .int .i64 (wrap64 ((wrap64 (Go.bits .and .u32 a0 32767)) - 32768))]] rfl (by (try simp only [List.map_toArray, List.map_cons, List.map_nil]); first | done | rfl | (simp only [List.length_drop, List.length_take]; rfl)) ?_; (with_reducible refine (pleatref02_Encode.calls kj2 (IntKind.i8.wrap (a0 / 134217728)) (IntKind.i8.wrap (Go.bits .and .u32 (a0 / 8388608) 15)) (IntKind.i8.wrap (Go.bits .and .u32 (a0 / 524288) 15)) (IntKind.i8.wrap (Go.bits .and .u32 (a0 / 32768) 15)) (wrap64 ((wrap64 (Go.bits .and .u32 a0 32767)) - 32768)) t484 t485 _ A27.out).mono ?_); rintro e w33 ⟨rfl, hb⟩; refine ⟨_, rfl, ?_⟩; have n0_ := Aside0.mk (blk_below (g := gb476) (o := .cells #[.int .i8 0, .int .i8 0, .int .i8 0, .int .i8 0, .int .i64 0] 106 (0, 0)) (by (with_reducible repeat (first | refine blk_drewN ?_ _ | refine blk_drew ?_ | refine blk_alloc ?_ _)); refine blk_far ?_ NB476_477.out _; (with_reducible repeat (first | refine blk_drewN ?_ _ | refine blk_drew ?_ | refine blk_alloc ?_ _)); exact BK476.out) hb); have n1_ := Aside0.mk (blk_below (g := gb477) (o := .cells #[.int .i8 (IntKind.i8.wrap (a0 / 134217728)), .int .i8 (IntKind.i8.wrap (Go.bits .and .u32 (a0 / 8388608) 15)), .int .i8 (IntKind.i8.wrap (Go.bits .and .u32 (a0 / 524288) 15)), .int .i8 (IntKind.i8.wrap (Go.bits .and .u32 (a0 / 32768) 15)), .int .i64 (wrap64 ((wrap64 (Go.bits .and .u32 a0 32767)) - 32768))] 106 (0, 0)) (by (with_reducible repeat (first | refine blk_drewN ?_ _ | refine blk_drew ?_ | refine blk_alloc ?_ _)); refine blk_put (cs := #[.int .i8 (IntKind.i8.wrap (a0 / 134217728)), .int .i8 (IntKind.i8.wrap (Go.bits .and .u32 (a0 / 8388608) 15)), .int .i8 (IntKind.i8.wrap (Go.bits .and .u32 (a0 / 524288) 15)), .int .i8 (IntKind.i8.wrap (Go.bits .and .u32 (a0 / 32768) 15)), .int .i64 (wrap64 (Go.bits .and .u32 a0 32767))]) ?_ 4 _ rfl; (with_reducible repeat (first | refine blk_drewN ?_ _ | refine blk_drew ?_ | refine blk_alloc ?_ _)); exact BK477.out) hb); have n2_ := Aside0.mk (blk_below (g := gb483) (o := .cells #[.bool t478, .bool t479, .bool t480, .bool t481, .bool t482] 115 (0, 0)) (by (with_reducible repeat (first | refine blk_drewN ?_ _ | refine blk_drew ?_ | refine blk_alloc ?_ _)); refine blk_far ?_ NB483_477.out _; (with_reducible repeat (first | refine blk_drewN ?_ _ | refine blk_drew ?_ | refine blk_alloc ?_ _)); exact BK483.out) hb); have n3_ := Aside0.mk (below_step (by repeat (first | (with_reducible first | exact HB.out | apply below_alloc | apply pw_below_drewN | apply below_drew1 | refine below_set ?_ GE476.out | refine below_set ?_ GE477.out | refine below_set ?_ GE483.out) | exact HB.out)) hb); clear BK476; clear BK477; clear BK483; clear HB; have BK476 := n0_; have BK477 := n1_; have BK483 := n2_; have HB := n3_; clear n0_ n1_ n2_ n3_; (try clear hb); (try clear hb2); (try clear hk); (try clear hi); have hcz34_0 : w33.cell? ⟨gb477, 0, none⟩ = some (.int .i8 (IntKind.i8.wrap (a0 / 134217728))) := (blk_cell BK477.out 0).trans rfl; have hcz34_1 : w33.cell? ⟨gb477, 1, none⟩ = some (.int .i8 (IntKind.i8.wrap (Go.bits .and .u32 (a0 / 8388608) 15))) := (blk_cell BK477.out 1).trans rfl; have hcz34_2 : w33.cell? ⟨gb477, 2, none⟩ = some (.int .i8 (IntKind.i8.wrap (Go.bits .and .u32 (a0 / 524288) 15))) := (blk_cell BK477.out 2).trans rfl; have hcz34_3 : w33.cell? ⟨gb477, 3, none⟩ = some (.int .i8 (IntKind.i8.wrap (Go.bits .and .u32 (a0 / 32768) 15))) := (blk_cell BK477.out 3).trans rfl; have hcz34_4 : w33.cell? ⟨gb477, 4, none⟩ = some (.int .i64 (wrap64 ((wrap64 (Go.bits .and .u32 a0 32767)) - 32768))) := (blk_cell BK477.out 4).trans rfl; have hfz34_0 := blk_frozen BK477.out 0; have hfz34_1 := blk_frozen BK477.out 1; have hfz34_2 := blk_frozen BK477.out 2; have hfz34_3 := blk_frozen BK477.out 3; have hfz34_4 := blk_frozen BK477.out 4; have hnb35 := NB476_483.out; have hnc35 := NB483_476.out; have hcz36_0 : w33.cell? ⟨gb476, 0, none⟩ = some (.int .i8 0) := (blk_cell BK476.out 0).trans rfl; have hcz36_1 : w33.cell? ⟨gb476, 1, none⟩ = some (.int .i8 0) := (blk_cell BK476.out 1).trans rfl; have hcz36_2 : w33.cell? ⟨gb476, 2, none⟩ = some (.int .i8 0) := (blk_cell BK476.out 2).trans rfl; have hcz36_3 : w33.cell? ⟨gb476, 3, none⟩ = some (.int .i8 0) := (blk_cell BK476.out 3).trans rfl; have hcz36_4 : w33.cell? ⟨gb476, 4, none⟩ = some (.int .i64 0) := (blk_cell BK476.out 4).trans rfl; have hfz36_0 := blk_frozen BK476.out 0; have hfz36_1 := blk_frozen BK476.out 1; have hfz36_2 := blk_frozen BK476.out 2; have hfz36_3 := blk_frozen BK476.out 3; have hfz36_4 := blk_frozen BK476.out 4))
      refine bodyPost_ret (results_cell_row rfl _ _ gb476 106 #[.int .i8 (IntKind.i8.wrap (a0 / 134217728)), .int .i8 (IntKind.i8.wrap (Go.bits .and .u32 (a0 / 8388608) 15)), .int .i8 (IntKind.i8.wrap (Go.bits .and .u32 (a0 / 524288) 15)), .int .i8 (IntKind.i8.wrap (Go.bits .and .u32 (a0 / 32768) 15)), .int .i64 (wrap64 ((wrap64 (Go.bits .and .u32 a0 32767)) - 32768))] (0, 0) _ rfl (by (with_reducible repeat (first | refine blk_drewN ?_ _ | refine blk_drew ?_ | refine blk_alloc ?_ _)); refine blk_put (cs := #[.int .i8 (IntKind.i8.wrap (a0 / 134217728)), .int .i8 (IntKind.i8.wrap (Go.bits .and .u32 (a0 / 8388608) 15)), .int .i8 (IntKind.i8.wrap (Go.bits .and .u32 (a0 / 524288) 15)), .int .i8 (IntKind.i8.wrap (Go.bits .and .u32 (a0 / 32768) 15)), .int .i64 0]) ?_ 4 _ rfl; (with_reducible repeat (first | refine blk_drewN ?_ _ | refine blk_drew ?_ | refine blk_alloc ?_ _)); refine blk_put (cs := #[.int .i8 (IntKind.i8.wrap (a0 / 134217728)), .int .i8 (IntKind.i8.wrap (Go.bits .and .u32 (a0 / 8388608) 15)), .int .i8 (IntKind.i8.wrap (Go.bits .and .u32 (a0 / 524288) 15)), .int .i8 0, .int .i64 0]) ?_ 3 _ rfl; (with_reducible repeat (first | refine blk_drewN ?_ _ | refine blk_drew ?_ | refine blk_alloc ?_ _)); refine blk_put (cs := #[.int .i8 (IntKind.i8.wrap (a0 / 134217728)), .int .i8 (IntKind.i8.wrap (Go.bits .and .u32 (a0 / 8388608) 15)), .int .i8 0, .int .i8 0, .int .i64 0]) ?_ 2 _ rfl; (with_reducible repeat (first | refine blk_drewN ?_ _ | refine blk_drew ?_ | refine blk_alloc ?_ _)); refine blk_put (cs := #[.int .i8 (IntKind.i8.wrap (a0 / 134217728)), .int .i8 0, .int .i8 0, .int .i8 0, .int .i64 0]) ?_ 1 _ rfl; (with_reducible repeat (first | refine blk_drewN ?_ _ | refine blk_drew ?_ | refine blk_alloc ?_ _)); refine blk_put (cs := #[.int .i8 0, .int .i8 0, .int .i8 0, .int .i8 0, .int .i64 0]) ?_ 0 _ rfl; (with_reducible repeat (first | refine blk_drewN ?_ _ | refine blk_drew ?_ | refine blk_alloc ?_ _)); exact BK476.out) Try.underlying106 rfl (by kernel_rfl)) rfl ?_
      exact ⟨by first | rfl | (simp [errW_none, errW_some] <;> rfl) | (simp [*, errW_none, errW_some] <;> rfl), by repeat (first | (with_reducible first | exact HB.out | apply below_alloc | apply pw_below_drewN | apply below_drew1 | refine below_set ?_ GE476.out | refine below_set ?_ GE477.out | refine below_set ?_ GE483.out) | exact HB.out)⟩
     ·
      rw [if_neg c29] at H
      have c29b0 : (t484 == a0) = false := beq_eq_false_iff_ne.mpr c29
      have c29b1 : (t484 != a0) = true := bne_iff_ne.mpr c29
      simp only [Option.some.injEq, Prod.mk.injEq] at H
      obtain ⟨rfl, rfl, rfl, rfl, rfl⟩ := H
      have hnb37 := NB477_476.out
      have hnc37 := NB476_477.out
      have hnb38 := NB477_483.out
      have hnc38 := NB483_477.out
      have hcz39_0 : wc.cell? ⟨gb477, 0, none⟩ = some (.int .i8 (IntKind.i8.wrap (a0 / 134217728))) := (blk_cell BK477.out 0).trans rfl
      have hcz39_1 : wc.cell? ⟨gb477, 1, none⟩ = some (.int .i8 (IntKind.i8.wrap (Go.bits .and .u32 (a0 / 8388608) 15))) := (blk_cell BK477.out 1).trans rfl
      have hcz39_2 : wc.cell? ⟨gb477, 2, none⟩ = some (.int .i8 (IntKind.i8.wrap (Go.bits .and .u32 (a0 / 524288) 15))) := (blk_cell BK477.out 2).trans rfl
      have hcz39_3 : wc.cell? ⟨gb477, 3, none⟩ = some (.int .i8 (IntKind.i8.wrap (Go.bits .and .u32 (a0 / 32768) 15))) := (blk_cell BK477.out 3).trans rfl
      have hcz39_4 : wc.cell? ⟨gb477, 4, none⟩ = some (.int .i64 (wrap64 (Go.bits .and .u32 a0 32767))) := (blk_cell BK477.out 4).trans rfl
      have hfz39_0 := blk_frozen BK477.out 0
      have hfz39_1 := blk_frozen BK477.out 1
      have hfz39_2 := blk_frozen BK477.out 2
      have hfz39_3 := blk_frozen BK477.out 3
      have hfz39_4 := blk_frozen BK477.out 4
      go_wp2_with (first | ((with_reducible refine gate_callee (f := 77) rfl ?_); refine goesL_ (some 47) rfl rfl Try.func77 (by kernel_rfl) rfl #[.agg #[.int .i8 (IntKind.i8.wrap (a0 / 134217728)), .int .i8 (IntKind.i8.wrap (Go.bits .and .u32 (a0 / 8388608) 15)), .int .i8 (IntKind.i8.wrap (Go.bits .and .u32 (a0 / 524288) 15)), .int .i8 (IntKind.i8.wrap (Go.bits .and .u32 (a0 / 32768) 15)), .int .i64 (wrap64 ((wrap64 (Go.bits .and .u32 a0 32767)) - 32768))]] rfl (by (try simp only [List.map_toArray, List.map_cons, List.map_nil]); first | done | rfl | (simp only [List.length_drop, List.length_take]; rfl)) ?_; (with_reducible refine (pleatref02_Encode.calls kj2 (IntKind.i8.wrap (a0 / 134217728)) (IntKind.i8.wrap (Go.bits .and .u32 (a0 / 8388608) 15)) (IntKind.i8.wrap (Go.bits .and .u32 (a0 / 524288) 15)) (IntKind.i8.wrap (Go.bits .and .u32 (a0 / 32768) 15)) (wrap64 ((wrap64 (Go.bits .and .u32 a0 32767)) - 32768)) t484 t485 _ A27.out).mono ?_); rintro e w40 ⟨rfl, hb⟩; refine ⟨_, rfl, ?_⟩; have n0_ := Aside0.mk (blk_below (g := gb476) (o := .cells #[.int .i8 0, .int .i8 0, .int .i8 0, .int .i8 0, .int .i64 0] 106 (0, 0)) (by (with_reducible repeat (first | refine blk_drewN ?_ _ | refine blk_drew ?_ | refine blk_alloc ?_ _)); refine blk_far ?_ NB476_477.out _; (with_reducible repeat (first | refine blk_drewN ?_ _ | refine blk_drew ?_ | refine blk_alloc ?_ _)); exact BK476.out) hb); have n1_ := Aside0.mk (blk_below (g := gb477) (o := .cells #[.int .i8 (IntKind.i8.wrap (a0 / 134217728)), .int .i8 (IntKind.i8.wrap (Go.bits .and .u32 (a0 / 8388608) 15)), .int .i8 (IntKind.i8.wrap (Go.bits .and .u32 (a0 / 524288) 15)), .int .i8 (IntKind.i8.wrap (Go.bits .and .u32 (a0 / 32768) 15)), .int .i64 (wrap64 ((wrap64 (Go.bits .and .u32 a0 32767)) - 32768))] 106 (0, 0)) (by (with_reducible repeat (first | refine blk_drewN ?_ _ | refine blk_drew ?_ | refine blk_alloc ?_ _)); refine blk_put (cs := #[.int .i8 (IntKind.i8.wrap (a0 / 134217728)), .int .i8 (IntKind.i8.wrap (Go.bits .and .u32 (a0 / 8388608) 15)), .int .i8 (IntKind.i8.wrap (Go.bits .and .u32 (a0 / 524288) 15)), .int .i8 (IntKind.i8.wrap (Go.bits .and .u32 (a0 / 32768) 15)), .int .i64 (wrap64 (Go.bits .and .u32 a0 32767))]) ?_ 4 _ rfl; (with_reducible repeat (first | refine blk_drewN ?_ _ | refine blk_drew ?_ | refine blk_alloc ?_ _)); exact BK477.out) hb); have n2_ := Aside0.mk (blk_below (g := gb483) (o := .cells #[.bool t478, .bool t479, .bool t480, .bool t481, .bool t482] 115 (0, 0)) (by (with_reducible repeat (first | refine blk_drewN ?_ _ | refine blk_drew ?_ | refine blk_alloc ?_ _)); refine blk_far ?_ NB483_477.out _; (with_reducible repeat (first | refine blk_drewN ?_ _ | refine blk_drew ?_ | refine blk_alloc ?_ _)); exact BK483.out) hb); have n3_ := Aside0.mk (below_step (by repeat (first | (with_reducible first | exact HB.out | apply below_alloc | apply pw_below_drewN | apply below_drew1 | refine below_set ?_ GE476.out | refine below_set ?_ GE477.out | refine below_set ?_ GE483.out) | exact HB.out)) hb); clear BK476; clear BK477; clear BK483; clear HB; have BK476 := n0_; have BK477 := n1_; have BK483 := n2_; have HB := n3_; clear n0_ n1_ n2_ n3_; (try clear hb); (try clear hb2); (try clear hk); (try clear hi); have hnb41 := NB476_483.out; have hnc41 := NB483_476.out; have hcz42_0 : w40.cell? ⟨gb476, 0, none⟩ = some (.int .i8 0) := (blk_cell BK476.out 0).trans rfl; have hcz42_1 : w40.cell? ⟨gb476, 1, none⟩ = some (.int .i8 0) := (blk_cell BK476.out 1).trans rfl; have hcz42_2 : w40.cell? ⟨gb476, 2, none⟩ = some (.int .i8 0) := (blk_cell BK476.out 2).trans rfl; have hcz42_3 : w40.cell? ⟨gb476, 3, none⟩ = some (.int .i8 0) := (blk_cell BK476.out 3).trans rfl; have hcz42_4 : w40.cell? ⟨gb476, 4, none⟩ = some (.int .i64 0) := (blk_cell BK476.out 4).trans rfl; have hfz42_0 := blk_frozen BK476.out 0; have hfz42_1 := blk_frozen BK476.out 1; have hfz42_2 := blk_frozen BK476.out 2; have hfz42_3 := blk_frozen BK476.out 3; have hfz42_4 := blk_frozen BK476.out 4))
      refine bodyPost_ret (results_cell_row rfl _ _ gb476 106 #[.int .i8 (-1), .int .i8 0, .int .i8 0, .int .i8 0, .int .i64 (wrap64 (a0))] (0, 0) _ rfl (by (with_reducible repeat (first | refine blk_drewN ?_ _ | refine blk_drew ?_ | refine blk_alloc ?_ _)); refine blk_put (cs := #[.int .i8 (-1), .int .i8 0, .int .i8 0, .int .i8 0, .int .i64 0]) ?_ 4 _ rfl; (with_reducible repeat (first | refine blk_drewN ?_ _ | refine blk_drew ?_ | refine blk_alloc ?_ _)); refine blk_put (cs := #[.int .i8 (-1), .int .i8 0, .int .i8 0, .int .i8 0, .int .i64 0]) ?_ 3 _ rfl; (with_reducible repeat (first | refine blk_drewN ?_ _ | refine blk_drew ?_ | refine blk_alloc ?_ _)); refine blk_put (cs := #[.int .i8 (-1), .int .i8 0, .int .i8 0, .int .i8 0, .int .i64 0]) ?_ 2 _ rfl; (with_reducible repeat (first | refine blk_drewN ?_ _ | refine blk_drew ?_ | refine blk_alloc ?_ _)); refine blk_put (cs := #[.int .i8 (-1), .int .i8 0, .int .i8 0, .int .i8 0, .int .i64 0]) ?_ 1 _ rfl; (with_reducible repeat (first | refine blk_drewN ?_ _ | refine blk_drew ?_ | refine blk_alloc ?_ _)); refine blk_put (cs := #[.int .i8 0, .int .i8 0, .int .i8 0, .int .i8 0, .int .i64 0]) ?_ 0 _ rfl; (with_reducible repeat (first | refine blk_drewN ?_ _ | refine blk_drew ?_ | refine blk_alloc ?_ _)); exact BK476.out) Try.underlying106 rfl (by kernel_rfl)) rfl ?_
      exact ⟨by first | rfl | (simp [errW_none, errW_some] <;> rfl) | (simp [*, errW_none, errW_some] <;> rfl), by repeat (first | (with_reducible first | exact HB.out | apply below_alloc | apply pw_below_drewN | apply below_drew1 | refine below_set ?_ GE476.out | refine below_set ?_ GE477.out | refine below_set ?_ GE483.out) | exact HB.out)⟩
    ·
     rw [if_neg c28] at H
     have c28b0 : (t485 == 0) = false := beq_eq_false_iff_ne.mpr c28
     have c28b1 : (t485 != 0) = true := bne_iff_ne.mpr c28
     simp only [Option.some.injEq, Prod.mk.injEq] at H
     obtain ⟨rfl, rfl, rfl, rfl, rfl⟩ := H
     have hnb43 := NB477_476.out
     have hnc43 := NB476_477.out
     have hnb44 := NB477_483.out
     have hnc44 := NB483_477.out
     have hcz45_0 : wc.cell? ⟨gb477, 0, none⟩ = some (.int .i8 (IntKind.i8.wrap (a0 / 134217728))) := (blk_cell BK477.out 0).trans rfl
     have hcz45_1 : wc.cell? ⟨gb477, 1, none⟩ = some (.int .i8 (IntKind.i8.wrap (Go.bits .and .u32 (a0 / 8388608) 15))) := (blk_cell BK477.out 1).trans rfl
     have hcz45_2 : wc.cell? ⟨gb477, 2, none⟩ = some (.int .i8 (IntKind.i8.wrap (Go.bits .and .u32 (a0 / 524288) 15))) := (blk_cell BK477.out 2).trans rfl
     have hcz45_3 : wc.cell? ⟨gb477, 3, none⟩ = some (.int .i8 (IntKind.i8.wrap (Go.bits .and .u32 (a0 / 32768) 15))) := (blk_cell BK477.out 3).trans rfl
     have hcz45_4 : wc.cell? ⟨gb477, 4, none⟩ = some (.int .i64 (wrap64 (Go.bits .and .u32 a0 32767))) := (blk_cell BK477.out 4).trans rfl
     have hfz45_0 := blk_frozen BK477.out 0
     have hfz45_1 := blk_frozen BK477.out 1
     have hfz45_2 := blk_frozen BK477.out 2
     have hfz45_3 := blk_frozen BK477.out 3
     have hfz45_4 := blk_frozen BK477.out 4
     go_wp2_with (first | ((with_reducible refine gate_callee (f := 77) rfl ?_); refine goesL_ (some 47) rfl rfl Try.func77 (by kernel_rfl) rfl #[.agg #[.int .i8 (IntKind.i8.wrap (a0 / 134217728)), .int .i8 (IntKind.i8.wrap (Go.bits .and .u32 (a0 / 8388608) 15)), .int .i8 (IntKind.i8.wrap (Go.bits .and .u32 (a0 / 524288) 15)), .int .i8 (IntKind.i8.wrap (Go.bits .and .u32 (a0 / 32768) 15)), .int .i64 (wrap64 ((wrap64 (Go.bits .and .u32 a0 32767)) - 32768))]] rfl (by (try simp only [List.map_toArray, List.map_cons, List.map_nil]); first | done | rfl | (simp only [List.length_drop, List.length_take]; rfl)) ?_; (with_reducible refine (pleatref02_Encode.calls kj2 (IntKind.i8.wrap (a0 / 134217728)) (IntKind.i8.wrap (Go.bits .and .u32 (a0 / 8388608) 15)) (IntKind.i8.wrap (Go.bits .and .u32 (a0 / 524288) 15)) (IntKind.i8.wrap (Go.bits .and .u32 (a0 / 32768) 15)) (wrap64 ((wrap64 (Go.bits .and .u32 a0 32767)) - 32768)) t484 t485 _ A27.out).mono ?_); rintro e w46 ⟨rfl, hb⟩; refine ⟨_, rfl, ?_⟩; have n0_ := Aside0.mk (blk_below (g := gb476) (o := .cells #[.int .i8 0, .int .i8 0, .int .i8 0, .int .i8 0, .int .i64 0] 106 (0, 0)) (by (with_reducible repeat (first | refine blk_drewN ?_ _ | refine blk_drew ?_ | refine blk_alloc ?_ _)); refine blk_far ?_ NB476_477.out _; (with_reducible repeat (first | refine blk_drewN ?_ _ | refine blk_drew ?_ | refine blk_alloc ?_ _)); exact BK476.out) hb); have n1_ := Aside0.mk (blk_below (g := gb477) (o := .cells #[.int .i8 (IntKind.i8.wrap (a0 / 134217728)), .int .i8 (IntKind.i8.wrap (Go.bits .and .u32 (a0 / 8388608) 15)), .int .i8 (IntKind.i8.wrap (Go.bits .and .u32 (a0 / 524288) 15)), .int .i8 (IntKind.i8.wrap (Go.bits .and .u32 (a0 / 32768) 15)), .int .i64 (wrap64 ((wrap64 (Go.bits .and .u32 a0 32767)) - 32768))] 106 (0, 0)) (by (with_reducible repeat (first | refine blk_drewN ?_ _ | refine blk_drew ?_ | refine blk_alloc ?_ _)); refine blk_put (cs := #[.int .i8 (IntKind.i8.wrap (a0 / 134217728)), .int .i8 (IntKind.i8.wrap (Go.bits .and .u32 (a0 / 8388608) 15)), .int .i8 (IntKind.i8.wrap (Go.bits .and .u32 (a0 / 524288) 15)), .int .i8 (IntKind.i8.wrap (Go.bits .and .u32 (a0 / 32768) 15)), .int .i64 (wrap64 (Go.bits .and .u32 a0 32767))]) ?_ 4 _ rfl; (with_reducible repeat (first | refine blk_drewN ?_ _ | refine blk_drew ?_ | refine blk_alloc ?_ _)); exact BK477.out) hb); have n2_ := Aside0.mk (blk_below (g := gb483) (o := .cells #[.bool t478, .bool t479, .bool t480, .bool t481, .bool t482] 115 (0, 0)) (by (with_reducible repeat (first | refine blk_drewN ?_ _ | refine blk_drew ?_ | refine blk_alloc ?_ _)); refine blk_far ?_ NB483_477.out _; (with_reducible repeat (first | refine blk_drewN ?_ _ | refine blk_drew ?_ | refine blk_alloc ?_ _)); exact BK483.out) hb); have n3_ := Aside0.mk (below_step (by repeat (first | (with_reducible first | exact HB.out | apply below_alloc | apply pw_below_drewN | apply below_drew1 | refine below_set ?_ GE476.out | refine below_set ?_ GE477.out | refine below_set ?_ GE483.out) | exact HB.out)) hb); clear BK476; clear BK477; clear BK483; clear HB; have BK476 := n0_; have BK477 := n1_; have BK483 := n2_; have HB := n3_; clear n0_ n1_ n2_ n3_; (try clear hb); (try clear hb2); (try clear hk); (try clear hi); have hnb47 := NB476_483.out; have hnc47 := NB483_476.out; have hcz48_0 : w46.cell? ⟨gb476, 0, none⟩ = some (.int .i8 0) := (blk_cell BK476.out 0).trans rfl; have hcz48_1 : w46.cell? ⟨gb476, 1, none⟩ = some (.int .i8 0) := (blk_cell BK476.out 1).trans rfl; have hcz48_2 : w46.cell? ⟨gb476, 2, none⟩ = some (.int .i8 0) := (blk_cell BK476.out 2).trans rfl; have hcz48_3 : w46.cell? ⟨gb476, 3, none⟩ = some (.int .i8 0) := (blk_cell BK476.out 3).trans rfl; have hcz48_4 : w46.cell? ⟨gb476, 4, none⟩ = some (.int .i64 0) := (blk_cell BK476.out 4).trans rfl; have hfz48_0 := blk_frozen BK476.out 0; have hfz48_1 := blk_frozen BK476.out 1; have hfz48_2 := blk_frozen BK476.out 2; have hfz48_3 := blk_frozen BK476.out 3; have hfz48_4 := blk_frozen BK476.out 4))
     refine bodyPost_ret (results_cell_row rfl _ _ gb476 106 #[.int .i8 (-1), .int .i8 0, .int .i8 0, .int .i8 0, .int .i64 (wrap64 (a0))] (0, 0) _ rfl (by (with_reducible repeat (first | refine blk_drewN ?_ _ | refine blk_drew ?_ | refine blk_alloc ?_ _)); refine blk_put (cs := #[.int .i8 (-1), .int .i8 0, .int .i8 0, .int .i8 0, .int .i64 0]) ?_ 4 _ rfl; (with_reducible repeat (first | refine blk_drewN ?_ _ | refine blk_drew ?_ | refine blk_alloc ?_ _)); refine blk_put (cs := #[.int .i8 (-1), .int .i8 0, .int .i8 0, .int .i8 0, .int .i64 0]) ?_ 3 _ rfl; (with_reducible repeat (first | refine blk_drewN ?_ _ | refine blk_drew ?_ | refine blk_alloc ?_ _)); refine blk_put (cs := #[.int .i8 (-1), .int .i8 0, .int .i8 0, .int .i8 0, .int .i64 0]) ?_ 2 _ rfl; (with_reducible repeat (first | refine blk_drewN ?_ _ | refine blk_drew ?_ | refine blk_alloc ?_ _)); refine blk_put (cs := #[.int .i8 (-1), .int .i8 0, .int .i8 0, .int .i8 0, .int .i64 0]) ?_ 1 _ rfl; (with_reducible repeat (first | refine blk_drewN ?_ _ | refine blk_drew ?_ | refine blk_alloc ?_ _)); refine blk_put (cs := #[.int .i8 0, .int .i8 0, .int .i8 0, .int .i8 0, .int .i64 0]) ?_ 0 _ rfl; (with_reducible repeat (first | refine blk_drewN ?_ _ | refine blk_drew ?_ | refine blk_alloc ?_ _)); exact BK476.out) Try.underlying106 rfl (by kernel_rfl)) rfl ?_
     exact ⟨by first | rfl | (simp [errW_none, errW_some] <;> rfl) | (simp [*, errW_none, errW_some] <;> rfl), by repeat (first | (with_reducible first | exact HB.out | apply below_alloc | apply pw_below_drewN | apply below_drew1 | refine below_set ?_ GE476.out | refine below_set ?_ GE477.out | refine below_set ?_ GE483.out) | exact HB.out)⟩
   ·
    replace c26 := Bool.eq_false_iff.mpr c26
    subst c26
    have H1 : ((pleatref02_Encode.f kj2 (IntKind.i8.wrap (a0 / 134217728)) (IntKind.i8.wrap (Go.bits .and .u32 (a0 / 8388608) 15)) (IntKind.i8.wrap (Go.bits .and .u32 (a0 / 524288) 15)) (IntKind.i8.wrap (Go.bits .and .u32 (a0 / 32768) 15)) (wrap64 (Go.bits .and .u32 a0 32767))).bind fun bt486 => (if bt486.2 = 0 then (if bt486.1 = a0 then (some ((IntKind.i8.wrap (a0 / 134217728)), (IntKind.i8.wrap (Go.bits .and .u32 (a0 / 8388608) 15)), (IntKind.i8.wrap (Go.bits .and .u32 (a0 / 524288) 15)), (IntKind.i8.wrap (Go.bits .and .u32 (a0 / 32768) 15)), (wrap64 (Go.bits .and .u32 a0 32767)))) else (some ((-1), 0, 0, 0, wrap64 (a0)))) else (some ((-1), 0, 0, 0, wrap64 (a0))))) = some (r1, r2, r3, r4, r5) := by rw [if_neg (show ¬ (false = true) by decide)] at H; exact H
    clear H
    have H := H1
    clear H1
    replace H := Option.bind_eq_some_iff.mp H
    obtain ⟨⟨t486, t487⟩, A490, H⟩ := H
    try dsimp only at H
    have A49 := Aside0.mk A490
    clear A490
    by_cases c50 : t487 = 0
    ·
     rw [if_pos c50] at H
     have c50b0 : (t487 == 0) = true := beq_iff_eq.mpr c50
     have c50b1 : (t487 != 0) = false := bne_eq_false_iff_eq.mpr c50
     clear c50
     by_cases c51 : t486 = a0
     ·
      rw [if_pos c51] at H
      have c51b0 : (t486 == a0) = true := beq_iff_eq.mpr c51
      have c51b1 : (t486 != a0) = false := bne_eq_false_iff_eq.mpr c51
      clear c51
      simp only [Option.some.injEq, Prod.mk.injEq] at H
      obtain ⟨rfl, rfl, rfl, rfl, rfl⟩ := H
      have hnb52 := NB477_476.out
      have hnc52 := NB476_477.out
      have hnb53 := NB477_483.out
      have hnc53 := NB483_477.out
      have hcz54_0 : wc.cell? ⟨gb477, 0, none⟩ = some (.int .i8 (IntKind.i8.wrap (a0 / 134217728))) := (blk_cell BK477.out 0).trans rfl
      have hcz54_1 : wc.cell? ⟨gb477, 1, none⟩ = some (.int .i8 (IntKind.i8.wrap (Go.bits .and .u32 (a0 / 8388608) 15))) := (blk_cell BK477.out 1).trans rfl
      have hcz54_2 : wc.cell? ⟨gb477, 2, none⟩ = some (.int .i8 (IntKind.i8.wrap (Go.bits .and .u32 (a0 / 524288) 15))) := (blk_cell BK477.out 2).trans rfl
      have hcz54_3 : wc.cell? ⟨gb477, 3, none⟩ = some (.int .i8 (IntKind.i8.wrap (Go.bits .and .u32 (a0 / 32768) 15))) := (blk_cell BK477.out 3).trans rfl
      have hcz54_4 : wc.cell? ⟨gb477, 4, none⟩ = some (.int .i64 (wrap64 (Go.bits .and .u32 a0 32767))) := (blk_cell BK477.out 4).trans rfl
      have hfz54_0 := blk_frozen BK477.out 0
      have hfz54_1 := blk_frozen BK477.out 1
      have hfz54_2 := blk_frozen BK477.out 2
      have hfz54_3 := blk_frozen BK477.out 3
      have hfz54_4 := blk_frozen BK477.out 4
      go_wp2_with (first | ((with_reducible refine gate_callee (f := 77) rfl ?_); refine goesL_ (some 47) rfl rfl Try.func77 (by kernel_rfl) rfl #[.agg #[.int .i8 (IntKind.i8.wrap (a0 / 134217728)), .int .i8 (IntKind.i8.wrap (Go.bits .and .u32 (a0 / 8388608) 15)), .int .i8 (IntKind.i8.wrap (Go.bits .and .u32 (a0 / 524288) 15)), .int .i8 (IntKind.i8.wrap (Go.bits .and .u32 (a0 / 32768) 15)), .int .i64 (wrap64 (Go.bits .and .u32 a0 32767))]] rfl (by (try simp only [List.map_toArray, List.map_cons, List.map_nil]); first | done | rfl | (simp only [List.length_drop, List.length_take]; rfl)) ?_; (with_reducible refine (pleatref02_Encode.calls kj2 (IntKind.i8.wrap (a0 / 134217728)) (IntKind.i8.wrap (Go.bits .and .u32 (a0 / 8388608) 15)) (IntKind.i8.wrap (Go.bits .and .u32 (a0 / 524288) 15)) (IntKind.i8.wrap (Go.bits .and .u32 (a0 / 32768) 15)) (wrap64 (Go.bits .and .u32 a0 32767)) t486 t487 _ A49.out).mono ?_); rintro e w55 ⟨rfl, hb⟩; refine ⟨_, rfl, ?_⟩; have n0_ := Aside0.mk (blk_below (g := gb476) (o := .cells #[.int .i8 0, .int .i8 0, .int .i8 0, .int .i8 0, .int .i64 0] 106 (0, 0)) (by (with_reducible repeat (first | refine blk_drewN ?_ _ | refine blk_drew ?_ | refine blk_alloc ?_ _)); exact BK476.out) hb); have n1_ := Aside0.mk (blk_below (g := gb477) (o := .cells #[.int .i8 (IntKind.i8.wrap (a0 / 134217728)), .int .i8 (IntKind.i8.wrap (Go.bits .and .u32 (a0 / 8388608) 15)), .int .i8 (IntKind.i8.wrap (Go.bits .and .u32 (a0 / 524288) 15)), .int .i8 (IntKind.i8.wrap (Go.bits .and .u32 (a0 / 32768) 15)), .int .i64 (wrap64 (Go.bits .and .u32 a0 32767))] 106 (0, 0)) (by (with_reducible repeat (first | refine blk_drewN ?_ _ | refine blk_drew ?_ | refine blk_alloc ?_ _)); exact BK477.out) hb); have n2_ := Aside0.mk (blk_below (g := gb483) (o := .cells #[.bool t478, .bool t479, .bool t480, .bool t481, .bool t482] 115 (0, 0)) (by (with_reducible repeat (first | refine blk_drewN ?_ _ | refine blk_drew ?_ | refine blk_alloc ?_ _)); exact BK483.out) hb); have n3_ := Aside0.mk (below_step (by repeat (first | (with_reducible first | exact HB.out | apply below_alloc | apply pw_below_drewN | apply below_drew1 | refine below_set ?_ GE476.out | refine below_set ?_ GE477.out | refine below_set ?_ GE483.out) | exact HB.out)) hb); clear BK476; clear BK477; clear BK483; clear HB; have BK476 := n0_; have BK477 := n1_; have BK483 := n2_; have HB := n3_; clear n0_ n1_ n2_ n3_; (try clear hb); (try clear hb2); (try clear hk); (try clear hi); have hcz56_0 : w55.cell? ⟨gb477, 0, none⟩ = some (.int .i8 (IntKind.i8.wrap (a0 / 134217728))) := (blk_cell BK477.out 0).trans rfl; have hcz56_1 : w55.cell? ⟨gb477, 1, none⟩ = some (.int .i8 (IntKind.i8.wrap (Go.bits .and .u32 (a0 / 8388608) 15))) := (blk_cell BK477.out 1).trans rfl; have hcz56_2 : w55.cell? ⟨gb477, 2, none⟩ = some (.int .i8 (IntKind.i8.wrap (Go.bits .and .u32 (a0 / 524288) 15))) := (blk_cell BK477.out 2).trans rfl; have hcz56_3 : w55.cell? ⟨gb477, 3, none⟩ = some (.int .i8 (IntKind.i8.wrap (Go.bits .and .u32 (a0 / 32768) 15))) := (blk_cell BK477.out 3).trans rfl; have hcz56_4 : w55.cell? ⟨gb477, 4, none⟩ = some (.int .i64 (wrap64 (Go.bits .and .u32 a0 32767))) := (blk_cell BK477.out 4).trans rfl; have hfz56_0 := blk_frozen BK477.out 0; have hfz56_1 := blk_frozen BK477.out 1; have hfz56_2 := blk_frozen BK477.out 2; have hfz56_3 := blk_frozen BK477.out 3; have hfz56_4 := blk_frozen BK477.out 4; have hnb57 := NB476_483.out; have hnc57 := NB483_476.out; have hcz58_0 : w55.cell? ⟨gb476, 0, none⟩ = some (.int .i8 0) := (blk_cell BK476.out 0).trans rfl; have hcz58_1 : w55.cell? ⟨gb476, 1, none⟩ = some (.int .i8 0) := (blk_cell BK476.out 1).trans rfl; have hcz58_2 : w55.cell? ⟨gb476, 2, none⟩ = some (.int .i8 0) := (blk_cell BK476.out 2).trans rfl; have hcz58_3 : w55.cell? ⟨gb476, 3, none⟩ = some (.int .i8 0) := (blk_cell BK476.out 3).trans rfl; have hcz58_4 : w55.cell? ⟨gb476, 4, none⟩ = some (.int .i64 0) := (blk_cell BK476.out 4).trans rfl; have hfz58_0 := blk_frozen BK476.out 0; have hfz58_1 := blk_frozen BK476.out 1; have hfz58_2 := blk_frozen BK476.out 2; have hfz58_3 := blk_frozen BK476.out 3; have hfz58_4 := blk_frozen BK476.out 4))
      refine bodyPost_ret (results_cell_row rfl _ _ gb476 106 #[.int .i8 (IntKind.i8.wrap (a0 / 134217728)), .int .i8 (IntKind.i8.wrap (Go.bits .and .u32 (a0 / 8388608) 15)), .int .i8 (IntKind.i8.wrap (Go.bits .and .u32 (a0 / 524288) 15)), .int .i8 (IntKind.i8.wrap (Go.bits .and .u32 (a0 / 32768) 15)), .int .i64 (wrap64 (Go.bits .and .u32 a0 32767))] (0, 0) _ rfl (by (with_reducible repeat (first | refine blk_drewN ?_ _ | refine blk_drew ?_ | refine blk_alloc ?_ _)); refine blk_put (cs := #[.int .i8 (IntKind.i8.wrap (a0 / 134217728)), .int .i8 (IntKind.i8.wrap (Go.bits .and .u32 (a0 / 8388608) 15)), .int .i8 (IntKind.i8.wrap (Go.bits .and .u32 (a0 / 524288) 15)), .int .i8 (IntKind.i8.wrap (Go.bits .and .u32 (a0 / 32768) 15)), .int .i64 0]) ?_ 4 _ rfl; (with_reducible repeat (first | refine blk_drewN ?_ _ | refine blk_drew ?_ | refine blk_alloc ?_ _)); refine blk_put (cs := #[.int .i8 (IntKind.i8.wrap (a0 / 134217728)), .int .i8 (IntKind.i8.wrap (Go.bits .and .u32 (a0 / 8388608) 15)), .int .i8 (IntKind.i8.wrap (Go.bits .and .u32 (a0 / 524288) 15)), .int .i8 0, .int .i64 0]) ?_ 3 _ rfl; (with_reducible repeat (first | refine blk_drewN ?_ _ | refine blk_drew ?_ | refine blk_alloc ?_ _)); refine blk_put (cs := #[.int .i8 (IntKind.i8.wrap (a0 / 134217728)), .int .i8 (IntKind.i8.wrap (Go.bits .and .u32 (a0 / 8388608) 15)), .int .i8 0, .int .i8 0, .int .i64 0]) ?_ 2 _ rfl; (with_reducible repeat (first | refine blk_drewN ?_ _ | refine blk_drew ?_ | refine blk_alloc ?_ _)); refine blk_put (cs := #[.int .i8 (IntKind.i8.wrap (a0 / 134217728)), .int .i8 0, .int .i8 0, .int .i8 0, .int .i64 0]) ?_ 1 _ rfl; (with_reducible repeat (first | refine blk_drewN ?_ _ | refine blk_drew ?_ | refine blk_alloc ?_ _)); refine blk_put (cs := #[.int .i8 0, .int .i8 0, .int .i8 0, .int .i8 0, .int .i64 0]) ?_ 0 _ rfl; (with_reducible repeat (first | refine blk_drewN ?_ _ | refine blk_drew ?_ | refine blk_alloc ?_ _)); exact BK476.out) Try.underlying106 rfl (by kernel_rfl)) rfl ?_
      exact ⟨by first | rfl | (simp [errW_none, errW_some] <;> rfl) | (simp [*, errW_none, errW_some] <;> rfl), by repeat (first | (with_reducible first | exact HB.out | apply below_alloc | apply pw_below_drewN | apply below_drew1 | refine below_set ?_ GE476.out | refine below_set ?_ GE477.out | refine below_set ?_ GE483.out) | exact HB.out)⟩
     ·
      rw [if_neg c51] at H
      have c51b0 : (t486 == a0) = false := beq_eq_false_iff_ne.mpr c51
      have c51b1 : (t486 != a0) = true := bne_iff_ne.mpr c51
      simp only [Option.some.injEq, Prod.mk.injEq] at H
      obtain ⟨rfl, rfl, rfl, rfl, rfl⟩ := H
      have hnb59 := NB477_476.out
      have hnc59 := NB476_477.out
      have hnb60 := NB477_483.out
      have hnc60 := NB483_477.out
      have hcz61_0 : wc.cell? ⟨gb477, 0, none⟩ = some (.int .i8 (IntKind.i8.wrap (a0 / 134217728))) := (blk_cell BK477.out 0).trans rfl
      have hcz61_1 : wc.cell? ⟨gb477, 1, none⟩ = some (.int .i8 (IntKind.i8.wrap (Go.bits .and .u32 (a0 / 8388608) 15))) := (blk_cell BK477.out 1).trans rfl
      have hcz61_2 : wc.cell? ⟨gb477, 2, none⟩ = some (.int .i8 (IntKind.i8.wrap (Go.bits .and .u32 (a0 / 524288) 15))) := (blk_cell BK477.out 2).trans rfl
      have hcz61_3 : wc.cell? ⟨gb477, 3, none⟩ = some (.int .i8 (IntKind.i8.wrap (Go.bits .and .u32 (a0 / 32768) 15))) := (blk_cell BK477.out 3).trans rfl
      have hcz61_4 : wc.cell? ⟨gb477, 4, none⟩ = some (.int .i64 (wrap64 (Go.bits .and .u32 a0 32767))) := (blk_cell BK477.out 4).trans rfl
      have hfz61_0 := blk_frozen BK477.out 0
      have hfz61_1 := blk_frozen BK477.out 1
      have hfz61_2 := blk_frozen BK477.out 2
      have hfz61_3 := blk_frozen BK477.out 3
      have hfz61_4 := blk_frozen BK477.out 4
      go_wp2_with (first | ((with_reducible refine gate_callee (f := 77) rfl ?_); refine goesL_ (some 47) rfl rfl Try.func77 (by kernel_rfl) rfl #[.agg #[.int .i8 (IntKind.i8.wrap (a0 / 134217728)), .int .i8 (IntKind.i8.wrap (Go.bits .and .u32 (a0 / 8388608) 15)), .int .i8 (IntKind.i8.wrap (Go.bits .and .u32 (a0 / 524288) 15)), .int .i8 (IntKind.i8.wrap (Go.bits .and .u32 (a0 / 32768) 15)), .int .i64 (wrap64 (Go.bits .and .u32 a0 32767))]] rfl (by (try simp only [List.map_toArray, List.map_cons, List.map_nil]); first | done | rfl | (simp only [List.length_drop, List.length_take]; rfl)) ?_; (with_reducible refine (pleatref02_Encode.calls kj2 (IntKind.i8.wrap (a0 / 134217728)) (IntKind.i8.wrap (Go.bits .and .u32 (a0 / 8388608) 15)) (IntKind.i8.wrap (Go.bits .and .u32 (a0 / 524288) 15)) (IntKind.i8.wrap (Go.bits .and .u32 (a0 / 32768) 15)) (wrap64 (Go.bits .and .u32 a0 32767)) t486 t487 _ A49.out).mono ?_); rintro e w62 ⟨rfl, hb⟩; refine ⟨_, rfl, ?_⟩; have n0_ := Aside0.mk (blk_below (g := gb476) (o := .cells #[.int .i8 0, .int .i8 0, .int .i8 0, .int .i8 0, .int .i64 0] 106 (0, 0)) (by (with_reducible repeat (first | refine blk_drewN ?_ _ | refine blk_drew ?_ | refine blk_alloc ?_ _)); exact BK476.out) hb); have n1_ := Aside0.mk (blk_below (g := gb477) (o := .cells #[.int .i8 (IntKind.i8.wrap (a0 / 134217728)), .int .i8 (IntKind.i8.wrap (Go.bits .and .u32 (a0 / 8388608) 15)), .int .i8 (IntKind.i8.wrap (Go.bits .and .u32 (a0 / 524288) 15)), .int .i8 (IntKind.i8.wrap (Go.bits .and .u32 (a0 / 32768) 15)), .int .i64 (wrap64 (Go.bits .and .u32 a0 32767))] 106 (0, 0)) (by (with_reducible repeat (first | refine blk_drewN ?_ _ | refine blk_drew ?_ | refine blk_alloc ?_ _)); exact BK477.out) hb); have n2_ := Aside0.mk (blk_below (g := gb483) (o := .cells #[.bool t478, .bool t479, .bool t480, .bool t481, .bool t482] 115 (0, 0)) (by (with_reducible repeat (first | refine blk_drewN ?_ _ | refine blk_drew ?_ | refine blk_alloc ?_ _)); exact BK483.out) hb); have n3_ := Aside0.mk (below_step (by repeat (first | (with_reducible first | exact HB.out | apply below_alloc | apply pw_below_drewN | apply below_drew1 | refine below_set ?_ GE476.out | refine below_set ?_ GE477.out | refine below_set ?_ GE483.out) | exact HB.out)) hb); clear BK476; clear BK477; clear BK483; clear HB; have BK476 := n0_; have BK477 := n1_; have BK483 := n2_; have HB := n3_; clear n0_ n1_ n2_ n3_; (try clear hb); (try clear hb2); (try clear hk); (try clear hi); have hnb63 := NB476_483.out; have hnc63 := NB483_476.out; have hcz64_0 : w62.cell? ⟨gb476, 0, none⟩ = some (.int .i8 0) := (blk_cell BK476.out 0).trans rfl; have hcz64_1 : w62.cell? ⟨gb476, 1, none⟩ = some (.int .i8 0) := (blk_cell BK476.out 1).trans rfl; have hcz64_2 : w62.cell? ⟨gb476, 2, none⟩ = some (.int .i8 0) := (blk_cell BK476.out 2).trans rfl; have hcz64_3 : w62.cell? ⟨gb476, 3, none⟩ = some (.int .i8 0) := (blk_cell BK476.out 3).trans rfl; have hcz64_4 : w62.cell? ⟨gb476, 4, none⟩ = some (.int .i64 0) := (blk_cell BK476.out 4).trans rfl; have hfz64_0 := blk_frozen BK476.out 0; have hfz64_1 := blk_frozen BK476.out 1; have hfz64_2 := blk_frozen BK476.out 2; have hfz64_3 := blk_frozen BK476.out 3; have hfz64_4 := blk_frozen BK476.out 4))
      refine bodyPost_ret (results_cell_row rfl _ _ gb476 106 #[.int .i8 (-1), .int .i8 0, .int .i8 0, .int .i8 0, .int .i64 (wrap64 (a0))] (0, 0) _ rfl (by (with_reducible repeat (first | refine blk_drewN ?_ _ | refine blk_drew ?_ | refine blk_alloc ?_ _)); refine blk_put (cs := #[.int .i8 (-1), .int .i8 0, .int .i8 0, .int .i8 0, .int .i64 0]) ?_ 4 _ rfl; (with_reducible repeat (first | refine blk_drewN ?_ _ | refine blk_drew ?_ | refine blk_alloc ?_ _)); refine blk_put (cs := #[.int .i8 (-1), .int .i8 0, .int .i8 0, .int .i8 0, .int .i64 0]) ?_ 3 _ rfl; (with_reducible repeat (first | refine blk_drewN ?_ _ | refine blk_drew ?_ | refine blk_alloc ?_ _)); refine blk_put (cs := #[.int .i8 (-1), .int .i8 0, .int .i8 0, .int .i8 0, .int .i64 0]) ?_ 2 _ rfl; (with_reducible repeat (first | refine blk_drewN ?_ _ | refine blk_drew ?_ | refine blk_alloc ?_ _)); refine blk_put (cs := #[.int .i8 (-1), .int .i8 0, .int .i8 0, .int .i8 0, .int .i64 0]) ?_ 1 _ rfl; (with_reducible repeat (first | refine blk_drewN ?_ _ | refine blk_drew ?_ | refine blk_alloc ?_ _)); refine blk_put (cs := #[.int .i8 0, .int .i8 0, .int .i8 0, .int .i8 0, .int .i64 0]) ?_ 0 _ rfl; (with_reducible repeat (first | refine blk_drewN ?_ _ | refine blk_drew ?_ | refine blk_alloc ?_ _)); exact BK476.out) Try.underlying106 rfl (by kernel_rfl)) rfl ?_
      exact ⟨by first | rfl | (simp [errW_none, errW_some] <;> rfl) | (simp [*, errW_none, errW_some] <;> rfl), by repeat (first | (with_reducible first | exact HB.out | apply below_alloc | apply pw_below_drewN | apply below_drew1 | refine below_set ?_ GE476.out | refine below_set ?_ GE477.out | refine below_set ?_ GE483.out) | exact HB.out)⟩
    ·
     rw [if_neg c50] at H
     have c50b0 : (t487 == 0) = false := beq_eq_false_iff_ne.mpr c50
     have c50b1 : (t487 != 0) = true := bne_iff_ne.mpr c50
     simp only [Option.some.injEq, Prod.mk.injEq] at H
     obtain ⟨rfl, rfl, rfl, rfl, rfl⟩ := H
     have hnb65 := NB477_476.out
     have hnc65 := NB476_477.out
     have hnb66 := NB477_483.out
     have hnc66 := NB483_477.out
     have hcz67_0 : wc.cell? ⟨gb477, 0, none⟩ = some (.int .i8 (IntKind.i8.wrap (a0 / 134217728))) := (blk_cell BK477.out 0).trans rfl
     have hcz67_1 : wc.cell? ⟨gb477, 1, none⟩ = some (.int .i8 (IntKind.i8.wrap (Go.bits .and .u32 (a0 / 8388608) 15))) := (blk_cell BK477.out 1).trans rfl
     have hcz67_2 : wc.cell? ⟨gb477, 2, none⟩ = some (.int .i8 (IntKind.i8.wrap (Go.bits .and .u32 (a0 / 524288) 15))) := (blk_cell BK477.out 2).trans rfl
     have hcz67_3 : wc.cell? ⟨gb477, 3, none⟩ = some (.int .i8 (IntKind.i8.wrap (Go.bits .and .u32 (a0 / 32768) 15))) := (blk_cell BK477.out 3).trans rfl
     have hcz67_4 : wc.cell? ⟨gb477, 4, none⟩ = some (.int .i64 (wrap64 (Go.bits .and .u32 a0 32767))) := (blk_cell BK477.out 4).trans rfl
     have hfz67_0 := blk_frozen BK477.out 0
     have hfz67_1 := blk_frozen BK477.out 1
     have hfz67_2 := blk_frozen BK477.out 2
     have hfz67_3 := blk_frozen BK477.out 3
     have hfz67_4 := blk_frozen BK477.out 4
     go_wp2_with (first | ((with_reducible refine gate_callee (f := 77) rfl ?_); refine goesL_ (some 47) rfl rfl Try.func77 (by kernel_rfl) rfl #[.agg #[.int .i8 (IntKind.i8.wrap (a0 / 134217728)), .int .i8 (IntKind.i8.wrap (Go.bits .and .u32 (a0 / 8388608) 15)), .int .i8 (IntKind.i8.wrap (Go.bits .and .u32 (a0 / 524288) 15)), .int .i8 (IntKind.i8.wrap (Go.bits .and .u32 (a0 / 32768) 15)), .int .i64 (wrap64 (Go.bits .and .u32 a0 32767))]] rfl (by (try simp only [List.map_toArray, List.map_cons, List.map_nil]); first | done | rfl | (simp only [List.length_drop, List.length_take]; rfl)) ?_; (with_reducible refine (pleatref02_Encode.calls kj2 (IntKind.i8.wrap (a0 / 134217728)) (IntKind.i8.wrap (Go.bits .and .u32 (a0 / 8388608) 15)) (IntKind.i8.wrap (Go.bits .and .u32 (a0 / 524288) 15)) (IntKind.i8.wrap (Go.bits .and .u32 (a0 / 32768) 15)) (wrap64 (Go.bits .and .u32 a0 32767)) t486 t487 _ A49.out).mono ?_); rintro e w68 ⟨rfl, hb⟩; refine ⟨_, rfl, ?_⟩; have n0_ := Aside0.mk (blk_below (g := gb476) (o := .cells #[.int .i8 0, .int .i8 0, .int .i8 0, .int .i8 0, .int .i64 0] 106 (0, 0)) (by (with_reducible repeat (first | refine blk_drewN ?_ _ | refine blk_drew ?_ | refine blk_alloc ?_ _)); exact BK476.out) hb); have n1_ := Aside0.mk (blk_below (g := gb477) (o := .cells #[.int .i8 (IntKind.i8.wrap (a0 / 134217728)), .int .i8 (IntKind.i8.wrap (Go.bits .and .u32 (a0 / 8388608) 15)), .int .i8 (IntKind.i8.wrap (Go.bits .and .u32 (a0 / 524288) 15)), .int .i8 (IntKind.i8.wrap (Go.bits .and .u32 (a0 / 32768) 15)), .int .i64 (wrap64 (Go.bits .and .u32 a0 32767))] 106 (0, 0)) (by (with_reducible repeat (first | refine blk_drewN ?_ _ | refine blk_drew ?_ | refine blk_alloc ?_ _)); exact BK477.out) hb); have n2_ := Aside0.mk (blk_below (g := gb483) (o := .cells #[.bool t478, .bool t479, .bool t480, .bool t481, .bool t482] 115 (0, 0)) (by (with_reducible repeat (first | refine blk_drewN ?_ _ | refine blk_drew ?_ | refine blk_alloc ?_ _)); exact BK483.out) hb); have n3_ := Aside0.mk (below_step (by repeat (first | (with_reducible first | exact HB.out | apply below_alloc | apply pw_below_drewN | apply below_drew1 | refine below_set ?_ GE476.out | refine below_set ?_ GE477.out | refine below_set ?_ GE483.out) | exact HB.out)) hb); clear BK476; clear BK477; clear BK483; clear HB; have BK476 := n0_; have BK477 := n1_; have BK483 := n2_; have HB := n3_; clear n0_ n1_ n2_ n3_; (try clear hb); (try clear hb2); (try clear hk); (try clear hi); have hnb69 := NB476_483.out; have hnc69 := NB483_476.out; have hcz70_0 : w68.cell? ⟨gb476, 0, none⟩ = some (.int .i8 0) := (blk_cell BK476.out 0).trans rfl; have hcz70_1 : w68.cell? ⟨gb476, 1, none⟩ = some (.int .i8 0) := (blk_cell BK476.out 1).trans rfl; have hcz70_2 : w68.cell? ⟨gb476, 2, none⟩ = some (.int .i8 0) := (blk_cell BK476.out 2).trans rfl; have hcz70_3 : w68.cell? ⟨gb476, 3, none⟩ = some (.int .i8 0) := (blk_cell BK476.out 3).trans rfl; have hcz70_4 : w68.cell? ⟨gb476, 4, none⟩ = some (.int .i64 0) := (blk_cell BK476.out 4).trans rfl; have hfz70_0 := blk_frozen BK476.out 0; have hfz70_1 := blk_frozen BK476.out 1; have hfz70_2 := blk_frozen BK476.out 2; have hfz70_3 := blk_frozen BK476.out 3; have hfz70_4 := blk_frozen BK476.out 4))
     refine bodyPost_ret (results_cell_row rfl _ _ gb476 106 #[.int .i8 (-1), .int .i8 0, .int .i8 0, .int .i8 0, .int .i64 (wrap64 (a0))] (0, 0) _ rfl (by (with_reducible repeat (first | refine blk_drewN ?_ _ | refine blk_drew ?_ | refine blk_alloc ?_ _)); refine blk_put (cs := #[.int .i8 (-1), .int .i8 0, .int .i8 0, .int .i8 0, .int .i64 0]) ?_ 4 _ rfl; (with_reducible repeat (first | refine blk_drewN ?_ _ | refine blk_drew ?_ | refine blk_alloc ?_ _)); refine blk_put (cs := #[.int .i8 (-1), .int .i8 0, .int .i8 0, .int .i8 0, .int .i64 0]) ?_ 3 _ rfl; (with_reducible repeat (first | refine blk_drewN ?_ _ | refine blk_drew ?_ | refine blk_alloc ?_ _)); refine blk_put (cs := #[.int .i8 (-1), .int .i8 0, .int .i8 0, .int .i8 0, .int .i64 0]) ?_ 2 _ rfl; (with_reducible repeat (first | refine blk_drewN ?_ _ | refine blk_drew ?_ | refine blk_alloc ?_ _)); refine blk_put (cs := #[.int .i8 (-1), .int .i8 0, .int .i8 0, .int .i8 0, .int .i64 0]) ?_ 1 _ rfl; (with_reducible repeat (first | refine blk_drewN ?_ _ | refine blk_drew ?_ | refine blk_alloc ?_ _)); refine blk_put (cs := #[.int .i8 0, .int .i8 0, .int .i8 0, .int .i8 0, .int .i64 0]) ?_ 0 _ rfl; (with_reducible repeat (first | refine blk_drewN ?_ _ | refine blk_drew ?_ | refine blk_alloc ?_ _)); exact BK476.out) Try.underlying106 rfl (by kernel_rfl)) rfl ?_
     exact ⟨by first | rfl | (simp [errW_none, errW_some] <;> rfl) | (simp [*, errW_none, errW_some] <;> rfl), by repeat (first | (with_reducible first | exact HB.out | apply below_alloc | apply pw_below_drewN | apply below_drew1 | refine below_set ?_ GE476.out | refine below_set ?_ GE477.out | refine below_set ?_ GE483.out) | exact HB.out)⟩


/-! ### pleatref02_Target: function 69 -/
def pleatref02_Target.f (k : Nat) (a0 : Int) : Option (Int × Bool) := (pleatref02_Decode.f k a0).bind fun bt488 => (if bt488.1 < 0 then (some (0, false)) else ((pleatref02_Has.f k bt488.1).bind fun bt494 => (if bt494.2.2.2.2 = true then (some (bt488.2.2.2.2, true)) else (some (0, false)))))
theorem pleatref02_Target.mono : ∀ a0 k, LeO (pleatref02_Target.f k a0) (pleatref02_Target.f (k + 1) a0) := by
 intro a0 k
 unfold pleatref02_Target.f
 repeat' first
   | (with_reducible exact pleatref02_Decode.mono _ _)
   | (with_reducible exact pleatref02_Has.mono _ _)
   | (with_reducible exact LeO.refl _)
   | (with_reducible exact LeO.none _)
   | (with_reducible refine LeO.ite ?_ ?_)
   | (with_reducible refine LeO.bind ?_ (fun _ => ?_))
   | exact pleatref02_Decode.mono _ _
   | exact pleatref02_Has.mono _ _
   | exact LeO.none _
   | refine LeO.ite ?_ ?_
   | refine LeO.bind ?_ (fun _ => ?_)
set_option maxHeartbeats 8000000 in
set_option maxRecDepth 100000 in
theorem pleatref02_Target.calls (k : Nat) (a0 : Int) (r1 : Int) (r2 : Bool) (w : World) (h : pleatref02_Target.f k a0 = some (r1, r2)) :
  Calls Try.prog 69 #[.int .u32 a0] w fun e w' => e = .returned (.tuple #[.int .i64 r1, .bool r2]) ∧ Below w.heap.size w w' := by
 have hu106 := Try.underlying106
 have hu115 := Try.underlying115
 have hfl115_4 : ∀ (c0_ c1_ c2_ c3_ c4_ : Value) (W_ : World), (Instr.field 115 (.agg #[c0_, c1_, c2_, c3_, c4_]) 4).run Try.prog W_ = .ok c4_ W_ := fun _ _ _ _ _ _ => by kernel_rfl
 have HB := Aside0.mk (Below.refl w.heap.size w)
 have H : ((pleatref02_Decode.f k a0).bind fun bt488 => (if bt488.1 < 0 then (some (0, false)) else ((pleatref02_Has.f k bt488.1).bind fun bt494 => (if bt494.2.2.2.2 = true then (some (bt488.2.2.2.2, true)) else (some (0, false)))))) = some (r1, r2) := h
 clear h
 replace H := Option.bind_eq_some_iff.mp H
 obtain ⟨⟨t488, t489, t490, t491, t492⟩, A20, H⟩ := H
 try dsimp only at H
 have A2 := Aside0.mk A20
 clear A20
 by_cases c3 : t488 < 0
 ·
  rw [if_pos c3] at H
  have c3b0 : decide (t488 < 0) = true := decide_eq_true c3
  clear c3
  simp only [Option.some.injEq, Prod.mk.injEq] at H
  obtain ⟨rfl, rfl⟩ := H
  go_enter Try.func69, Try.ntmps69
  go_wp2_with (first | ((with_reducible refine gate_callee (f := 74) rfl ?_); refine goesL_ (some 6) rfl rfl Try.func74 (by kernel_rfl) rfl #[.int .u32 a0] rfl (by (try simp only [List.map_toArray, List.map_cons, List.map_nil]); first | done | rfl | (simp only [List.length_drop, List.length_take]; rfl)) ?_; (with_reducible refine (pleatref02_Decode.calls k a0 t488 t489 t490 t491 t492 _ A2.out).mono ?_); rintro e w4 ⟨rfl, hb⟩; refine ⟨_, rfl, ?_⟩; have n0_ := Aside0.mk (below_step (by repeat (first | (with_reducible first | exact HB.out | apply below_alloc | apply pw_below_drewN | apply below_drew1) | exact HB.out)) hb); clear HB; have HB := n0_; clear n0_; (try clear hb); (try clear hb2); (try clear hk); (try clear hi)) | ((with_reducible refine gate_dst (N := 4) rfl ?_); refine box_event ?hg (N := 4) ?hd (cs := #[.int .i8 0, .int .i8 0, .int .i8 0, .int .i8 0, .int .i64 0]) (t := 106) ?hr ?_; (case hd => rfl); (case hg => rfl); (case hr => first | (go_simp; done) | (go_simp; rfl)); intro gb493 hg w5 hbox hb; have n0_ := Aside0.mk (below_step (by repeat (first | (with_reducible first | exact HB.out | apply below_alloc | apply pw_below_drewN | apply below_drew1) | exact HB.out)) hb); have n1_ := Aside0.mk (hbox); have n2_ := Aside0.mk ((by rw [hg]; exact (below_size (by repeat (first | (with_reducible first | exact HB.out | apply below_alloc | apply pw_below_drewN | apply below_drew1) | exact HB.out))) : w.heap.size ≤ gb493)); have n3_ := Aside0.mk ((by rw [hg]; exact (below_size (by repeat (first | (with_reducible first | exact HB.out | apply below_alloc | apply pw_below_drewN | apply below_drew1) | exact HB.out))) : w.heap.size ≤ gb493)); clear HB; have HB := n0_; have BK493 := n1_; have GW493 := n2_; have GE493 := n3_; clear n0_ n1_ n2_ n3_; clear hb hbox hg; have hcz6_0 : w5.cell? ⟨gb493, 0, none⟩ = some (.int .i8 0) := (blk_cell BK493.out 0).trans rfl; have hcz6_1 : w5.cell? ⟨gb493, 1, none⟩ = some (.int .i8 0) := (blk_cell BK493.out 1).trans rfl; have hcz6_2 : w5.cell? ⟨gb493, 2, none⟩ = some (.int .i8 0) := (blk_cell BK493.out 2).trans rfl; have hcz6_3 : w5.cell? ⟨gb493, 3, none⟩ = some (.int .i8 0) := (blk_cell BK493.out 3).trans rfl; have hcz6_4 : w5.cell? ⟨gb493, 4, none⟩ = some (.int .i64 0) := (blk_cell BK493.out 4).trans rfl; have hfz6_0 := blk_frozen BK493.out 0; have hfz6_1 := blk_frozen BK493.out 1; have hfz6_2 := blk_frozen BK493.out 2; have hfz6_3 := blk_frozen BK493.out 3; have hfz6_4 := blk_frozen BK493.out 4))
  go_ret2
  exact ⟨by first | rfl | (simp [errW_none, errW_some] <;> rfl) | (simp [*, errW_none, errW_some] <;> rfl), by repeat (first | (with_reducible first | exact HB.out | apply below_alloc | apply pw_below_drewN | apply below_drew1 | refine below_set ?_ GE493.out) | exact HB.out)⟩
 ·
  rw [if_neg c3] at H
  have c3b0 : decide (t488 < 0) = false := decide_eq_false c3
  clear c3
  replace H := Option.bind_eq_some_iff.mp H
  obtain ⟨⟨t494, t495, t496, t497, t498⟩, A70, H⟩ := H
  try dsimp only at H
  have A7 := Aside0.mk A70
  clear A70
  by_cases c8 : t498 = true
  ·
   subst c8
   have H1 : (some (t492, true)) = some (r1, r2) := by rw [if_pos rfl] at H; exact H
   clear H
   have H := H1
   clear H1
   simp only [Option.some.injEq, Prod.mk.injEq] at H
   obtain ⟨rfl, rfl⟩ := H
   go_enter Try.func69, Try.ntmps69
   go_wp2_with (first | ((with_reducible refine gate_callee (f := 74) rfl ?_); refine goesL_ (some 6) rfl rfl Try.func74 (by kernel_rfl) rfl #[.int .u32 a0] rfl (by (try simp only [List.map_toArray, List.map_cons, List.map_nil]); first | done | rfl | (simp only [List.length_drop, List.length_take]; rfl)) ?_; (with_reducible refine (pleatref02_Decode.calls k a0 t488 t489 t490 t491 t492 _ A2.out).mono ?_); rintro e w9 ⟨rfl, hb⟩; refine ⟨_, rfl, ?_⟩; have n0_ := Aside0.mk (below_step (by repeat (first | (with_reducible first | exact HB.out | apply below_alloc | apply pw_below_drewN | apply below_drew1) | exact HB.out)) hb); clear HB; have HB := n0_; clear n0_; (try clear hb); (try clear hb2); (try clear hk); (try clear hi)) | ((with_reducible refine gate_dst (N := 4) rfl ?_); refine box_event ?hg (N := 4) ?hd (cs := #[.int .i8 0, .int .i8 0, .int .i8 0, .int .i8 0, .int .i64 0]) (t := 106) ?hr ?_; (case hd => rfl); (case hg => rfl); (case hr => first | (go_simp; done) | (go_simp; rfl)); intro gb493 hg w10 hbox hb; have n0_ := Aside0.mk (below_step (by repeat (first | (with_reducible first | exact HB.out | apply below_alloc | apply pw_below_drewN | apply below_drew1) | exact HB.out)) hb); have n1_ := Aside0.mk (hbox); have n2_ := Aside0.mk ((by rw [hg]; exact (below_size (by repeat (first | (with_reducible first | exact HB.out | apply below_alloc | apply pw_below_drewN | apply below_drew1) | exact HB.out))) : w.heap.size ≤ gb493)); have n3_ := Aside0.mk ((by rw [hg]; exact (below_size (by repeat (first | (with_reducible first | exact HB.out | apply below_alloc | apply pw_below_drewN | apply below_drew1) | exact HB.out))) : w.heap.size ≤ gb493)); clear HB; have HB := n0_; have BK493 := n1_; have GW493 := n2_; have GE493 := n3_; clear n0_ n1_ n2_ n3_; clear hb hbox hg; have hcz11_0 : w10.cell? ⟨gb493, 0, none⟩ = some (.int .i8 0) := (blk_cell BK493.out 0).trans rfl; have hcz11_1 : w10.cell? ⟨gb493, 1, none⟩ = some (.int .i8 0) := (blk_cell BK493.out 1).trans rfl; have hcz11_2 : w10.cell? ⟨gb493, 2, none⟩ = some (.int .i8 0) := (blk_cell BK493.out 2).trans rfl; have hcz11_3 : w10.cell? ⟨gb493, 3, none⟩ = some (.int .i8 0) := (blk_cell BK493.out 3).trans rfl; have hcz11_4 : w10.cell? ⟨gb493, 4, none⟩ = some (.int .i64 0) := (blk_cell BK493.out 4).trans rfl; have hfz11_0 := blk_frozen BK493.out 0; have hfz11_1 := blk_frozen BK493.out 1; have hfz11_2 := blk_frozen BK493.out 2; have hfz11_3 := blk_frozen BK493.out 3; have hfz11_4 := blk_frozen BK493.out 4) | (go_at_call 75; (with_reducible refine (pleatref02_Has.calls k t488 t494 t495 t496 t497 true _ A7.out).mono ?_); rintro e w12 ⟨rfl, hb⟩; have n0_ := Aside0.mk (blk_below (g := gb493) (o := .cells #[.int .i8 t488, .int .i8 t489, .int .i8 t490, .int .i8 t491, .int .i64 t492] 106 (0, 0)) (by (with_reducible repeat (first | refine blk_drewN ?_ _ | refine blk_drew ?_ | refine blk_alloc ?_ _)); refine blk_put (cs := #[.int .i8 t488, .int .i8 t489, .int .i8 t490, .int .i8 t491, .int .i64 0]) ?_ 4 _ rfl; (with_reducible repeat (first | refine blk_drewN ?_ _ | refine blk_drew ?_ | refine blk_alloc ?_ _)); refine blk_put (cs := #[.int .i8 t488, .int .i8 t489, .int .i8 t490, .int .i8 0, .int .i64 0]) ?_ 3 _ rfl; (with_reducible repeat (first | refine blk_drewN ?_ _ | refine blk_drew ?_ | refine blk_alloc ?_ _)); refine blk_put (cs := #[.int .i8 t488, .int .i8 t489, .int .i8 0, .int .i8 0, .int .i64 0]) ?_ 2 _ rfl; (with_reducible repeat (first | refine blk_drewN ?_ _ | refine blk_drew ?_ | refine blk_alloc ?_ _)); refine blk_put (cs := #[.int .i8 t488, .int .i8 0, .int .i8 0, .int .i8 0, .int .i64 0]) ?_ 1 _ rfl; (with_reducible repeat (first | refine blk_drewN ?_ _ | refine blk_drew ?_ | refine blk_alloc ?_ _)); refine blk_put (cs := #[.int .i8 0, .int .i8 0, .int .i8 0, .int .i8 0, .int .i64 0]) ?_ 0 _ rfl; (with_reducible repeat (first | refine blk_drewN ?_ _ | refine blk_drew ?_ | refine blk_alloc ?_ _)); exact BK493.out) hb); have n1_ := Aside0.mk (below_step (by repeat (first | (with_reducible first | exact HB.out | apply below_alloc | apply pw_below_drewN | apply below_drew1 | refine below_set ?_ GE493.out) | exact HB.out)) hb); clear BK493; clear HB; have BK493 := n0_; have HB := n1_; clear n0_ n1_; (try clear hb); (try clear hb2); (try clear hk); (try clear hi); have hcz13_0 : w12.cell? ⟨gb493, 0, none⟩ = some (.int .i8 t488) := (blk_cell BK493.out 0).trans rfl; have hcz13_1 : w12.cell? ⟨gb493, 1, none⟩ = some (.int .i8 t489) := (blk_cell BK493.out 1).trans rfl; have hcz13_2 : w12.cell? ⟨gb493, 2, none⟩ = some (.int .i8 t490) := (blk_cell BK493.out 2).trans rfl; have hcz13_3 : w12.cell? ⟨gb493, 3, none⟩ = some (.int .i8 t491) := (blk_cell BK493.out 3).trans rfl; have hcz13_4 : w12.cell? ⟨gb493, 4, none⟩ = some (.int .i64 t492) := (blk_cell BK493.out 4).trans rfl; have hfz13_0 := blk_frozen BK493.out 0; have hfz13_1 := blk_frozen BK493.out 1; have hfz13_2 := blk_frozen BK493.out 2; have hfz13_3 := blk_frozen BK493.out 3; have hfz13_4 := blk_frozen BK493.out 4))
   go_ret2
   exact ⟨by first | rfl | (simp [errW_none, errW_some] <;> rfl) | (simp [*, errW_none, errW_some] <;> rfl), by repeat (first | (with_reducible first | exact HB.out | apply below_alloc | apply pw_below_drewN | apply below_drew1 | refine below_set ?_ GE493.out) | exact HB.out)⟩
  ·
   replace c8 := Bool.eq_false_iff.mpr c8
   subst c8
   have H1 : (some (0, false)) = some (r1, r2) := by rw [if_neg (show ¬ (false = true) by decide)] at H; exact H
   clear H
   have H := H1
   clear H1
   simp only [Option.some.injEq, Prod.mk.injEq] at H
   obtain ⟨rfl, rfl⟩ := H
   go_enter Try.func69, Try.ntmps69
   go_wp2_with (first | ((with_reducible refine gate_callee (f := 74) rfl ?_); refine goesL_ (some 6) rfl rfl Try.func74 (by kernel_rfl) rfl #[.int .u32 a0] rfl (by (try simp only [List.map_toArray, List.map_cons, List.map_nil]); first | done | rfl | (simp only [List.length_drop, List.length_take]; rfl)) ?_; (with_reducible refine (pleatref02_Decode.calls k a0 t488 t489 t490 t491 t492 _ A2.out).mono ?_); rintro e w14 ⟨rfl, hb⟩; refine ⟨_, rfl, ?_⟩; have n0_ := Aside0.mk (below_step (by repeat (first | (with_reducible first | exact HB.out | apply below_alloc | apply pw_below_drewN | apply below_drew1) | exact HB.out)) hb); clear HB; have HB := n0_; clear n0_; (try clear hb); (try clear hb2); (try clear hk); (try clear hi)) | ((with_reducible refine gate_dst (N := 4) rfl ?_); refine box_event ?hg (N := 4) ?hd (cs := #[.int .i8 0, .int .i8 0, .int .i8 0, .int .i8 0, .int .i64 0]) (t := 106) ?hr ?_; (case hd => rfl); (case hg => rfl); (case hr => first | (go_simp; done) | (go_simp; rfl)); intro gb493 hg w15 hbox hb; have n0_ := Aside0.mk (below_step (by repeat (first | (with_reducible first | exact HB.out | apply below_alloc | apply pw_below_drewN | apply below_drew1) | exact HB.out)) hb); have n1_ := Aside0.mk (hbox); have n2_ := Aside0.mk ((by rw [hg]; exact (below_size (by repeat (first | (with_reducible first | exact HB.out | apply below_alloc | apply pw_below_drewN | apply below_drew1) | exact HB.out))) : w.heap.size ≤ gb493)); have n3_ := Aside0.mk ((by rw [hg]; exact (below_size (by repeat (first | (with_reducible first | exact HB.out | apply below_alloc | apply pw_below_drewN | apply below_drew1) | exact HB.out))) : w.heap.size ≤ gb493)); clear HB; have HB := n0_; have BK493 := n1_; have GW493 := n2_; have GE493 := n3_; clear n0_ n1_ n2_ n3_; clear hb hbox hg; have hcz16_0 : w15.cell? ⟨gb493, 0, none⟩ = some (.int .i8 0) := (blk_cell BK493.out 0).trans rfl; have hcz16_1 : w15.cell? ⟨gb493, 1, none⟩ = some (.int .i8 0) := (blk_cell BK493.out 1).trans rfl; have hcz16_2 : w15.cell? ⟨gb493, 2, none⟩ = some (.int .i8 0) := (blk_cell BK493.out 2).trans rfl; have hcz16_3 : w15.cell? ⟨gb493, 3, none⟩ = some (.int .i8 0) := (blk_cell BK493.out 3).trans rfl; have hcz16_4 : w15.cell? ⟨gb493, 4, none⟩ = some (.int .i64 0) := (blk_cell BK493.out 4).trans rfl; have hfz16_0 := blk_frozen BK493.out 0; have hfz16_1 := blk_frozen BK493.out 1; have hfz16_2 := blk_frozen BK493.out 2; have hfz16_3 := blk_frozen BK493.out 3; have hfz16_4 := blk_frozen BK493.out 4) | (go_at_call 75; (with_reducible refine (pleatref02_Has.calls k t488 t494 t495 t496 t497 false _ A7.out).mono ?_); rintro e w17 ⟨rfl, hb⟩; have n0_ := Aside0.mk (blk_below (g := gb493) (o := .cells #[.int .i8 t488, .int .i8 t489, .int .i8 t490, .int .i8 t491, .int .i64 t492] 106 (0, 0)) (by (with_reducible repeat (first | refine blk_drewN ?_ _ | refine blk_drew ?_ | refine blk_alloc ?_ _)); refine blk_put (cs := #[.int .i8 t488, .int .i8 t489, .int .i8 t490, .int .i8 t491, .int .i64 0]) ?_ 4 _ rfl; (with_reducible repeat (first | refine blk_drewN ?_ _ | refine blk_drew ?_ | refine blk_alloc ?_ _)); refine blk_put (cs := #[.int .i8 t488, .int .i8 t489, .int .i8 t490, .int .i8 0, .int .i64 0]) ?_ 3 _ rfl; (with_reducible repeat (first | refine blk_drewN ?_ _ | refine blk_drew ?_ | refine blk_alloc ?_ _)); refine blk_put (cs := #[.int .i8 t488, .int .i8 t489, .int .i8 0, .int .i8 0, .int .i64 0]) ?_ 2 _ rfl; (with_reducible repeat (first | refine blk_drewN ?_ _ | refine blk_drew ?_ | refine blk_alloc ?_ _)); refine blk_put (cs := #[.int .i8 t488, .int .i8 0, .int .i8 0, .int .i8 0, .int .i64 0]) ?_ 1 _ rfl; (with_reducible repeat (first | refine blk_drewN ?_ _ | refine blk_drew ?_ | refine blk_alloc ?_ _)); refine blk_put (cs := #[.int .i8 0, .int .i8 0, .int .i8 0, .int .i8 0, .int .i64 0]) ?_ 0 _ rfl; (with_reducible repeat (first | refine blk_drewN ?_ _ | refine blk_drew ?_ | refine blk_alloc ?_ _)); exact BK493.out) hb); have n1_ := Aside0.mk (below_step (by repeat (first | (with_reducible first | exact HB.out | apply below_alloc | apply pw_below_drewN | apply below_drew1 | refine below_set ?_ GE493.out) | exact HB.out)) hb); clear BK493; clear HB; have BK493 := n0_; have HB := n1_; clear n0_ n1_; (try clear hb); (try clear hb2); (try clear hk); (try clear hi)))
   go_ret2
   exact ⟨by first | rfl | (simp [errW_none, errW_some] <;> rfl) | (simp [*, errW_none, errW_some] <;> rfl), by repeat (first | (with_reducible first | exact HB.out | apply below_alloc | apply pw_below_drewN | apply below_drew1 | refine below_set ?_ GE493.out) | exact HB.out)⟩
end Go.Proofs.Ytiaohbbafaaibab.P

/- OWN TEXT: the instructions over plain numbers: what the program's and the reference's functions come to. -/
set_option linter.unusedVariables false
set_option linter.unusedSimpArgs false
namespace Go.Proofs.Ytiaohbbafaaibab.P
open Go.RowKit Go.Proofs.YtiaohbbafaaibabW.PrintWords

def hasF (op : Int) : Int := if op < 0 then 0 else if op ≥ 22 then 0 else hasT op
theorem has1 (op : Int) : isa_has.f op = some (hasF op) := by
  unfold isa_has.f hasF
  repeat' split
  all_goals rfl
/-- Is a bit of a word of fields set? -/
def bitF (f m : Int) : Bool := Go.bits .and .i64 f m != 0
theorem and_u32 (i : Nat) (hi : i ≤ 32) {x : Int} (h0 : 0 ≤ x) (h1 : x < 4294967296) : Go.bits .and .u32 x (2 ^ i - 1) = x % 2 ^ i :=
  Go.bits_mask .u32 32 (by decide) (fun n a b => by rw [IntKind.wrap_u32]; omega) i hi x h0 (by omega)
theorem and_15 {x : Int} (h0 : 0 ≤ x) (h1 : x < 4294967296) : Go.bits .and .u32 x 15 = x % 16 := and_u32 4 (by decide) h0 h1
theorem and_32767 {x : Int} (h0 : 0 ≤ x) (h1 : x < 4294967296) : Go.bits .and .u32 x 32767 = x % 32768 := and_u32 15 (by decide) h0 h1
theorem or_u32 (i : Nat) {x y : Int} (hx0 : 0 ≤ x) (hx : x % 2 ^ i = 0) (hx1 : x < 4294967296) (hy0 : 0 ≤ y) (hy : y < 2 ^ i) (hy1 : y < 4294967296) : Go.bits .or .u32 x y = x + y :=
  Go.bits_join .u32 32 (by decide) (fun n a b => by rw [IntKind.wrap_u32]; omega) i x y hx0 hx (by omega) hy0 hy (by omega)
def wordS (op d a b n : Int) : Int := op * 134217728 + d * 8388608 + a * 524288 + b * 32768 + n % 32768
theorem encW_eq {op d a b n : Int} (h0 : 0 ≤ op) (h1 : op < 22) (d0 : 0 ≤ d) (d1 : d < 16) (a0 : 0 ≤ a) (a1 : a < 16) (b0 : 0 ≤ b) (b1 : b < 16) : encW op d a b n = wordS op d a b n := by
  unfold encW wordS
  rw [and_32767 (by omega) (by omega), or_u32 27 (x := op * 134217728) (y := d * 8388608) (by omega) (by omega) (by omega) (by omega) (by omega) (by omega),
    or_u32 23 (x := op * 134217728 + d * 8388608) (y := a * 524288) (by omega) (by omega) (by omega) (by omega) (by omega) (by omega),
    or_u32 19 (x := op * 134217728 + d * 8388608 + a * 524288) (y := b * 32768) (by omega) (by omega) (by omega) (by omega) (by omega) (by omega),
    or_u32 15 (y := n % 4294967296 % 32768) (by omega) (by omega) (by omega) (by omega) (by omega) (by omega)]
  omega
def encS (op d a b n : Int) : Int × Int := if op < 0 then (0, 10) else if op ≥ 22 then (0, 10) else if BadIns (hasT op) d a b n then (0, 11) else (wordS op d a b n, 0)
theorem not_bad {f d a b n : Int} (h : ¬ BadIns f d a b n) : (0 ≤ d ∧ d < 16) ∧ (0 ≤ a ∧ a < 16) ∧ (0 ≤ b ∧ b < 16) ∧ lowT f ≤ n ∧ n ≤ highT f := by
  unfold BadIns badReg at h
  omega
theorem enc1 (op d a b n : Int) : isa_Encode.f op d a b n = some (encS op d a b n) := by
  unfold isa_Encode.f encS
  split
  · rfl
  · split
    · rfl
    · split
      · rfl
      · rename_i h1 h2 h3
        obtain ⟨⟨d0, d1⟩, ⟨a0, a1⟩, ⟨b0, b1⟩, _⟩ := not_bad h3
        rw [encW_eq (by omega) (by omega) d0 d1 a0 a1 b0 b1]
theorem i8_id {x : Int} (h0 : -128 ≤ x) (h1 : x ≤ 127) : IntKind.i8.wrap x = x := by
  simp [IntKind.wrap, IntKind.bits, IntKind.signed]
  omega
/-- The number of a word, its sign as its op has it. -/
def nS (w : Int) : Int := if bitF (hasF (w / 134217728)) 8 = true ∧ bitF (hasF (w / 134217728)) 16 = false ∧ 16384 ≤ w % 32768 then w % 32768 - 32768 else w % 32768
def decS (w : Int) : Int × Int × Int × Int × Int :=
  if encS (w / 134217728) (w / 8388608 % 16) (w / 524288 % 16) (w / 32768 % 16) (nS w) = (w, 0) then (w / 134217728, w / 8388608 % 16, w / 524288 % 16, w / 32768 % 16, nS w) else (-1, 0, 0, 0, w)
def decJ (w : Int) (b : Bool) (op d a c m : Int) : Int × Int × Int × Int × Int := if encS op d a c (if b = true then m - 32768 else m) = (w, 0) then (op, d, a, c, if b = true then m - 32768 else m) else (-1, 0, 0, 0, w)
theorem decJ1 {w : Int} (w0 : 0 ≤ w) (w1 : w < 4294967296) (b : Bool) (op d a c m : Int) (m0 : 0 ≤ m) (m1 : m < 32768) : Ev (fun k => isa_Decode.j0 k w b op d a c m) (decJ w b op d a c m) := by
  have hw : wrap64 w = w := wrap64_id (by omega) (by omega)
  have hm : wrap64 (m - 32768) = m - 32768 := wrap64_id (by omega) (by omega)
  refine Ev.succ ?_
  simp only [isa_Decode.j0, hw, hm]
  cases b with
  | true =>
    refine Ev.iteT rfl (Ev.bind0 (enc1 _ _ _ _ _) ?_)
    unfold decJ
    simp only [if_true]
    refine Ev.ite2 (fun h2 => Ev.ite2 (fun h1 => Ev.val ?_) (fun h1 => Ev.val ?_)) (fun h2 => Ev.val ?_)
    · rw [if_pos (Prod.ext h1 h2)]
    · rw [if_neg (fun h => h1 (by rw [h]))]
    · rw [if_neg (fun h => h2 (by rw [h]))]
  | false =>
    refine Ev.iteF (by decide) (Ev.bind0 (enc1 _ _ _ _ _) ?_)
    unfold decJ
    simp only [Bool.false_eq_true, if_false]
    refine Ev.ite2 (fun h2 => Ev.ite2 (fun h1 => Ev.val ?_) (fun h1 => Ev.val ?_)) (fun h2 => Ev.val ?_)
    · rw [if_pos (Prod.ext h1 h2)]
    · rw [if_neg (fun h => h1 (by rw [h]))]
    · rw [if_neg (fun h => h2 (by rw [h]))]
theorem parts {w : Int} (w0 : 0 ≤ w) (w1 : w < 4294967296) : IntKind.i8.wrap (w / 134217728) = w / 134217728 ∧ IntKind.i8.wrap (Go.bits .and .u32 (w / 8388608) 15) = w / 8388608 % 16 ∧ IntKind.i8.wrap (Go.bits .and .u32 (w / 524288) 15) = w / 524288 % 16 ∧
    IntKind.i8.wrap (Go.bits .and .u32 (w / 32768) 15) = w / 32768 % 16 ∧ wrap64 (Go.bits .and .u32 w 32767) = w % 32768 := by
  rw [and_15 (by omega) (by omega), and_15 (by omega) (by omega), and_15 (by omega) (by omega), and_32767 w0 w1]
  exact ⟨i8_id (by omega) (by omega), i8_id (by omega) (by omega), i8_id (by omega) (by omega), i8_id (by omega) (by omega), wrap64_id (by omega) (by omega)⟩
theorem dec1 {w : Int} (w0 : 0 ≤ w) (w1 : w < 4294967296) : Ev (fun k => isa_Decode.f k w) (decS w) := by
  have m0 : 0 ≤ w % 32768 := by omega
  have m1 : w % 32768 < 32768 := by omega
  obtain ⟨p1, p2, p3, p4, p5⟩ := parts w0 w1
  have J := fun b => decJ1 w0 w1 b (w / 134217728) (w / 8388608 % 16) (w / 524288 % 16) (w / 32768 % 16) (w % 32768) m0 m1
  have E0 : (bitF (hasF (w / 134217728)) 8 = true ∧ bitF (hasF (w / 134217728)) 16 = false ∧ 16384 ≤ w % 32768) → decJ w true (w / 134217728) (w / 8388608 % 16) (w / 524288 % 16) (w / 32768 % 16) (w % 32768) = decS w := fun h => by
    unfold decJ decS nS
    simp only [if_pos h, if_true]
  have E1 : ¬ (bitF (hasF (w / 134217728)) 8 = true ∧ bitF (hasF (w / 134217728)) 16 = false ∧ 16384 ≤ w % 32768) → decJ w false (w / 134217728) (w / 8388608 % 16) (w / 524288 % 16) (w / 32768 % 16) (w % 32768) = decS w := fun h => by
    unfold decJ decS nS
    simp only [if_neg h, Bool.false_eq_true, if_false]
  unfold isa_Decode.f
  rw [p1, p2, p3, p4, p5]
  refine Ev.bind0 (has1 _) (Ev.ite2 (fun h8 => ?_) (fun h8 => Ev.ite2 (fun h16 => ?_) (fun h16 => ?_)))
  · exact Ev.to (J false) (E1 (fun h => by simp [bitF, h8] at h))
  · by_cases hm : w % 32768 ≥ 16384
    · rw [show decide (w % 32768 ≥ 16384) = true from decide_eq_true hm]
      exact Ev.to (J true) (E0 ⟨by simp [bitF, h8], by simp [bitF, h16], hm⟩)
    · rw [show decide (w % 32768 ≥ 16384) = false from decide_eq_false hm]
      exact Ev.to (J false) (E1 (fun h => hm h.2.2))
  · exact Ev.to (J false) (E1 (fun h => by simp [bitF, h16] at h))
def tgtS (w : Int) : Int × Bool := if bitF (hasF (decS w).1) 16 = true then ((decS w).2.2.2.2, true) else (0, false)
theorem tgt1 {w : Int} (w0 : 0 ≤ w) (w1 : w < 4294967296) : Ev (fun k => isa_Target.f k w) (tgtS w) := by
  unfold isa_Target.f tgtS
  refine Ev.bind (dec1 w0 w1) (Ev.bind0 (has1 _) (Ev.ite2 (fun h => Ev.val ?_) (fun h => Ev.val ?_)))
  · rw [if_neg (by simp [bitF, h])]
  · rw [if_pos (by simp [bitF, h])]
end Go.Proofs.Ytiaohbbafaaibab.P

/- OWN TEXT: whether an object may be, over plain lists: what object.Check comes to. -/
namespace Go.Proofs.Ytiaohbbafaaibab.P
open Go.RowKit Go.Proofs.YtiaohbbafaaibabW.PrintWords Go.Proofs.YtiaohbbafaaibabW.PrintLast Go.Proofs.YtiaohbbafaaibabW.PrintMore
set_option linter.unusedVariables false
set_option linter.unusedSimpArgs false

abbrev Rel := S41
def rl (l : List Rel) (i : Nat) : Rel := rd_T41 l (i : Int)
def wordsO (t : List Int) : Bool := t.all fun x => decide (0 ≤ x) && decide (x < 4294967296)
theorem wordsO_at {t : List Int} (h : wordsO t = true) {x : Int} (hx : x ∈ t) : 0 ≤ x ∧ x < 4294967296 := by
  have := List.all_eq_true.1 h x hx
  simpa using this
def lastR (l : List Rel) : Nat → Int
  | 0 => -1
  | i + 1 => (rl l i).f0
def relE (code : List Int) (ns : Int) (l : List Rel) (i : Nat) : Int :=
  if (rl l i).f0 ≤ lastR l i then 24 else if (rl l i).f0 ≥ (code.length : Int) then 24 else if (rl l i).f1 < 0 then 24 else if (rl l i).f1 ≥ ns then 24 else if (tgtS (rd code (rl l i).f0)).2 = true then (if (tgtS (rd code (rl l i).f0)).1 = 0 then 0 else 24) else 24
def markB (l : List Rel) : Nat → Nat → Bool
  | 0 => fun _ => false
  | i + 1 => fun k => decide (k = (rl l i).f0.toNat) || markB l i k
def scanE (code : List Int) (named : Nat → Bool) (k : Nat) : Int :=
  if (tgtS (rd code (k : Int))).2 = true then (if named k = true then 0 else if (tgtS (rd code (k : Int))).1 > (code.length : Int) then 22 else 0) else 0
def scanS (g : Nat → Int) (n : Nat) : Nat → Int × Int
  | 0 => (0, 0)
  | d + 1 => if g (n - (d + 1)) = 0 then scanS g n d else (g (n - (d + 1)), -1 - ((n - (d + 1) : Nat) : Int))
theorem scanS_step (g : Nat → Int) {n i : Nat} (h : i < n) : scanS g n (n - i) = if g i = 0 then scanS g n (n - (i + 1)) else (g i, -1 - (i : Int)) := by
  rw [show n - i = (n - (i + 1)) + 1 by omega]
  show (if g (n - (n - (i + 1) + 1)) = 0 then _ else _) = _
  rw [show n - (n - (i + 1) + 1) = i by omega]
def relocsS (code : List Int) (ns : Int) (l : List Rel) : Int × Int :=
  if (firstS (relE code ns l) l.length l.length).1 = 0 then scanS (scanE code (markB l l.length)) code.length code.length else firstS (relE code ns l) l.length l.length
def sizeS (name : ByteArray) (code : List Int) (dat : Int) (data : List Int) (ns nr : Nat) : Int × Int :=
  if nameS name = true then (if (code.length : Int) > 16384 then (21, -1) else if (ns : Int) > 256 then (21, -2) else if (nr : Int) > (code.length : Int) then (21, -3) else if dat < 0 then (25, -1) else if dat > 4096 then (25, -1) else if (data.length : Int) > 4096 - dat then (25, -1) else (0, 0)) else (20, -1)
def chkO (name : ByteArray) (code : List Int) (dat : Int) (data : List Int) (syms : List Sym) (rels : List Rel) : Int × Int :=
  if (sizeS name code dat data syms.length rels.length).1 = 0 then
    (if (symsS syms (code.length : Int)).1 = 0 then
      (if (relocsS code (syms.length : Int) rels).1 = 0 then (0, 0) else relocsS code (syms.length : Int) rels)
    else symsS syms (code.length : Int))
  else sizeS name code dat data syms.length rels.length
def object_Check.f (a0_0 : ByteArray) (l0_1 : List Int) (a0_2 : Int) (l0_3 : List Int) (l0_4 : List Sym) (l0_5 : List Rel) : Option (Int × Int) := if wordsO l0_1 = true then some (chkO a0_0 l0_1 a0_2 l0_3 l0_4 l0_5) else none
end Go.Proofs.Ytiaohbbafaaibab.P

/- OWN TEXT: symbol.Resolve: what it answers, as a plain function. -/
namespace Go.Proofs.Ytiaohbbafaaibab.P
open Go.RowKit Go.Maps Go.Proofs.YtiaohbbafaaibabW.PrintWords Go.Proofs.YtiaohbbafaaibabW.PrintLast Go.Proofs.YtiaohbbafaaibabW.PrintMore Go.Proofs.Ytiaohbbafaaibab.Arr Go.Proofs.Ytiaohbbafaaibab.MapB Go.Proofs.Ytiaohbbafaaibab.SymM
set_option linter.unusedVariables false
set_option linter.unusedSimpArgs false
abbrev DefT := S54
def objSeen (l : List ObjT) : Nat → Lit → Bool
  | 0 => fun _ => false
  | i + 1 => addS (objSeen l i) (keyN (ob l i).f0)
/-- the objects' own check and their names, up to object i: none: not said; some none: all well; else the answer. -/
def chkR (l : List ObjT) : Nat → Option (Option (Int × Int × Int))
  | 0 => some none
  | i + 1 => match chkR l i with
    | none => none
    | some (some x) => some (some x)
    | some none => match object_Check.f (ob l i).f0 (ob l i).f1 (ob l i).f2 (ob l i).f3 (ob l i).f4 (ob l i).f5 with
      | none => none
      | some (e, n) => if e ≠ 0 then some (some (e, (i : Int), n)) else if objSeen l i (keyN (ob l i).f0) = true then some (some (26, (i : Int), -1)) else some none
/-- what one symbol of object i is bound to. -/
def symX (L : List Ent) (i : Int) (s : Sym) : Option DefT := if s.f1 = 0 then some ⟨i, s.f2⟩ else if (findR L s.f0).2.2 = true then some ⟨(findR L s.f0).1, (findR L s.f0).2.1⟩ else none
/-- the first j symbols of object i: the places, or the first symbol that has none. -/
def rowX (L : List Ent) (syms : List Sym) (i : Int) : Nat → List DefT × Option Nat
  | 0 => ([], none)
  | j + 1 => match rowX L syms i j with
    | (d, some k) => (d, some k)
    | (d, none) => match symX L i (sy syms j) with
      | some x => (d ++ [x], none)
      | none => (d, some j)
/-- the first i objects. -/
def rowsX (L : List Ent) (l : List ObjT) : Nat → List (List DefT) × Option (Nat × Nat)
  | 0 => ([], none)
  | i + 1 => match rowsX L l i with
    | (d, some k) => (d, some k)
    | (d, none) => match rowX L (ob l i).f4 (i : Int) (ob l i).f4.length with
      | (x, none) => (d ++ [x], none)
      | (_, some j) => (d, some (i, j))
def resolveR (l : List ObjT) : Option (List (List DefT) × Int × Int × Int) :=
  if (l.length : Int) > 32 then some ([], 21, 32, 0) else
  match chkR l l.length with
  | none => none
  | some (some (e, i, n)) => some ([], e, i, n)
  | some none =>
    if 0 ≤ (aObj l l.length).1 then some ([], 26, (aObj l l.length).1, (aObj l l.length).2) else
    match rowsX (gObj l l.length) l l.length with
    | (_, some (i, k)) => some ([], 40, (i : Int), (k : Int))
    | (d, none) => some (d, 0, 0, 0)
def symbol_Resolve.f (l0 : List ObjT) : Option (List (List DefT) × Int × Int × Int) := if (decide (l0.length ≤ 1000000) && (List.range l0.length).all fun i => decide ((ob l0 i).f4.length ≤ 1000000000)) = true then resolveR l0 else none
theorem chkR_step (l : List ObjT) (i : Nat) (h : chkR l i = some none) : chkR l (i + 1) = match object_Check.f (ob l i).f0 (ob l i).f1 (ob l i).f2 (ob l i).f3 (ob l i).f4 (ob l i).f5 with
      | none => none
      | some (e, n) => if e ≠ 0 then some (some (e, (i : Int), n)) else if objSeen l i (keyN (ob l i).f0) = true then some (some (26, (i : Int), -1)) else some none := by
  simp only [chkR, h]
theorem chkR_none (l : List ObjT) (i d : Nat) (h : chkR l i = none) : chkR l (i + d) = none := by
  induction d with
  | zero => exact h
  | succ d ih => rw [show i + (d + 1) = (i + d) + 1 by omega]; simp only [chkR, ih]
theorem chkR_some (l : List ObjT) (i d : Nat) (x : Int × Int × Int) (h : chkR l i = some (some x)) : chkR l (i + d) = some (some x) := by
  induction d with
  | zero => exact h
  | succ d ih => rw [show i + (d + 1) = (i + d) + 1 by omega]; simp only [chkR, ih]
/-- what one round of the check finds: an answer for all, or the next round. -/
theorem chkR_round (l : List ObjT) (i : Nat) (hi : i < l.length) (h : chkR l i = some none) (hn : chkR l l.length ≠ none) : ∃ e n, object_Check.f (ob l i).f0 (ob l i).f1 (ob l i).f2 (ob l i).f3 (ob l i).f4 (ob l i).f5 = some (e, n) ∧ ((e ≠ 0 ∧ chkR l l.length = some (some (e, (i : Int), n))) ∨ (e = 0 ∧ objSeen l i (keyN (ob l i).f0) = true ∧ chkR l l.length = some (some (26, (i : Int), -1))) ∨ (e = 0 ∧ objSeen l i (keyN (ob l i).f0) = false ∧ chkR l (i + 1) = some none)) := by
  have hs := chkR_step l i h
  have hl : l.length = (i + 1) + (l.length - (i + 1)) := by omega
  cases hc : object_Check.f (ob l i).f0 (ob l i).f1 (ob l i).f2 (ob l i).f3 (ob l i).f4 (ob l i).f5 with
  | none => rw [hc] at hs; exact absurd (by rw [hl]; exact chkR_none l (i + 1) _ hs) hn
  | some x =>
    obtain ⟨e, n⟩ := x
    rw [hc] at hs
    refine ⟨e, n, rfl, ?_⟩
    by_cases he : e = 0
    · subst he
      simp only [ne_eq, not_true, if_false] at hs
      cases hb : objSeen l i (keyN (ob l i).f0) with
      | true => rw [hb, if_pos rfl] at hs; exact Or.inr (Or.inl ⟨rfl, rfl, by rw [hl]; exact chkR_some l (i + 1) _ _ hs⟩)
      | false => rw [hb, if_neg (by decide)] at hs; exact Or.inr (Or.inr ⟨rfl, rfl, hs⟩)
    · simp only [ne_eq, he, not_false_eq_true, if_true] at hs
      exact Or.inl ⟨he, by rw [hl]; exact chkR_some l (i + 1) _ _ hs⟩
/-- the check's rounds: the list's own block, the names met. -/
structure R1 (w W : World) (gl b n : Nat) (ol : Obj) (S : Lit → Bool) : Prop where
  low : Below w.heap.size w W
  hl : W.heap[gl]? = some ol
  seen : SeenN W b n S
  n1 : gl ≠ b
  g1 : w.heap.size ≤ gl
  g2 : w.heap.size ≤ b
theorem R1.below {w W W1 : World} {gl b n : Nat} {ol : Obj} {S : Lit → Bool} (h : R1 w W gl b n ol S) (hb : Below W.heap.size W W1) : R1 w W1 gl b n ol S :=
  ⟨below_then h.low h.low.size hb, blk_below h.hl hb, h.seen.below hb, h.n1, h.g1, h.g2⟩
theorem R1.put {w W W1 : World} {gl b n g : Nat} {ol : Obj} {S : Lit → Bool} {cs : Array Value} {e : TypeId} (h : R1 w W gl b n ol S) (hp : Put W W1 g cs e) (hg : w.heap.size ≤ g) (h1 : gl ≠ g) (h2 : b ≠ g) : R1 w W1 gl b n ol S :=
  ⟨hp.below h.low hg, blk_grown h.hl (put_grownN hp) (fun e => h1 (Option.some.inj e)), h.seen.kept (put_grownN hp) (fun e => h2 (Option.some.inj e)), h.n1, h.g1, h.g2⟩
theorem R1.add {w W W1 : World} {gl b n n' : Nat} {ol : Obj} {S S' : Lit → Bool} (h : R1 w W gl b n ol S) (hg : W.grownBy W1 (some b)) (hs : SeenN W1 b n' S') : R1 w W1 gl b n' ol S' :=
  ⟨pw_below_grown h.low (some b) h.low.size hg (fun k hk => by have := Option.some.inj hk; have := h.g2; omega), blk_grown h.hl hg (fun e => h.n1 (Option.some.inj e)), hs, h.n1, h.g1, h.g2⟩
end Go.Proofs.Ytiaohbbafaaibab.P
