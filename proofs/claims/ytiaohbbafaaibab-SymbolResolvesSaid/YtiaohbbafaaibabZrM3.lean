/- OWN TEXT and printed parts of this claim, laid together: P17, IsaL, HObjD, HSymR, SymL, HSymV. -/
import Derived.Test.YtiaohbbafaaibabZrM0
import Derived.Test.YtiaohbbafaaibabZrM2
import Derived.Test.YtiaohbbafaaibabZrM1
/- What the Go functions named below come to, as plain functions, each with its proof; written by this session's prt.py over the kit's print. -/
namespace Go.Proofs.Ytiaohbbafaaibab.P
open Go.RowKit Go.Proofs.YtiaohbbafaaibabW.PrintWords Go.Proofs.YtiaohbbafaaibabW.PrintLast Go.Proofs.YtiaohbbafaaibabW.PrintMore
attribute [local go_sem] max2_int min2_int max_two min_two max_three min_three max_four min_four   -- for this text's walks alone
set_option linter.unusedVariables false
set_option linter.unusedSimpArgs false
/-! ### pleatref02_Decode: function 74 -/
def pleatref02_Decode.j0 : Nat → Int → Bool → Int → Int → Int → Int → Int → Option (Int × Int × Int × Int × Int)
 | 0, _, _, _, _, _, _, _ => none
 | k + 1, x0, x40, x478000, x478001, x478002, x478003, x478004 => if x40 = true then ((pleatref02_Encode.f k x478000 x478001 x478002 x478003 (wrap64 (x478004 - 32768))).bind fun bt484 => (if bt484.2 = 0 then (if bt484.1 = x0 then (some (x478000, x478001, x478002, x478003, wrap64 (x478004 - 32768))) else (some ((-1), 0, 0, 0, wrap64 (x0)))) else (some ((-1), 0, 0, 0, wrap64 (x0))))) else ((pleatref02_Encode.f k x478000 x478001 x478002 x478003 x478004).bind fun bt486 => (if bt486.2 = 0 then (if bt486.1 = x0 then (some (x478000, x478001, x478002, x478003, x478004)) else (some ((-1), 0, 0, 0, wrap64 (x0)))) else (some ((-1), 0, 0, 0, wrap64 (x0)))))
def pleatref02_Decode.f (k : Nat) (a0 : Int) : Option (Int × Int × Int × Int × Int) := (pleatref02_Has.f k (IntKind.i8.wrap (a0 / 134217728))).bind fun bt478 => (if bt478.2.2.2.1 = true then (if bt478.2.2.2.2 = true then (pleatref02_Decode.j0 k a0 false (IntKind.i8.wrap (a0 / 134217728)) (IntKind.i8.wrap (Go.bits .and .u32 (a0 / 8388608) 15)) (IntKind.i8.wrap (Go.bits .and .u32 (a0 / 524288) 15)) (IntKind.i8.wrap (Go.bits .and .u32 (a0 / 32768) 15)) (wrap64 (Go.bits .and .u32 a0 32767))) else (pleatref02_Decode.j0 k a0 (decide ((wrap64 (Go.bits .and .u32 a0 32767)) ≥ 16384)) (IntKind.i8.wrap (a0 / 134217728)) (IntKind.i8.wrap (Go.bits .and .u32 (a0 / 8388608) 15)) (IntKind.i8.wrap (Go.bits .and .u32 (a0 / 524288) 15)) (IntKind.i8.wrap (Go.bits .and .u32 (a0 / 32768) 15)) (wrap64 (Go.bits .and .u32 a0 32767)))) else (pleatref02_Decode.j0 k a0 false (IntKind.i8.wrap (a0 / 134217728)) (IntKind.i8.wrap (Go.bits .and .u32 (a0 / 8388608) 15)) (IntKind.i8.wrap (Go.bits .and .u32 (a0 / 524288) 15)) (IntKind.i8.wrap (Go.bits .and .u32 (a0 / 32768) 15)) (wrap64 (Go.bits .and .u32 a0 32767))))
theorem pleatref02_Decode.mono_l : ∀ k, (∀ y0 y1 y2 y3 y4 y5 y6, LeO (pleatref02_Decode.j0 k y0 y1 y2 y3 y4 y5 y6) (pleatref02_Decode.j0 (k + 1) y0 y1 y2 y3 y4 y5 y6))
 | 0 => fun _ _ _ _ _ _ _ r h => by simp [pleatref02_Decode.j0] at h
 | k + 1 => by
  have ih0 := pleatref02_Decode.mono_l k
  ·
   intro y0 y1 y2 y3 y4 y5 y6
   unfold pleatref02_Decode.j0
   repeat' first
   | (with_reducible first | exact ih0 _ _ _ _ _ _ _ | exact pleatref02_Encode.mono _ _ _ _ _ _ | exact pleatref02_Has.mono _ _ | exact LeO.refl _ | exact LeO.none _ | refine LeO.ite ?_ ?_ | refine LeO.bind ?_ (fun _ => ?_))
theorem pleatref02_Decode.mono : ∀ a0 k, LeO (pleatref02_Decode.f k a0) (pleatref02_Decode.f (k + 1) a0) := by
 intro a0 k
 have ih0 := pleatref02_Decode.mono_l k
 unfold pleatref02_Decode.f
 repeat' first
   | (with_reducible first | exact ih0 _ _ _ _ _ _ _ | exact pleatref02_Encode.mono _ _ _ _ _ _ | exact pleatref02_Has.mono _ _ | exact LeO.refl _ | exact LeO.none _ | refine LeO.ite ?_ ?_ | refine LeO.bind ?_ (fun _ => ?_))
set_option maxHeartbeats 8000000 in
set_option maxRecDepth 100000 in
theorem pleatref02_Decode.calls (k : Nat) (a0 : Int) (r1 : Int) (r2 : Int) (r3 : Int) (r4 : Int) (r5 : Int) (w : World) (h : pleatref02_Decode.f k a0 = some (r1, r2, r3, r4, r5)) :
  Calls Try.prog 74 #[.int .u32 a0] w fun e w' => e = .returned (.agg #[.int .i8 r1, .int .i8 r2, .int .i8 r3, .int .i8 r4, .int .i64 r5]) ∧ Below w.heap.size w w' := by
 have hu106 := Try.underlying106
 have hu115 := Try.underlying115
 have HB := Aside0.mk (Below.refl w.heap.size w)
 have H : ((pleatref02_Has.f k (IntKind.i8.wrap (a0 / 134217728))).bind fun bt478 => (if bt478.2.2.2.1 = true then (if bt478.2.2.2.2 = true then (pleatref02_Decode.j0 k a0 false (IntKind.i8.wrap (a0 / 134217728)) (IntKind.i8.wrap (Go.bits .and .u32 (a0 / 8388608) 15)) (IntKind.i8.wrap (Go.bits .and .u32 (a0 / 524288) 15)) (IntKind.i8.wrap (Go.bits .and .u32 (a0 / 32768) 15)) (wrap64 (Go.bits .and .u32 a0 32767))) else (pleatref02_Decode.j0 k a0 (decide ((wrap64 (Go.bits .and .u32 a0 32767)) ≥ 16384)) (IntKind.i8.wrap (a0 / 134217728)) (IntKind.i8.wrap (Go.bits .and .u32 (a0 / 8388608) 15)) (IntKind.i8.wrap (Go.bits .and .u32 (a0 / 524288) 15)) (IntKind.i8.wrap (Go.bits .and .u32 (a0 / 32768) 15)) (wrap64 (Go.bits .and .u32 a0 32767)))) else (pleatref02_Decode.j0 k a0 false (IntKind.i8.wrap (a0 / 134217728)) (IntKind.i8.wrap (Go.bits .and .u32 (a0 / 8388608) 15)) (IntKind.i8.wrap (Go.bits .and .u32 (a0 / 524288) 15)) (IntKind.i8.wrap (Go.bits .and .u32 (a0 / 32768) 15)) (wrap64 (Go.bits .and .u32 a0 32767))))) = some (r1, r2, r3, r4, r5) := h
 clear h
 replace H := Option.bind_eq_some_iff.mp H
 obtain ⟨⟨t478, t479, t480, t481, t482⟩, A20, H⟩ := H
 try dsimp only at H
 have A2 := Aside0.mk A20
 clear A20
 have HC3 := Aside0.mk H
 clear H
 go_enter Try.func74, Try.ntmps74
 go_upto_region 3 with (first | ((with_reducible refine gate_dst (N := 2) rfl ?_); refine box_event ?hg (N := 2) ?hd (cs := #[.int .i8 0, .int .i8 0, .int .i8 0, .int .i8 0, .int .i64 0]) (t := 106) ?hr ?_; (case hd => rfl); (case hg => rfl); (case hr => go_simp; try rfl); intro gb476 hg w4 hbox hb; have BK476 := Aside0.mk (hbox); have GW476 := Aside0.mk (gwQ hg HB.out); have GE476 := Aside0.mk (gwQ hg HB.out); replace HB := Aside0.mk (bsQ hb HB.out); clear hb hbox hg) | ((with_reducible refine gate_dst (N := 3) rfl ?_); refine box_event ?hg (N := 3) ?hd (cs := #[.int .i8 0, .int .i8 0, .int .i8 0, .int .i8 0, .int .i64 0]) (t := 106) ?hr ?_; (case hd => rfl); (case hg => rfl); (case hr => go_simp; try rfl); intro gb477 hg w5 hbox hb; have n0_ := Aside0.mk (bbQ hb BK476.out); have n1_ := Aside0.mk (bs1Q hb (by repeat with_reducible first | exact HB.out | apply pw_below_drewN | apply below_drew1 | refine below_set ?_ GE476.out)); have n2_ := Aside0.mk (hbox); have n3_ := Aside0.mk (gw1Q hg (by repeat with_reducible first | exact HB.out | apply pw_below_drewN | apply below_drew1 | refine below_set ?_ GE476.out)); have n4_ := Aside0.mk (gw1Q hg (by repeat with_reducible first | exact HB.out | apply pw_below_drewN | apply below_drew1 | refine below_set ?_ GE476.out)); have n5_ := Aside0.mk ((by rw [hg]; exact Nat.ne_of_lt (blk_lt (g := gb476) (o := .cells #[.int .i8 0, .int .i8 0, .int .i8 0, .int .i8 0, .int .i64 0] 106 (0, 0)) (by exact BK476.out)) : gb476 ≠ gb477)); have n6_ := Aside0.mk ((by rw [hg]; exact Nat.ne_of_gt (blk_lt (g := gb476) (o := .cells #[.int .i8 0, .int .i8 0, .int .i8 0, .int .i8 0, .int .i64 0] 106 (0, 0)) (by exact BK476.out)) : gb477 ≠ gb476)); clear BK476; clear HB; have BK476 := n0_; have HB := n1_; have BK477 := n2_; have GW477 := n3_; have GE477 := n4_; have NB476_477 := n5_; have NB477_476 := n6_; clear n0_ n1_ n2_ n3_ n4_ n5_ n6_; clear hb hbox hg; have hnb6 := NB477_476.out; have hnc6 := NB476_477.out; obtain ⟨hcz7_0, hcz7_1, hcz7_2, hcz7_3, hcz7_4⟩ := bcQ5 BK477.out; obtain ⟨hfz7_0, hfz7_1, hfz7_2, hfz7_3, hfz7_4⟩ := fzQ5 BK477.out) | ((with_reducible refine gate_callee (f := 75) rfl ?_); refine goesL_ (some 28) rfl rfl Try.func75 (by kernel_rfl) rfl #[.int .i8 (IntKind.i8.wrap (a0 / 134217728))] rfl (by (try simp only [List.map_toArray, List.map_cons, List.map_nil]); try rfl) ?_; (with_reducible refine (pleatref02_Has.calls k (IntKind.i8.wrap (a0 / 134217728)) t478 t479 t480 t481 t482 _ A2.out).mono ?_); rintro e w8 ⟨rfl, hb⟩; refine ⟨_, rfl, ?_⟩; have n0_ := Aside0.mk (blk_below (g := gb476) (o := .cells #[.int .i8 0, .int .i8 0, .int .i8 0, .int .i8 0, .int .i64 0] 106 (0, 0)) (by refine blk_far ?_ NB476_477.out _; refine blk_far ?_ NB476_477.out _; refine blk_far ?_ NB476_477.out _; refine blk_far ?_ NB476_477.out _; refine blk_far ?_ NB476_477.out _; exact BK476.out) hb); have n1_ := Aside0.mk (blk_below (g := gb477) (o := .cells #[.int .i8 (IntKind.i8.wrap (a0 / 134217728)), .int .i8 (IntKind.i8.wrap (Go.bits .and .u32 (a0 / 8388608) 15)), .int .i8 (IntKind.i8.wrap (Go.bits .and .u32 (a0 / 524288) 15)), .int .i8 (IntKind.i8.wrap (Go.bits .and .u32 (a0 / 32768) 15)), .int .i64 (wrap64 (Go.bits .and .u32 a0 32767))] 106 (0, 0)) (by refine blk_put (cs := #[.int .i8 (IntKind.i8.wrap (a0 / 134217728)), .int .i8 (IntKind.i8.wrap (Go.bits .and .u32 (a0 / 8388608) 15)), .int .i8 (IntKind.i8.wrap (Go.bits .and .u32 (a0 / 524288) 15)), .int .i8 (IntKind.i8.wrap (Go.bits .and .u32 (a0 / 32768) 15)), .int .i64 0]) ?_ 4 _ rfl; refine blk_put (cs := #[.int .i8 (IntKind.i8.wrap (a0 / 134217728)), .int .i8 (IntKind.i8.wrap (Go.bits .and .u32 (a0 / 8388608) 15)), .int .i8 (IntKind.i8.wrap (Go.bits .and .u32 (a0 / 524288) 15)), .int .i8 0, .int .i64 0]) ?_ 3 _ rfl; refine blk_put (cs := #[.int .i8 (IntKind.i8.wrap (a0 / 134217728)), .int .i8 (IntKind.i8.wrap (Go.bits .and .u32 (a0 / 8388608) 15)), .int .i8 0, .int .i8 0, .int .i64 0]) ?_ 2 _ rfl; refine blk_put (cs := #[.int .i8 (IntKind.i8.wrap (a0 / 134217728)), .int .i8 0, .int .i8 0, .int .i8 0, .int .i64 0]) ?_ 1 _ rfl; refine blk_put (cs := #[.int .i8 0, .int .i8 0, .int .i8 0, .int .i8 0, .int .i64 0]) ?_ 0 _ rfl; exact BK477.out) hb); have n2_ := Aside0.mk (bs1Q hb (by repeat with_reducible first | exact HB.out | apply pw_below_drewN | apply below_drew1 | refine below_set ?_ GE476.out | refine below_set ?_ GE477.out)); clear BK476; clear BK477; clear HB; have BK476 := n0_; have BK477 := n1_; have HB := n2_; clear n0_ n1_ n2_; (try clear hb); (try clear hb2); (try clear hk); (try clear hi)) | ((with_reducible refine gate_dst (N := 4) rfl ?_); refine box_event ?hg (N := 4) ?hd (cs := #[.bool false, .bool false, .bool false, .bool false, .bool false]) (t := 115) ?hr ?_; (case hd => rfl); (case hg => rfl); (case hr => go_simp; try rfl); intro gb483 hg w9 hbox hb; have n0_ := Aside0.mk (bbQ hb BK476.out); have n1_ := Aside0.mk (bbQ hb BK477.out); have n2_ := Aside0.mk (bs1Q hb (by repeat with_reducible first | exact HB.out | apply pw_below_drewN | apply below_drew1 | refine below_set ?_ GE476.out | refine below_set ?_ GE477.out)); have n3_ := Aside0.mk (hbox); have n4_ := Aside0.mk (gw1Q hg (by repeat with_reducible first | exact HB.out | apply pw_below_drewN | apply below_drew1 | refine below_set ?_ GE476.out | refine below_set ?_ GE477.out)); have n5_ := Aside0.mk (gw1Q hg (by repeat with_reducible first | exact HB.out | apply pw_below_drewN | apply below_drew1 | refine below_set ?_ GE476.out | refine below_set ?_ GE477.out)); have n6_ := Aside0.mk ((by rw [hg]; exact Nat.ne_of_lt (blk_lt (g := gb476) (o := .cells #[.int .i8 0, .int .i8 0, .int .i8 0, .int .i8 0, .int .i64 0] 106 (0, 0)) (by exact BK476.out)) : gb476 ≠ gb483)); have n7_ := Aside0.mk ((by rw [hg]; exact Nat.ne_of_gt (blk_lt (g := gb476) (o := .cells #[.int .i8 0, .int .i8 0, .int .i8 0, .int .i8 0, .int .i64 0] 106 (0, 0)) (by exact BK476.out)) : gb483 ≠ gb476)); have n8_ := Aside0.mk ((by rw [hg]; exact Nat.ne_of_lt (blk_lt (g := gb477) (o := .cells #[.int .i8 (IntKind.i8.wrap (a0 / 134217728)), .int .i8 (IntKind.i8.wrap (Go.bits .and .u32 (a0 / 8388608) 15)), .int .i8 (IntKind.i8.wrap (Go.bits .and .u32 (a0 / 524288) 15)), .int .i8 (IntKind.i8.wrap (Go.bits .and .u32 (a0 / 32768) 15)), .int .i64 (wrap64 (Go.bits .and .u32 a0 32767))] 106 (0, 0)) (by exact BK477.out)) : gb477 ≠ gb483)); have n9_ := Aside0.mk ((by rw [hg]; exact Nat.ne_of_gt (blk_lt (g := gb477) (o := .cells #[.int .i8 (IntKind.i8.wrap (a0 / 134217728)), .int .i8 (IntKind.i8.wrap (Go.bits .and .u32 (a0 / 8388608) 15)), .int .i8 (IntKind.i8.wrap (Go.bits .and .u32 (a0 / 524288) 15)), .int .i8 (IntKind.i8.wrap (Go.bits .and .u32 (a0 / 32768) 15)), .int .i64 (wrap64 (Go.bits .and .u32 a0 32767))] 106 (0, 0)) (by exact BK477.out)) : gb483 ≠ gb477)); clear BK476; clear BK477; clear HB; have BK476 := n0_; have BK477 := n1_; have HB := n2_; have BK483 := n3_; have GW483 := n4_; have GE483 := n5_; have NB476_483 := n6_; have NB483_476 := n7_; have NB477_483 := n8_; have NB483_477 := n9_; clear n0_ n1_ n2_ n3_ n4_ n5_ n6_ n7_ n8_ n9_; clear hb hbox hg; have hnb10 := NB483_476.out; have hnc10 := NB476_483.out; have hnb11 := NB483_477.out; have hnc11 := NB477_483.out; obtain ⟨hcz12_0, hcz12_1, hcz12_2, hcz12_3, hcz12_4⟩ := bcQ5 BK483.out; obtain ⟨hfz12_0, hfz12_1, hfz12_2, hfz12_3, hfz12_4⟩ := fzQ5 BK483.out))
 (try simp only [Act.put, List.setIfInBounds_toArray, List.set_cons_zero, List.set_cons_succ])
 go_cut [40] (fun v40 wc => ∃ (kq : Nat) (x40_2 : Bool), v40 = .bool x40_2 ∧ Aside0 (pleatref02_Decode.j0 kq a0 x40_2 (IntKind.i8.wrap (a0 / 134217728)) (IntKind.i8.wrap (Go.bits .and .u32 (a0 / 8388608) 15)) (IntKind.i8.wrap (Go.bits .and .u32 (a0 / 524288) 15)) (IntKind.i8.wrap (Go.bits .and .u32 (a0 / 32768) 15)) (wrap64 (Go.bits .and .u32 a0 32767)) = some (r1, r2, r3, r4, r5)) ∧ Aside0 (kq ≤ k) ∧ Aside0 (wc.heap[gb476]? = some (.cells #[.int .i8 0, .int .i8 0, .int .i8 0, .int .i8 0, .int .i64 0] 106 (0, 0))) ∧ Aside0 (wc.heap[gb477]? = some (.cells #[.int .i8 (IntKind.i8.wrap (a0 / 134217728)), .int .i8 (IntKind.i8.wrap (Go.bits .and .u32 (a0 / 8388608) 15)), .int .i8 (IntKind.i8.wrap (Go.bits .and .u32 (a0 / 524288) 15)), .int .i8 (IntKind.i8.wrap (Go.bits .and .u32 (a0 / 32768) 15)), .int .i64 (wrap64 (Go.bits .and .u32 a0 32767))] 106 (0, 0))) ∧ Aside0 (wc.heap[gb483]? = some (.cells #[.bool t478, .bool t479, .bool t480, .bool t481, .bool t482] 115 (0, 0))) ∧ Aside0 (Below w.heap.size w wc))
 case first =>
  have H := HC3.out
  clear HC3
  by_cases c13 : t481 = true
  ·
   subst c13
   rw [if_pos rfl] at H
   by_cases c14 : t482 = true
   ·
    subst c14
    rw [if_pos rfl] at H
    have H' := Aside0.mk H
    clear H
    have hnb15 := NB483_476.out
    have hnc15 := NB476_483.out
    have hnb16 := NB483_477.out
    have hnc16 := NB477_483.out
    obtain ⟨hcz17_0, hcz17_1, hcz17_2, hcz17_3, hcz17_4⟩ := bcQ5 BK483.out
    obtain ⟨hfz17_0, hfz17_1, hfz17_2, hfz17_3, hfz17_4⟩ := fzQ5 BK483.out
    go_wp2
    go_meet
    case rel => exact ⟨_, (false), (by first | rfl | (simp; done) | (simp [*]; done)), H', ⟨by first | omega | exact Nat.le_refl _⟩, ⟨by refine blk_far ?_ NB476_483.out _; refine blk_far ?_ NB476_483.out _; refine blk_far ?_ NB476_483.out _; refine blk_far ?_ NB476_483.out _; refine blk_far ?_ NB476_483.out _; exact BK476.out⟩, ⟨by refine blk_far ?_ NB477_483.out _; refine blk_far ?_ NB477_483.out _; refine blk_far ?_ NB477_483.out _; refine blk_far ?_ NB477_483.out _; refine blk_far ?_ NB477_483.out _; exact BK477.out⟩, ⟨by refine blk_put (cs := #[.bool t478, .bool t479, .bool t480, .bool true, .bool false]) ?_ 4 _ rfl; refine blk_put (cs := #[.bool t478, .bool t479, .bool t480, .bool false, .bool false]) ?_ 3 _ rfl; refine blk_put (cs := #[.bool t478, .bool t479, .bool false, .bool false, .bool false]) ?_ 2 _ rfl; refine blk_put (cs := #[.bool t478, .bool false, .bool false, .bool false, .bool false]) ?_ 1 _ rfl; refine blk_put (cs := #[.bool false, .bool false, .bool false, .bool false, .bool false]) ?_ 0 _ rfl; exact BK483.out⟩, ⟨by repeat with_reducible first | exact HB.out | apply pw_below_drewN | apply below_drew1 | refine below_set ?_ GE476.out | refine below_set ?_ GE477.out | refine below_set ?_ GE483.out⟩⟩
   ·
    replace c14 := Bool.eq_false_iff.mpr c14
    subst c14
    rw [if_neg Bool.false_ne_true] at H
    have H' := Aside0.mk H
    clear H
    have hnb18 := NB483_476.out
    have hnc18 := NB476_483.out
    have hnb19 := NB483_477.out
    have hnc19 := NB477_483.out
    obtain ⟨hcz20_0, hcz20_1, hcz20_2, hcz20_3, hcz20_4⟩ := bcQ5 BK483.out
    obtain ⟨hfz20_0, hfz20_1, hfz20_2, hfz20_3, hfz20_4⟩ := fzQ5 BK483.out
    have hnb21 := NB477_476.out
    have hnc21 := NB476_477.out
    obtain ⟨hcz22_0, hcz22_1, hcz22_2, hcz22_3, hcz22_4⟩ := bcQ5 BK477.out
    obtain ⟨hfz22_0, hfz22_1, hfz22_2, hfz22_3, hfz22_4⟩ := fzQ5 BK477.out
    go_wp2
    go_meet
    case rel => exact ⟨_, (decide ((wrap64 (Go.bits .and .u32 a0 32767)) ≥ 16384)), (by first | rfl | (simp; done) | (simp [*]; done)), H', ⟨by first | omega | exact Nat.le_refl _⟩, ⟨by refine blk_far ?_ NB476_483.out _; refine blk_far ?_ NB476_483.out _; refine blk_far ?_ NB476_483.out _; refine blk_far ?_ NB476_483.out _; refine blk_far ?_ NB476_483.out _; exact BK476.out⟩, ⟨by refine blk_far ?_ NB477_483.out _; refine blk_far ?_ NB477_483.out _; refine blk_far ?_ NB477_483.out _; refine blk_far ?_ NB477_483.out _; refine blk_far ?_ NB477_483.out _; exact BK477.out⟩, ⟨by refine blk_put (cs := #[.bool t478, .bool t479, .bool t480, .bool true, .bool false]) ?_ 4 _ rfl; refine blk_put (cs := #[.bool t478, .bool t479, .bool t480, .bool false, .bool false]) ?_ 3 _ rfl; refine blk_put (cs := #[.bool t478, .bool t479, .bool false, .bool false, .bool false]) ?_ 2 _ rfl; refine blk_put (cs := #[.bool t478, .bool false, .bool false, .bool false, .bool false]) ?_ 1 _ rfl; refine blk_put (cs := #[.bool false, .bool false, .bool false, .bool false, .bool false]) ?_ 0 _ rfl; exact BK483.out⟩, ⟨by repeat with_reducible first | exact HB.out | apply pw_below_drewN | apply below_drew1 | refine below_set ?_ GE476.out | refine below_set ?_ GE477.out | refine below_set ?_ GE483.out⟩⟩
  ·
   replace c13 := Bool.eq_false_iff.mpr c13
   subst c13
   rw [if_neg Bool.false_ne_true] at H
   have H' := Aside0.mk H
   clear H
   have hnb23 := NB483_476.out
   have hnc23 := NB476_483.out
   have hnb24 := NB483_477.out
   have hnc24 := NB477_483.out
   obtain ⟨hcz25_0, hcz25_1, hcz25_2, hcz25_3, hcz25_4⟩ := bcQ5 BK483.out
   obtain ⟨hfz25_0, hfz25_1, hfz25_2, hfz25_3, hfz25_4⟩ := fzQ5 BK483.out
   go_wp2
   go_meet
   case rel => exact ⟨_, (false), (by first | rfl | (simp; done) | (simp [*]; done)), H', ⟨by first | omega | exact Nat.le_refl _⟩, ⟨by refine blk_far ?_ NB476_483.out _; refine blk_far ?_ NB476_483.out _; refine blk_far ?_ NB476_483.out _; refine blk_far ?_ NB476_483.out _; refine blk_far ?_ NB476_483.out _; exact BK476.out⟩, ⟨by refine blk_far ?_ NB477_483.out _; refine blk_far ?_ NB477_483.out _; refine blk_far ?_ NB477_483.out _; refine blk_far ?_ NB477_483.out _; refine blk_far ?_ NB477_483.out _; exact BK477.out⟩, ⟨by refine blk_put (cs := #[.bool t478, .bool t479, .bool t480, .bool false, .bool false]) ?_ 4 _ rfl; refine blk_put (cs := #[.bool t478, .bool t479, .bool t480, .bool false, .bool false]) ?_ 3 _ rfl; refine blk_put (cs := #[.bool t478, .bool t479, .bool false, .bool false, .bool false]) ?_ 2 _ rfl; refine blk_put (cs := #[.bool t478, .bool false, .bool false, .bool false, .bool false]) ?_ 1 _ rfl; refine blk_put (cs := #[.bool false, .bool false, .bool false, .bool false, .bool false]) ?_ 0 _ rfl; exact BK483.out⟩, ⟨by repeat with_reducible first | exact HB.out | apply pw_below_drewN | apply below_drew1 | refine below_set ?_ GE476.out | refine below_set ?_ GE477.out | refine below_set ?_ GE483.out⟩⟩
 case rest =>
  clear HC3
  try clear c1
  try clear c2
  try clear p2
  try clear c6
  try clear p6
  try clear c7
  try clear c10
  try clear c11
  try clear c13
  try clear c14
  try clear c15
  try clear c16
  try clear c18
  try clear c19
  try clear c21
  try clear c23
  try clear c24
  try clear hcz12_0 hcz12_1 hcz12_2 hcz12_3 hcz12_4
  try clear hcz17_0 hcz17_1 hcz17_2 hcz17_3 hcz17_4
  try clear hcz20_0 hcz20_1 hcz20_2 hcz20_3 hcz20_4
  try clear hcz22_0 hcz22_1 hcz22_2 hcz22_3 hcz22_4
  try clear hcz25_0 hcz25_1 hcz25_2 hcz25_3 hcz25_4
  try clear hcz7_0 hcz7_1 hcz7_2 hcz7_3 hcz7_4
  try clear hfz12_0 hfz12_1 hfz12_2 hfz12_3 hfz12_4
  try clear hfz17_0 hfz17_1 hfz17_2 hfz17_3 hfz17_4
  try clear hfz20_0 hfz20_1 hfz20_2 hfz20_3 hfz20_4
  try clear hfz22_0 hfz22_1 hfz22_2 hfz22_3 hfz22_4
  try clear hfz25_0 hfz25_1 hfz25_2 hfz25_3 hfz25_4
  try clear hfz7_0 hfz7_1 hfz7_2 hfz7_3 hfz7_4
  obtain ⟨kq, x40_2, rfl, HA, HJ2, BK476, BK477, BK483, HB⟩ := hcut
  cases kq with
  | zero => exact absurd HA.out (by simp [pleatref02_Decode.j0])
  | succ kj2 =>
   have H := HA.out
   clear HA
   simp only [pleatref02_Decode.j0] at H
   by_cases c26 : x40_2 = true
   ·
    subst c26
    rw [if_pos rfl] at H
    replace H := Option.bind_eq_some_iff.mp H
    obtain ⟨⟨t484, t485⟩, A270, H⟩ := H
    try dsimp only at H
    have A27 := Aside0.mk A270
    clear A270
    by_cases c28 : t485 = 0
    ·
     rw [if_pos c28] at H
     have c28b0 : (t485 == 0) = true := beq_iff_eq.mpr c28
     have c28b1 : (t485 != 0) = false := bne_eq_false_iff_eq.mpr c28
     clear c28
     by_cases c29 : t484 = a0
     ·
      rw [if_pos c29] at H
      have c29b0 : (t484 == a0) = true := beq_iff_eq.mpr c29
      have c29b1 : (t484 != a0) = false := bne_eq_false_iff_eq.mpr c29
      clear c29
      simp only [Option.some.injEq, Prod.mk.injEq] at H
      obtain ⟨rfl, rfl, rfl, rfl, rfl⟩ := H
      have hnb30 := NB477_476.out
      have hnc30 := NB476_477.out
      have hnb31 := NB477_483.out
      have hnc31 := NB483_477.out
      obtain ⟨hcz32_0, hcz32_1, hcz32_2, hcz32_3, hcz32_4⟩ := bcQ5 BK477.out
      obtain ⟨hfz32_0, hfz32_1, hfz32_2, hfz32_3, hfz32_4⟩ := fzQ5 BK477.out
      go_wp2_with (first | ((with_reducible refine gate_callee (f := 77) rfl ?_); refine goesL_ (some 47) rfl rfl Try.func77 (by kernel_rfl) rfl #[.agg #[.int .i8 (IntKind.i8.wrap (a0 / 134217728)), .int .i8 (IntKind.i8.wrap (Go.bits .and .u32 (a0 / 8388608) 15)), .int .i8 (IntKind.i8.wrap (Go.bits .and .u32 (a0 / 524288) 15)), .int .i8 (IntKind.i8.wrap (Go.bits .and .u32 (a0 / 32768) 15)), .int .i64 (wrap64 ((wrap64 (Go.bits .and .u32 a0 32767)) - 32768))]] rfl (by (try simp only [List.map_toArray, List.map_cons, List.map_nil]); try rfl) ?_; (with_reducible refine (pleatref02_Encode.calls kj2 (IntKind.i8.wrap (a0 / 134217728)) (IntKind.i8.wrap (Go.bits .and .u32 (a0 / 8388608) 15)) (IntKind.i8.wrap (Go.bits .and .u32 (a0 / 524288) 15)) (IntKind.i8.wrap (Go.bits .and .u32 (a0 / 32768) 15)) (wrap64 ((wrap64 (Go.bits .and .u32 a0 32767)) - 32768)) t484 t485 _ A27.out).mono ?_); rintro e w33 ⟨rfl, hb⟩; refine ⟨_, rfl, ?_⟩; have n0_ := Aside0.mk (blk_below (g := gb476) (o := .cells #[.int .i8 0, .int .i8 0, .int .i8 0, .int .i8 0, .int .i64 0] 106 (0, 0)) (by refine blk_far ?_ NB476_477.out _; exact BK476.out) hb); have n1_ := Aside0.mk (blk_below (g := gb477) (o := .cells #[.int .i8 (IntKind.i8.wrap (a0 / 134217728)), .int .i8 (IntKind.i8.wrap (Go.bits .and .u32 (a0 / 8388608) 15)), .int .i8 (IntKind.i8.wrap (Go.bits .and .u32 (a0 / 524288) 15)), .int .i8 (IntKind.i8.wrap (Go.bits .and .u32 (a0 / 32768) 15)), .int .i64 (wrap64 ((wrap64 (Go.bits .and .u32 a0 32767)) - 32768))] 106 (0, 0)) (by refine blk_put (cs := #[.int .i8 (IntKind.i8.wrap (a0 / 134217728)), .int .i8 (IntKind.i8.wrap (Go.bits .and .u32 (a0 / 8388608) 15)), .int .i8 (IntKind.i8.wrap (Go.bits .and .u32 (a0 / 524288) 15)), .int .i8 (IntKind.i8.wrap (Go.bits .and .u32 (a0 / 32768) 15)), .int .i64 (wrap64 (Go.bits .and .u32 a0 32767))]) ?_ 4 _ rfl; exact BK477.out) hb); have n2_ := Aside0.mk (blk_below (g := gb483) (o := .cells #[.bool t478, .bool t479, .bool t480, .bool t481, .bool t482] 115 (0, 0)) (by refine blk_far ?_ NB483_477.out _; exact BK483.out) hb); have n3_ := Aside0.mk (bs1Q hb (by repeat with_reducible first | exact HB.out | apply pw_below_drewN | apply below_drew1 | refine below_set ?_ GE476.out | refine below_set ?_ GE477.out | refine below_set ?_ GE483.out)); clear BK476; clear BK477; clear BK483; clear HB; have BK476 := n0_; have BK477 := n1_; have BK483 := n2_; have HB := n3_; clear n0_ n1_ n2_ n3_; (try clear hb); (try clear hb2); (try clear hk); (try clear hi); obtain ⟨hcz34_0, hcz34_1, hcz34_2, hcz34_3, hcz34_4⟩ := bcQ5 BK477.out; obtain ⟨hfz34_0, hfz34_1, hfz34_2, hfz34_3, hfz34_4⟩ := fzQ5 BK477.out; have hnb35 := NB476_483.out; have hnc35 := NB483_476.out; obtain ⟨hcz36_0, hcz36_1, hcz36_2, hcz36_3, hcz36_4⟩ := bcQ5 BK476.out; obtain ⟨hfz36_0, hfz36_1, hfz36_2, hfz36_3, hfz36_4⟩ := fzQ5 BK476.out))
      refine bodyPost_ret (results_cell_row rfl _ _ gb476 106 #[.int .i8 (IntKind.i8.wrap (a0 / 134217728)), .int .i8 (IntKind.i8.wrap (Go.bits .and .u32 (a0 / 8388608) 15)), .int .i8 (IntKind.i8.wrap (Go.bits .and .u32 (a0 / 524288) 15)), .int .i8 (IntKind.i8.wrap (Go.bits .and .u32 (a0 / 32768) 15)), .int .i64 (wrap64 ((wrap64 (Go.bits .and .u32 a0 32767)) - 32768))] (0, 0) _ rfl (by refine blk_put (cs := #[.int .i8 (IntKind.i8.wrap (a0 / 134217728)), .int .i8 (IntKind.i8.wrap (Go.bits .and .u32 (a0 / 8388608) 15)), .int .i8 (IntKind.i8.wrap (Go.bits .and .u32 (a0 / 524288) 15)), .int .i8 (IntKind.i8.wrap (Go.bits .and .u32 (a0 / 32768) 15)), .int .i64 0]) ?_ 4 _ rfl; refine blk_put (cs := #[.int .i8 (IntKind.i8.wrap (a0 / 134217728)), .int .i8 (IntKind.i8.wrap (Go.bits .and .u32 (a0 / 8388608) 15)), .int .i8 (IntKind.i8.wrap (Go.bits .and .u32 (a0 / 524288) 15)), .int .i8 0, .int .i64 0]) ?_ 3 _ rfl; refine blk_put (cs := #[.int .i8 (IntKind.i8.wrap (a0 / 134217728)), .int .i8 (IntKind.i8.wrap (Go.bits .and .u32 (a0 / 8388608) 15)), .int .i8 0, .int .i8 0, .int .i64 0]) ?_ 2 _ rfl; refine blk_put (cs := #[.int .i8 (IntKind.i8.wrap (a0 / 134217728)), .int .i8 0, .int .i8 0, .int .i8 0, .int .i64 0]) ?_ 1 _ rfl; refine blk_put (cs := #[.int .i8 0, .int .i8 0, .int .i8 0, .int .i8 0, .int .i64 0]) ?_ 0 _ rfl; exact BK476.out) Try.underlying106 rfl (by kernel_rfl)) rfl ?_
      exact ⟨by first | rfl | (simp [errW_none, errW_some] <;> rfl) | (simp [*, errW_none, errW_some] <;> rfl), by repeat with_reducible first | exact HB.out | apply pw_below_drewN | apply below_drew1 | refine below_set ?_ GE476.out | refine below_set ?_ GE477.out | refine below_set ?_ GE483.out⟩
     ·
      rw [if_neg c29] at H
      have c29b0 : (t484 == a0) = false := beq_eq_false_iff_ne.mpr c29
      have c29b1 : (t484 != a0) = true := bne_iff_ne.mpr c29
      simp only [Option.some.injEq, Prod.mk.injEq] at H
      obtain ⟨rfl, rfl, rfl, rfl, rfl⟩ := H
      have hnb37 := NB477_476.out
      have hnc37 := NB476_477.out
      have hnb38 := NB477_483.out
      have hnc38 := NB483_477.out
      obtain ⟨hcz39_0, hcz39_1, hcz39_2, hcz39_3, hcz39_4⟩ := bcQ5 BK477.out
      obtain ⟨hfz39_0, hfz39_1, hfz39_2, hfz39_3, hfz39_4⟩ := fzQ5 BK477.out
      go_wp2_with (first | ((with_reducible refine gate_callee (f := 77) rfl ?_); refine goesL_ (some 47) rfl rfl Try.func77 (by kernel_rfl) rfl #[.agg #[.int .i8 (IntKind.i8.wrap (a0 / 134217728)), .int .i8 (IntKind.i8.wrap (Go.bits .and .u32 (a0 / 8388608) 15)), .int .i8 (IntKind.i8.wrap (Go.bits .and .u32 (a0 / 524288) 15)), .int .i8 (IntKind.i8.wrap (Go.bits .and .u32 (a0 / 32768) 15)), .int .i64 (wrap64 ((wrap64 (Go.bits .and .u32 a0 32767)) - 32768))]] rfl (by (try simp only [List.map_toArray, List.map_cons, List.map_nil]); try rfl) ?_; (with_reducible refine (pleatref02_Encode.calls kj2 (IntKind.i8.wrap (a0 / 134217728)) (IntKind.i8.wrap (Go.bits .and .u32 (a0 / 8388608) 15)) (IntKind.i8.wrap (Go.bits .and .u32 (a0 / 524288) 15)) (IntKind.i8.wrap (Go.bits .and .u32 (a0 / 32768) 15)) (wrap64 ((wrap64 (Go.bits .and .u32 a0 32767)) - 32768)) t484 t485 _ A27.out).mono ?_); rintro e w40 ⟨rfl, hb⟩; refine ⟨_, rfl, ?_⟩; have n0_ := Aside0.mk (blk_below (g := gb476) (o := .cells #[.int .i8 0, .int .i8 0, .int .i8 0, .int .i8 0, .int .i64 0] 106 (0, 0)) (by refine blk_far ?_ NB476_477.out _; exact BK476.out) hb); have n1_ := Aside0.mk (blk_below (g := gb477) (o := .cells #[.int .i8 (IntKind.i8.wrap (a0 / 134217728)), .int .i8 (IntKind.i8.wrap (Go.bits .and .u32 (a0 / 8388608) 15)), .int .i8 (IntKind.i8.wrap (Go.bits .and .u32 (a0 / 524288) 15)), .int .i8 (IntKind.i8.wrap (Go.bits .and .u32 (a0 / 32768) 15)), .int .i64 (wrap64 ((wrap64 (Go.bits .and .u32 a0 32767)) - 32768))] 106 (0, 0)) (by refine blk_put (cs := #[.int .i8 (IntKind.i8.wrap (a0 / 134217728)), .int .i8 (IntKind.i8.wrap (Go.bits .and .u32 (a0 / 8388608) 15)), .int .i8 (IntKind.i8.wrap (Go.bits .and .u32 (a0 / 524288) 15)), .int .i8 (IntKind.i8.wrap (Go.bits .and .u32 (a0 / 32768) 15)), .int .i64 (wrap64 (Go.bits .and .u32 a0 32767))]) ?_ 4 _ rfl; exact BK477.out) hb); have n2_ := Aside0.mk (blk_below (g := gb483) (o := .cells #[.bool t478, .bool t479, .bool t480, .bool t481, .bool t482] 115 (0, 0)) (by refine blk_far ?_ NB483_477.out _; exact BK483.out) hb); have n3_ := Aside0.mk (bs1Q hb (by repeat with_reducible first | exact HB.out | apply pw_below_drewN | apply below_drew1 | refine below_set ?_ GE476.out | refine below_set ?_ GE477.out | refine below_set ?_ GE483.out)); clear BK476; clear BK477; clear BK483; clear HB; have BK476 := n0_; have BK477 := n1_; have BK483 := n2_; have HB := n3_; clear n0_ n1_ n2_ n3_; (try clear hb); (try clear hb2); (try clear hk); (try clear hi); have hnb41 := NB476_483.out; have hnc41 := NB483_476.out; obtain ⟨hcz42_0, hcz42_1, hcz42_2, hcz42_3, hcz42_4⟩ := bcQ5 BK476.out; obtain ⟨hfz42_0, hfz42_1, hfz42_2, hfz42_3, hfz42_4⟩ := fzQ5 BK476.out))
      refine bodyPost_ret (results_cell_row rfl _ _ gb476 106 #[.int .i8 (-1), .int .i8 0, .int .i8 0, .int .i8 0, .int .i64 (wrap64 (a0))] (0, 0) _ rfl (by refine blk_put (cs := #[.int .i8 (-1), .int .i8 0, .int .i8 0, .int .i8 0, .int .i64 0]) ?_ 4 _ rfl; refine blk_put (cs := #[.int .i8 (-1), .int .i8 0, .int .i8 0, .int .i8 0, .int .i64 0]) ?_ 3 _ rfl; refine blk_put (cs := #[.int .i8 (-1), .int .i8 0, .int .i8 0, .int .i8 0, .int .i64 0]) ?_ 2 _ rfl; refine blk_put (cs := #[.int .i8 (-1), .int .i8 0, .int .i8 0, .int .i8 0, .int .i64 0]) ?_ 1 _ rfl; refine blk_put (cs := #[.int .i8 0, .int .i8 0, .int .i8 0, .int .i8 0, .int .i64 0]) ?_ 0 _ rfl; exact BK476.out) Try.underlying106 rfl (by kernel_rfl)) rfl ?_
      exact ⟨by first | rfl | (simp [errW_none, errW_some] <;> rfl) | (simp [*, errW_none, errW_some] <;> rfl), by repeat with_reducible first | exact HB.out | apply pw_below_drewN | apply below_drew1 | refine below_set ?_ GE476.out | refine below_set ?_ GE477.out | refine below_set ?_ GE483.out⟩
    ·
     rw [if_neg c28] at H
     have c28b0 : (t485 == 0) = false := beq_eq_false_iff_ne.mpr c28
     have c28b1 : (t485 != 0) = true := bne_iff_ne.mpr c28
     simp only [Option.some.injEq, Prod.mk.injEq] at H
     obtain ⟨rfl, rfl, rfl, rfl, rfl⟩ := H
     have hnb43 := NB477_476.out
     have hnc43 := NB476_477.out
     have hnb44 := NB477_483.out
     have hnc44 := NB483_477.out
     obtain ⟨hcz45_0, hcz45_1, hcz45_2, hcz45_3, hcz45_4⟩ := bcQ5 BK477.out
     obtain ⟨hfz45_0, hfz45_1, hfz45_2, hfz45_3, hfz45_4⟩ := fzQ5 BK477.out
     go_wp2_with (first | ((with_reducible refine gate_callee (f := 77) rfl ?_); refine goesL_ (some 47) rfl rfl Try.func77 (by kernel_rfl) rfl #[.agg #[.int .i8 (IntKind.i8.wrap (a0 / 134217728)), .int .i8 (IntKind.i8.wrap (Go.bits .and .u32 (a0 / 8388608) 15)), .int .i8 (IntKind.i8.wrap (Go.bits .and .u32 (a0 / 524288) 15)), .int .i8 (IntKind.i8.wrap (Go.bits .and .u32 (a0 / 32768) 15)), .int .i64 (wrap64 ((wrap64 (Go.bits .and .u32 a0 32767)) - 32768))]] rfl (by (try simp only [List.map_toArray, List.map_cons, List.map_nil]); try rfl) ?_; (with_reducible refine (pleatref02_Encode.calls kj2 (IntKind.i8.wrap (a0 / 134217728)) (IntKind.i8.wrap (Go.bits .and .u32 (a0 / 8388608) 15)) (IntKind.i8.wrap (Go.bits .and .u32 (a0 / 524288) 15)) (IntKind.i8.wrap (Go.bits .and .u32 (a0 / 32768) 15)) (wrap64 ((wrap64 (Go.bits .and .u32 a0 32767)) - 32768)) t484 t485 _ A27.out).mono ?_); rintro e w46 ⟨rfl, hb⟩; refine ⟨_, rfl, ?_⟩; have n0_ := Aside0.mk (blk_below (g := gb476) (o := .cells #[.int .i8 0, .int .i8 0, .int .i8 0, .int .i8 0, .int .i64 0] 106 (0, 0)) (by refine blk_far ?_ NB476_477.out _; exact BK476.out) hb); have n1_ := Aside0.mk (blk_below (g := gb477) (o := .cells #[.int .i8 (IntKind.i8.wrap (a0 / 134217728)), .int .i8 (IntKind.i8.wrap (Go.bits .and .u32 (a0 / 8388608) 15)), .int .i8 (IntKind.i8.wrap (Go.bits .and .u32 (a0 / 524288) 15)), .int .i8 (IntKind.i8.wrap (Go.bits .and .u32 (a0 / 32768) 15)), .int .i64 (wrap64 ((wrap64 (Go.bits .and .u32 a0 32767)) - 32768))] 106 (0, 0)) (by refine blk_put (cs := #[.int .i8 (IntKind.i8.wrap (a0 / 134217728)), .int .i8 (IntKind.i8.wrap (Go.bits .and .u32 (a0 / 8388608) 15)), .int .i8 (IntKind.i8.wrap (Go.bits .and .u32 (a0 / 524288) 15)), .int .i8 (IntKind.i8.wrap (Go.bits .and .u32 (a0 / 32768) 15)), .int .i64 (wrap64 (Go.bits .and .u32 a0 32767))]) ?_ 4 _ rfl; exact BK477.out) hb); have n2_ := Aside0.mk (blk_below (g := gb483) (o := .cells #[.bool t478, .bool t479, .bool t480, .bool t481, .bool t482] 115 (0, 0)) (by refine blk_far ?_ NB483_477.out _; exact BK483.out) hb); have n3_ := Aside0.mk (bs1Q hb (by repeat with_reducible first | exact HB.out | apply pw_below_drewN | apply below_drew1 | refine below_set ?_ GE476.out | refine below_set ?_ GE477.out | refine below_set ?_ GE483.out)); clear BK476; clear BK477; clear BK483; clear HB; have BK476 := n0_; have BK477 := n1_; have BK483 := n2_; have HB := n3_; clear n0_ n1_ n2_ n3_; (try clear hb); (try clear hb2); (try clear hk); (try clear hi); have hnb47 := NB476_483.out; have hnc47 := NB483_476.out; obtain ⟨hcz48_0, hcz48_1, hcz48_2, hcz48_3, hcz48_4⟩ := bcQ5 BK476.out; obtain ⟨hfz48_0, hfz48_1, hfz48_2, hfz48_3, hfz48_4⟩ := fzQ5 BK476.out))
     refine bodyPost_ret (results_cell_row rfl _ _ gb476 106 #[.int .i8 (-1), .int .i8 0, .int .i8 0, .int .i8 0, .int .i64 (wrap64 (a0))] (0, 0) _ rfl (by refine blk_put (cs := #[.int .i8 (-1), .int .i8 0, .int .i8 0, .int .i8 0, .int .i64 0]) ?_ 4 _ rfl; refine blk_put (cs := #[.int .i8 (-1), .int .i8 0, .int .i8 0, .int .i8 0, .int .i64 0]) ?_ 3 _ rfl; refine blk_put (cs := #[.int .i8 (-1), .int .i8 0, .int .i8 0, .int .i8 0, .int .i64 0]) ?_ 2 _ rfl; refine blk_put (cs := #[.int .i8 (-1), .int .i8 0, .int .i8 0, .int .i8 0, .int .i64 0]) ?_ 1 _ rfl; refine blk_put (cs := #[.int .i8 0, .int .i8 0, .int .i8 0, .int .i8 0, .int .i64 0]) ?_ 0 _ rfl; exact BK476.out) Try.underlying106 rfl (by kernel_rfl)) rfl ?_
     exact ⟨by first | rfl | (simp [errW_none, errW_some] <;> rfl) | (simp [*, errW_none, errW_some] <;> rfl), by repeat with_reducible first | exact HB.out | apply pw_below_drewN | apply below_drew1 | refine below_set ?_ GE476.out | refine below_set ?_ GE477.out | refine below_set ?_ GE483.out⟩
   ·
    replace c26 := Bool.eq_false_iff.mpr c26
    subst c26
    rw [if_neg Bool.false_ne_true] at H
    replace H := Option.bind_eq_some_iff.mp H
    obtain ⟨⟨t486, t487⟩, A490, H⟩ := H
    try dsimp only at H
    have A49 := Aside0.mk A490
    clear A490
    by_cases c50 : t487 = 0
    ·
     rw [if_pos c50] at H
     have c50b0 : (t487 == 0) = true := beq_iff_eq.mpr c50
     have c50b1 : (t487 != 0) = false := bne_eq_false_iff_eq.mpr c50
     clear c50
     by_cases c51 : t486 = a0
     ·
      rw [if_pos c51] at H
      have c51b0 : (t486 == a0) = true := beq_iff_eq.mpr c51
      have c51b1 : (t486 != a0) = false := bne_eq_false_iff_eq.mpr c51
      clear c51
      simp only [Option.some.injEq, Prod.mk.injEq] at H
      obtain ⟨rfl, rfl, rfl, rfl, rfl⟩ := H
      have hnb52 := NB477_476.out
      have hnc52 := NB476_477.out
      have hnb53 := NB477_483.out
      have hnc53 := NB483_477.out
      obtain ⟨hcz54_0, hcz54_1, hcz54_2, hcz54_3, hcz54_4⟩ := bcQ5 BK477.out
      obtain ⟨hfz54_0, hfz54_1, hfz54_2, hfz54_3, hfz54_4⟩ := fzQ5 BK477.out
      go_wp2_with (first | ((with_reducible refine gate_callee (f := 77) rfl ?_); refine goesL_ (some 47) rfl rfl Try.func77 (by kernel_rfl) rfl #[.agg #[.int .i8 (IntKind.i8.wrap (a0 / 134217728)), .int .i8 (IntKind.i8.wrap (Go.bits .and .u32 (a0 / 8388608) 15)), .int .i8 (IntKind.i8.wrap (Go.bits .and .u32 (a0 / 524288) 15)), .int .i8 (IntKind.i8.wrap (Go.bits .and .u32 (a0 / 32768) 15)), .int .i64 (wrap64 (Go.bits .and .u32 a0 32767))]] rfl (by (try simp only [List.map_toArray, List.map_cons, List.map_nil]); try rfl) ?_; (with_reducible refine (pleatref02_Encode.calls kj2 (IntKind.i8.wrap (a0 / 134217728)) (IntKind.i8.wrap (Go.bits .and .u32 (a0 / 8388608) 15)) (IntKind.i8.wrap (Go.bits .and .u32 (a0 / 524288) 15)) (IntKind.i8.wrap (Go.bits .and .u32 (a0 / 32768) 15)) (wrap64 (Go.bits .and .u32 a0 32767)) t486 t487 _ A49.out).mono ?_); rintro e w55 ⟨rfl, hb⟩; refine ⟨_, rfl, ?_⟩; replace BK476 := Aside0.mk (bbQ hb BK476.out); replace BK477 := Aside0.mk (bbQ hb BK477.out); replace BK483 := Aside0.mk (bbQ hb BK483.out); replace HB := Aside0.mk (bs1Q hb (by repeat with_reducible first | exact HB.out | apply pw_below_drewN | apply below_drew1 | refine below_set ?_ GE476.out | refine below_set ?_ GE477.out | refine below_set ?_ GE483.out)); (try clear hb); (try clear hb2); (try clear hk); (try clear hi); obtain ⟨hcz56_0, hcz56_1, hcz56_2, hcz56_3, hcz56_4⟩ := bcQ5 BK477.out; obtain ⟨hfz56_0, hfz56_1, hfz56_2, hfz56_3, hfz56_4⟩ := fzQ5 BK477.out; have hnb57 := NB476_483.out; have hnc57 := NB483_476.out; obtain ⟨hcz58_0, hcz58_1, hcz58_2, hcz58_3, hcz58_4⟩ := bcQ5 BK476.out; obtain ⟨hfz58_0, hfz58_1, hfz58_2, hfz58_3, hfz58_4⟩ := fzQ5 BK476.out))
      refine bodyPost_ret (results_cell_row rfl _ _ gb476 106 #[.int .i8 (IntKind.i8.wrap (a0 / 134217728)), .int .i8 (IntKind.i8.wrap (Go.bits .and .u32 (a0 / 8388608) 15)), .int .i8 (IntKind.i8.wrap (Go.bits .and .u32 (a0 / 524288) 15)), .int .i8 (IntKind.i8.wrap (Go.bits .and .u32 (a0 / 32768) 15)), .int .i64 (wrap64 (Go.bits .and .u32 a0 32767))] (0, 0) _ rfl (by refine blk_put (cs := #[.int .i8 (IntKind.i8.wrap (a0 / 134217728)), .int .i8 (IntKind.i8.wrap (Go.bits .and .u32 (a0 / 8388608) 15)), .int .i8 (IntKind.i8.wrap (Go.bits .and .u32 (a0 / 524288) 15)), .int .i8 (IntKind.i8.wrap (Go.bits .and .u32 (a0 / 32768) 15)), .int .i64 0]) ?_ 4 _ rfl; refine blk_put (cs := #[.int .i8 (IntKind.i8.wrap (a0 / 134217728)), .int .i8 (IntKind.i8.wrap (Go.bits .and .u32 (a0 / 8388608) 15)), .int .i8 (IntKind.i8.wrap (Go.bits .and .u32 (a0 / 524288) 15)), .int .i8 0, .int .i64 0]) ?_ 3 _ rfl; refine blk_put (cs := #[.int .i8 (IntKind.i8.wrap (a0 / 134217728)), .int .i8 (IntKind.i8.wrap (Go.bits .and .u32 (a0 / 8388608) 15)), .int .i8 0, .int .i8 0, .int .i64 0]) ?_ 2 _ rfl; refine blk_put (cs := #[.int .i8 (IntKind.i8.wrap (a0 / 134217728)), .int .i8 0, .int .i8 0, .int .i8 0, .int .i64 0]) ?_ 1 _ rfl; refine blk_put (cs := #[.int .i8 0, .int .i8 0, .int .i8 0, .int .i8 0, .int .i64 0]) ?_ 0 _ rfl; exact BK476.out) Try.underlying106 rfl (by kernel_rfl)) rfl ?_
      exact ⟨by first | rfl | (simp [errW_none, errW_some] <;> rfl) | (simp [*, errW_none, errW_some] <;> rfl), by repeat with_reducible first | exact HB.out | apply pw_below_drewN | apply below_drew1 | refine below_set ?_ GE476.out | refine below_set ?_ GE477.out | refine below_set ?_ GE483.out⟩
     ·
      rw [if_neg c51] at H
      have c51b0 : (t486 == a0) = false := beq_eq_false_iff_ne.mpr c51
      have c51b1 : (t486 != a0) = true := bne_iff_ne.mpr c51
      simp only [Option.some.injEq, Prod.mk.injEq] at H
      obtain ⟨rfl, rfl, rfl, rfl, rfl⟩ := H
      have hnb59 := NB477_476.out
      have hnc59 := NB476_477.out
      have hnb60 := NB477_483.out
      have hnc60 := NB483_477.out
      obtain ⟨hcz61_0, hcz61_1, hcz61_2, hcz61_3, hcz61_4⟩ := bcQ5 BK477.out
      obtain ⟨hfz61_0, hfz61_1, hfz61_2, hfz61_3, hfz61_4⟩ := fzQ5 BK477.out
      go_wp2_with (first | ((with_reducible refine gate_callee (f := 77) rfl ?_); refine goesL_ (some 47) rfl rfl Try.func77 (by kernel_rfl) rfl #[.agg #[.int .i8 (IntKind.i8.wrap (a0 / 134217728)), .int .i8 (IntKind.i8.wrap (Go.bits .and .u32 (a0 / 8388608) 15)), .int .i8 (IntKind.i8.wrap (Go.bits .and .u32 (a0 / 524288) 15)), .int .i8 (IntKind.i8.wrap (Go.bits .and .u32 (a0 / 32768) 15)), .int .i64 (wrap64 (Go.bits .and .u32 a0 32767))]] rfl (by (try simp only [List.map_toArray, List.map_cons, List.map_nil]); try rfl) ?_; (with_reducible refine (pleatref02_Encode.calls kj2 (IntKind.i8.wrap (a0 / 134217728)) (IntKind.i8.wrap (Go.bits .and .u32 (a0 / 8388608) 15)) (IntKind.i8.wrap (Go.bits .and .u32 (a0 / 524288) 15)) (IntKind.i8.wrap (Go.bits .and .u32 (a0 / 32768) 15)) (wrap64 (Go.bits .and .u32 a0 32767)) t486 t487 _ A49.out).mono ?_); rintro e w62 ⟨rfl, hb⟩; refine ⟨_, rfl, ?_⟩; replace BK476 := Aside0.mk (bbQ hb BK476.out); replace BK477 := Aside0.mk (bbQ hb BK477.out); replace BK483 := Aside0.mk (bbQ hb BK483.out); replace HB := Aside0.mk (bs1Q hb (by repeat with_reducible first | exact HB.out | apply pw_below_drewN | apply below_drew1 | refine below_set ?_ GE476.out | refine below_set ?_ GE477.out | refine below_set ?_ GE483.out)); (try clear hb); (try clear hb2); (try clear hk); (try clear hi); have hnb63 := NB476_483.out; have hnc63 := NB483_476.out; obtain ⟨hcz64_0, hcz64_1, hcz64_2, hcz64_3, hcz64_4⟩ := bcQ5 BK476.out; obtain ⟨hfz64_0, hfz64_1, hfz64_2, hfz64_3, hfz64_4⟩ := fzQ5 BK476.out))
      refine bodyPost_ret (results_cell_row rfl _ _ gb476 106 #[.int .i8 (-1), .int .i8 0, .int .i8 0, .int .i8 0, .int .i64 (wrap64 (a0))] (0, 0) _ rfl (by refine blk_put (cs := #[.int .i8 (-1), .int .i8 0, .int .i8 0, .int .i8 0, .int .i64 0]) ?_ 4 _ rfl; refine blk_put (cs := #[.int .i8 (-1), .int .i8 0, .int .i8 0, .int .i8 0, .int .i64 0]) ?_ 3 _ rfl; refine blk_put (cs := #[.int .i8 (-1), .int .i8 0, .int .i8 0, .int .i8 0, .int .i64 0]) ?_ 2 _ rfl; refine blk_put (cs := #[.int .i8 (-1), .int .i8 0, .int .i8 0, .int .i8 0, .int .i64 0]) ?_ 1 _ rfl; refine blk_put (cs := #[.int .i8 0, .int .i8 0, .int .i8 0, .int .i8 0, .int .i64 0]) ?_ 0 _ rfl; exact BK476.out) Try.underlying106 rfl (by kernel_rfl)) rfl ?_
      exact ⟨by first | rfl | (simp [errW_none, errW_some] <;> rfl) | (simp [*, errW_none, errW_some] <;> rfl), by repeat with_reducible first | exact HB.out | apply pw_below_drewN | apply below_drew1 | refine below_set ?_ GE476.out | refine below_set ?_ GE477.out | refine below_set ?_ GE483.out⟩
    ·
     rw [if_neg c50] at H
     have c50b0 : (t487 == 0) = false := beq_eq_false_iff_ne.mpr c50
     have c50b1 : (t487 != 0) = true := bne_iff_ne.mpr c50
     simp only [Option.some.injEq, Prod.mk.injEq] at H
     obtain ⟨rfl, rfl, rfl, rfl, rfl⟩ := H
     have hnb65 := NB477_476.out
     have hnc65 := NB476_477.out
     have hnb66 := NB477_483.out
     have hnc66 := NB483_477.out
     obtain ⟨hcz67_0, hcz67_1, hcz67_2, hcz67_3, hcz67_4⟩ := bcQ5 BK477.out
     obtain ⟨hfz67_0, hfz67_1, hfz67_2, hfz67_3, hfz67_4⟩ := fzQ5 BK477.out
     go_wp2_with (first | ((with_reducible refine gate_callee (f := 77) rfl ?_); refine goesL_ (some 47) rfl rfl Try.func77 (by kernel_rfl) rfl #[.agg #[.int .i8 (IntKind.i8.wrap (a0 / 134217728)), .int .i8 (IntKind.i8.wrap (Go.bits .and .u32 (a0 / 8388608) 15)), .int .i8 (IntKind.i8.wrap (Go.bits .and .u32 (a0 / 524288) 15)), .int .i8 (IntKind.i8.wrap (Go.bits .and .u32 (a0 / 32768) 15)), .int .i64 (wrap64 (Go.bits .and .u32 a0 32767))]] rfl (by (try simp only [List.map_toArray, List.map_cons, List.map_nil]); try rfl) ?_; (with_reducible refine (pleatref02_Encode.calls kj2 (IntKind.i8.wrap (a0 / 134217728)) (IntKind.i8.wrap (Go.bits .and .u32 (a0 / 8388608) 15)) (IntKind.i8.wrap (Go.bits .and .u32 (a0 / 524288) 15)) (IntKind.i8.wrap (Go.bits .and .u32 (a0 / 32768) 15)) (wrap64 (Go.bits .and .u32 a0 32767)) t486 t487 _ A49.out).mono ?_); rintro e w68 ⟨rfl, hb⟩; refine ⟨_, rfl, ?_⟩; replace BK476 := Aside0.mk (bbQ hb BK476.out); replace BK477 := Aside0.mk (bbQ hb BK477.out); replace BK483 := Aside0.mk (bbQ hb BK483.out); replace HB := Aside0.mk (bs1Q hb (by repeat with_reducible first | exact HB.out | apply pw_below_drewN | apply below_drew1 | refine below_set ?_ GE476.out | refine below_set ?_ GE477.out | refine below_set ?_ GE483.out)); (try clear hb); (try clear hb2); (try clear hk); (try clear hi); have hnb69 := NB476_483.out; have hnc69 := NB483_476.out; obtain ⟨hcz70_0, hcz70_1, hcz70_2, hcz70_3, hcz70_4⟩ := bcQ5 BK476.out; obtain ⟨hfz70_0, hfz70_1, hfz70_2, hfz70_3, hfz70_4⟩ := fzQ5 BK476.out))
     refine bodyPost_ret (results_cell_row rfl _ _ gb476 106 #[.int .i8 (-1), .int .i8 0, .int .i8 0, .int .i8 0, .int .i64 (wrap64 (a0))] (0, 0) _ rfl (by refine blk_put (cs := #[.int .i8 (-1), .int .i8 0, .int .i8 0, .int .i8 0, .int .i64 0]) ?_ 4 _ rfl; refine blk_put (cs := #[.int .i8 (-1), .int .i8 0, .int .i8 0, .int .i8 0, .int .i64 0]) ?_ 3 _ rfl; refine blk_put (cs := #[.int .i8 (-1), .int .i8 0, .int .i8 0, .int .i8 0, .int .i64 0]) ?_ 2 _ rfl; refine blk_put (cs := #[.int .i8 (-1), .int .i8 0, .int .i8 0, .int .i8 0, .int .i64 0]) ?_ 1 _ rfl; refine blk_put (cs := #[.int .i8 0, .int .i8 0, .int .i8 0, .int .i8 0, .int .i64 0]) ?_ 0 _ rfl; exact BK476.out) Try.underlying106 rfl (by kernel_rfl)) rfl ?_
     exact ⟨by first | rfl | (simp [errW_none, errW_some] <;> rfl) | (simp [*, errW_none, errW_some] <;> rfl), by repeat with_reducible first | exact HB.out | apply pw_below_drewN | apply below_drew1 | refine below_set ?_ GE476.out | refine below_set ?_ GE477.out | refine below_set ?_ GE483.out⟩


/-! ### pleatref02_Target: function 69 -/
def pleatref02_Target.f (k : Nat) (a0 : Int) : Option (Int × Bool) := (pleatref02_Decode.f k a0).bind fun bt488 => (if bt488.1 < 0 then (some (0, false)) else ((pleatref02_Has.f k bt488.1).bind fun bt494 => (if bt494.2.2.2.2 = true then (some (bt488.2.2.2.2, true)) else (some (0, false)))))
theorem pleatref02_Target.mono : ∀ a0 k, LeO (pleatref02_Target.f k a0) (pleatref02_Target.f (k + 1) a0) := by
 intro a0 k
 unfold pleatref02_Target.f
 repeat' first
   | (with_reducible first | exact pleatref02_Decode.mono _ _ | exact pleatref02_Has.mono _ _ | exact LeO.refl _ | exact LeO.none _ | refine LeO.ite ?_ ?_ | refine LeO.bind ?_ (fun _ => ?_))
set_option maxHeartbeats 8000000 in
set_option maxRecDepth 100000 in
theorem pleatref02_Target.calls (k : Nat) (a0 : Int) (r1 : Int) (r2 : Bool) (w : World) (h : pleatref02_Target.f k a0 = some (r1, r2)) :
  Calls Try.prog 69 #[.int .u32 a0] w fun e w' => e = .returned (.tuple #[.int .i64 r1, .bool r2]) ∧ Below w.heap.size w w' := by
 have hu106 := Try.underlying106
 have hu115 := Try.underlying115
 have hfl115_4 : ∀ (c0_ c1_ c2_ c3_ c4_ : Value) (W_ : World), (Instr.field 115 (.agg #[c0_, c1_, c2_, c3_, c4_]) 4).run Try.prog W_ = .ok c4_ W_ := fun _ _ _ _ _ _ => by kernel_rfl
 have HB := Aside0.mk (Below.refl w.heap.size w)
 have H : ((pleatref02_Decode.f k a0).bind fun bt488 => (if bt488.1 < 0 then (some (0, false)) else ((pleatref02_Has.f k bt488.1).bind fun bt494 => (if bt494.2.2.2.2 = true then (some (bt488.2.2.2.2, true)) else (some (0, false)))))) = some (r1, r2) := h
 clear h
 replace H := Option.bind_eq_some_iff.mp H
 obtain ⟨⟨t488, t489, t490, t491, t492⟩, A20, H⟩ := H
 try dsimp only at H
 have A2 := Aside0.mk A20
 clear A20
 by_cases c3 : t488 < 0
 ·
  rw [if_pos c3] at H
  have c3b0 : decide (t488 < 0) = true := decide_eq_true c3
  clear c3
  simp only [Option.some.injEq, Prod.mk.injEq] at H
  obtain ⟨rfl, rfl⟩ := H
  go_enter Try.func69, Try.ntmps69
  go_wp2_with (first | ((with_reducible refine gate_callee (f := 74) rfl ?_); refine goesL_ (some 6) rfl rfl Try.func74 (by kernel_rfl) rfl #[.int .u32 a0] rfl (by (try simp only [List.map_toArray, List.map_cons, List.map_nil]); try rfl) ?_; (with_reducible refine (pleatref02_Decode.calls k a0 t488 t489 t490 t491 t492 _ A2.out).mono ?_); rintro e w4 ⟨rfl, hb⟩; refine ⟨_, rfl, ?_⟩; replace HB := Aside0.mk (bsQ hb HB.out); (try clear hb); (try clear hb2); (try clear hk); (try clear hi)) | ((with_reducible refine gate_dst (N := 4) rfl ?_); refine box_event ?hg (N := 4) ?hd (cs := #[.int .i8 0, .int .i8 0, .int .i8 0, .int .i8 0, .int .i64 0]) (t := 106) ?hr ?_; (case hd => rfl); (case hg => rfl); (case hr => go_simp; try rfl); intro gb493 hg w5 hbox hb; have BK493 := Aside0.mk (hbox); have GW493 := Aside0.mk (gwQ hg HB.out); have GE493 := Aside0.mk (gwQ hg HB.out); replace HB := Aside0.mk (bsQ hb HB.out); clear hb hbox hg; obtain ⟨hcz6_0, hcz6_1, hcz6_2, hcz6_3, hcz6_4⟩ := bcQ5 BK493.out; obtain ⟨hfz6_0, hfz6_1, hfz6_2, hfz6_3, hfz6_4⟩ := fzQ5 BK493.out))
  go_ret2
  exact ⟨by first | rfl | (simp [errW_none, errW_some] <;> rfl) | (simp [*, errW_none, errW_some] <;> rfl), by repeat with_reducible first | exact HB.out | apply pw_below_drewN | apply below_drew1 | refine below_set ?_ GE493.out⟩
 ·
  rw [if_neg c3] at H
  have c3b0 : decide (t488 < 0) = false := decide_eq_false c3
  clear c3
  replace H := Option.bind_eq_some_iff.mp H
  obtain ⟨⟨t494, t495, t496, t497, t498⟩, A70, H⟩ := H
  try dsimp only at H
  have A7 := Aside0.mk A70
  clear A70
  by_cases c8 : t498 = true
  ·
   subst c8
   rw [if_pos rfl] at H
   simp only [Option.some.injEq, Prod.mk.injEq] at H
   obtain ⟨rfl, rfl⟩ := H
   go_enter Try.func69, Try.ntmps69
   go_wp2_with (first | ((with_reducible refine gate_callee (f := 74) rfl ?_); refine goesL_ (some 6) rfl rfl Try.func74 (by kernel_rfl) rfl #[.int .u32 a0] rfl (by (try simp only [List.map_toArray, List.map_cons, List.map_nil]); try rfl) ?_; (with_reducible refine (pleatref02_Decode.calls k a0 t488 t489 t490 t491 t492 _ A2.out).mono ?_); rintro e w9 ⟨rfl, hb⟩; refine ⟨_, rfl, ?_⟩; replace HB := Aside0.mk (bsQ hb HB.out); (try clear hb); (try clear hb2); (try clear hk); (try clear hi)) | ((with_reducible refine gate_dst (N := 4) rfl ?_); refine box_event ?hg (N := 4) ?hd (cs := #[.int .i8 0, .int .i8 0, .int .i8 0, .int .i8 0, .int .i64 0]) (t := 106) ?hr ?_; (case hd => rfl); (case hg => rfl); (case hr => go_simp; try rfl); intro gb493 hg w10 hbox hb; have BK493 := Aside0.mk (hbox); have GW493 := Aside0.mk (gwQ hg HB.out); have GE493 := Aside0.mk (gwQ hg HB.out); replace HB := Aside0.mk (bsQ hb HB.out); clear hb hbox hg; obtain ⟨hcz11_0, hcz11_1, hcz11_2, hcz11_3, hcz11_4⟩ := bcQ5 BK493.out; obtain ⟨hfz11_0, hfz11_1, hfz11_2, hfz11_3, hfz11_4⟩ := fzQ5 BK493.out) | (go_at_call 75; (with_reducible refine (pleatref02_Has.calls k t488 t494 t495 t496 t497 true _ A7.out).mono ?_); rintro e w12 ⟨rfl, hb⟩; have n0_ := Aside0.mk (blk_below (g := gb493) (o := .cells #[.int .i8 t488, .int .i8 t489, .int .i8 t490, .int .i8 t491, .int .i64 t492] 106 (0, 0)) (by refine blk_put (cs := #[.int .i8 t488, .int .i8 t489, .int .i8 t490, .int .i8 t491, .int .i64 0]) ?_ 4 _ rfl; refine blk_put (cs := #[.int .i8 t488, .int .i8 t489, .int .i8 t490, .int .i8 0, .int .i64 0]) ?_ 3 _ rfl; refine blk_put (cs := #[.int .i8 t488, .int .i8 t489, .int .i8 0, .int .i8 0, .int .i64 0]) ?_ 2 _ rfl; refine blk_put (cs := #[.int .i8 t488, .int .i8 0, .int .i8 0, .int .i8 0, .int .i64 0]) ?_ 1 _ rfl; refine blk_put (cs := #[.int .i8 0, .int .i8 0, .int .i8 0, .int .i8 0, .int .i64 0]) ?_ 0 _ rfl; exact BK493.out) hb); have n1_ := Aside0.mk (bs1Q hb (by repeat with_reducible first | exact HB.out | apply pw_below_drewN | apply below_drew1 | refine below_set ?_ GE493.out)); clear BK493; clear HB; have BK493 := n0_; have HB := n1_; clear n0_ n1_; (try clear hb); (try clear hb2); (try clear hk); (try clear hi); obtain ⟨hcz13_0, hcz13_1, hcz13_2, hcz13_3, hcz13_4⟩ := bcQ5 BK493.out; obtain ⟨hfz13_0, hfz13_1, hfz13_2, hfz13_3, hfz13_4⟩ := fzQ5 BK493.out))
   go_ret2
   exact ⟨by first | rfl | (simp [errW_none, errW_some] <;> rfl) | (simp [*, errW_none, errW_some] <;> rfl), by repeat with_reducible first | exact HB.out | apply pw_below_drewN | apply below_drew1 | refine below_set ?_ GE493.out⟩
  ·
   replace c8 := Bool.eq_false_iff.mpr c8
   subst c8
   rw [if_neg Bool.false_ne_true] at H
   simp only [Option.some.injEq, Prod.mk.injEq] at H
   obtain ⟨rfl, rfl⟩ := H
   go_enter Try.func69, Try.ntmps69
   go_wp2_with (first | ((with_reducible refine gate_callee (f := 74) rfl ?_); refine goesL_ (some 6) rfl rfl Try.func74 (by kernel_rfl) rfl #[.int .u32 a0] rfl (by (try simp only [List.map_toArray, List.map_cons, List.map_nil]); try rfl) ?_; (with_reducible refine (pleatref02_Decode.calls k a0 t488 t489 t490 t491 t492 _ A2.out).mono ?_); rintro e w14 ⟨rfl, hb⟩; refine ⟨_, rfl, ?_⟩; replace HB := Aside0.mk (bsQ hb HB.out); (try clear hb); (try clear hb2); (try clear hk); (try clear hi)) | ((with_reducible refine gate_dst (N := 4) rfl ?_); refine box_event ?hg (N := 4) ?hd (cs := #[.int .i8 0, .int .i8 0, .int .i8 0, .int .i8 0, .int .i64 0]) (t := 106) ?hr ?_; (case hd => rfl); (case hg => rfl); (case hr => go_simp; try rfl); intro gb493 hg w15 hbox hb; have BK493 := Aside0.mk (hbox); have GW493 := Aside0.mk (gwQ hg HB.out); have GE493 := Aside0.mk (gwQ hg HB.out); replace HB := Aside0.mk (bsQ hb HB.out); clear hb hbox hg; obtain ⟨hcz16_0, hcz16_1, hcz16_2, hcz16_3, hcz16_4⟩ := bcQ5 BK493.out; obtain ⟨hfz16_0, hfz16_1, hfz16_2, hfz16_3, hfz16_4⟩ := fzQ5 BK493.out) | (go_at_call 75; (with_reducible refine (pleatref02_Has.calls k t488 t494 t495 t496 t497 false _ A7.out).mono ?_); rintro e w17 ⟨rfl, hb⟩; have n0_ := Aside0.mk (blk_below (g := gb493) (o := .cells #[.int .i8 t488, .int .i8 t489, .int .i8 t490, .int .i8 t491, .int .i64 t492] 106 (0, 0)) (by refine blk_put (cs := #[.int .i8 t488, .int .i8 t489, .int .i8 t490, .int .i8 t491, .int .i64 0]) ?_ 4 _ rfl; refine blk_put (cs := #[.int .i8 t488, .int .i8 t489, .int .i8 t490, .int .i8 0, .int .i64 0]) ?_ 3 _ rfl; refine blk_put (cs := #[.int .i8 t488, .int .i8 t489, .int .i8 0, .int .i8 0, .int .i64 0]) ?_ 2 _ rfl; refine blk_put (cs := #[.int .i8 t488, .int .i8 0, .int .i8 0, .int .i8 0, .int .i64 0]) ?_ 1 _ rfl; refine blk_put (cs := #[.int .i8 0, .int .i8 0, .int .i8 0, .int .i8 0, .int .i64 0]) ?_ 0 _ rfl; exact BK493.out) hb); have n1_ := Aside0.mk (bs1Q hb (by repeat with_reducible first | exact HB.out | apply pw_below_drewN | apply below_drew1 | refine below_set ?_ GE493.out)); clear BK493; clear HB; have BK493 := n0_; have HB := n1_; clear n0_ n1_; (try clear hb); (try clear hb2); (try clear hk); (try clear hi)))
   go_ret2
   exact ⟨by first | rfl | (simp [errW_none, errW_some] <;> rfl) | (simp [*, errW_none, errW_some] <;> rfl), by repeat with_reducible first | exact HB.out | apply pw_below_drewN | apply below_drew1 | refine below_set ?_ GE493.out⟩
end Go.Proofs.Ytiaohbbafaaibab.P

/- OWN TEXT: the instructions over plain numbers: what the program's and the reference's functions come to. -/
set_option linter.unusedVariables false
set_option linter.unusedSimpArgs false
namespace Go.Proofs.Ytiaohbbafaaibab.P
open Go.RowKit Go.Proofs.YtiaohbbafaaibabW.PrintWords

def hasF (op : Int) : Int := if op < 0 then 0 else if op ≥ 22 then 0 else hasT op
theorem has1 (op : Int) : isa_has.f op = some (hasF op) := by
 unfold isa_has.f hasF
 repeat' split
 all_goals rfl
/-- Is a bit of a word of fields set? -/
def bitF (f m : Int) : Bool := Go.bits .and .i64 f m != 0
def tup (op : Int) : Bool × Bool × Bool × Bool × Bool := (bitF (hasF op) 1, bitF (hasF op) 2, bitF (hasF op) 4, bitF (hasF op) 8, bitF (hasF op) 16)
theorem ops22 {p : Int → Prop} (h : ∀ n : Fin 22, p (n.val : Int)) {op : Int} (h0 : 0 ≤ op) (h1 : op < 22) : p op := by
 have := h ⟨op.toNat, by omega⟩
 rwa [show ((⟨op.toNat, by omega⟩ : Fin 22).val : Int) = op from Int.toNat_of_nonneg h0] at this
theorem has2_in : ∀ n : Fin 22, pleatref02_Has.f 8 (n.val : Int) = some (tup (n.val : Int)) := by decide +kernel
theorem tup_out {op : Int} (h : op < 0 ∨ 22 ≤ op) : tup op = (false, false, false, false, false) := by
  have e : hasF op = 0 := by unfold hasF; repeat' split
                             all_goals first | rfl | omega
  unfold tup
  rw [e]
  decide +kernel
theorem has2 (op : Int) : Ev (fun k => pleatref02_Has.f k op) (tup op) := by
 by_cases h : 0 ≤ op ∧ op < 22
 ·
  exact ops22 (p := fun op => Ev (fun k => pleatref02_Has.f k op) (tup op)) (fun n => Ev.of (pleatref02_Has.mono _) (has2_in n)) h.1 h.2
 ·
  rw [tup_out (by omega)]
  refine Ev.of (k := 8) (pleatref02_Has.mono _) ?_
  simp only [pleatref02_Has.f, pleatref02_Has.j0, pleatref02_Has.j1, pleatref02_Has.j2]
  repeat (rw [if_neg (by first | omega | (simp; omega))])

theorem bit_place_in : ∀ n : Fin 22, bitF (hasF (n.val : Int)) 16 = true → bitF (hasF (n.val : Int)) 8 = true := by decide +kernel
theorem bit_place {op : Int} (h : bitF (hasF op) 16 = true) : bitF (hasF op) 8 = true := by
 by_cases hr : 0 ≤ op ∧ op < 22
 ·
  exact ops22 (p := fun op => bitF (hasF op) 16 = true → bitF (hasF op) 8 = true) bit_place_in hr.1 hr.2 h
 ·
  have e := tup_out (op := op) (by omega)
  have : bitF (hasF op) 16 = false := congrArg (fun t : Bool × Bool × Bool × Bool × Bool => t.2.2.2.2) e
  rw [this] at h
  cases h
theorem hasF_in {op : Int} (h0 : 0 ≤ op) (h1 : op < 22) : hasF op = hasT op := by unfold hasF; rw [if_neg (by omega), if_neg (by omega)]

theorem and_u32 (i : Nat) (hi : i ≤ 32) {x : Int} (h0 : 0 ≤ x) (h1 : x < 4294967296) : Go.bits .and .u32 x (2 ^ i - 1) = x % 2 ^ i :=
 Go.bits_mask .u32 32 (by decide) (fun n a b => by rw [IntKind.wrap_u32]; omega) i hi x h0 (by omega)
theorem and_15 {x : Int} (h0 : 0 ≤ x) (h1 : x < 4294967296) : Go.bits .and .u32 x 15 = x % 16 := and_u32 4 (by decide) h0 h1
theorem and_32767 {x : Int} (h0 : 0 ≤ x) (h1 : x < 4294967296) : Go.bits .and .u32 x 32767 = x % 32768 := and_u32 15 (by decide) h0 h1
theorem or_u32 (i : Nat) {x y : Int} (hx0 : 0 ≤ x) (hx : x % 2 ^ i = 0) (hx1 : x < 4294967296) (hy0 : 0 ≤ y) (hy : y < 2 ^ i) (hy1 : y < 4294967296) : Go.bits .or .u32 x y = x + y :=
 Go.bits_join .u32 32 (by decide) (fun n a b => by rw [IntKind.wrap_u32]; omega) i x y hx0 hx (by omega) hy0 hy (by omega)
def wordS (op d a b n : Int) : Int := op * 134217728 + d * 8388608 + a * 524288 + b * 32768 + n % 32768
theorem encW_eq {op d a b n : Int} (h0 : 0 ≤ op) (h1 : op < 22) (d0 : 0 ≤ d) (d1 : d < 16) (a0 : 0 ≤ a) (a1 : a < 16) (b0 : 0 ≤ b) (b1 : b < 16) : encW op d a b n = wordS op d a b n := by
 unfold encW wordS
 rw [and_32767 (by omega) (by omega), or_u32 27 (x := op * 134217728) (y := d * 8388608) (by omega) (by omega) (by omega) (by omega) (by omega) (by omega),
  or_u32 23 (x := op * 134217728 + d * 8388608) (y := a * 524288) (by omega) (by omega) (by omega) (by omega) (by omega) (by omega),
  or_u32 19 (x := op * 134217728 + d * 8388608 + a * 524288) (y := b * 32768) (by omega) (by omega) (by omega) (by omega) (by omega) (by omega),
  or_u32 15 (y := n % 4294967296 % 32768) (by omega) (by omega) (by omega) (by omega) (by omega) (by omega)]
 omega
def encS (op d a b n : Int) : Int × Int := if op < 0 then (0, 10) else if op ≥ 22 then (0, 10) else if BadIns (hasT op) d a b n then (0, 11) else (wordS op d a b n, 0)
theorem not_bad {f d a b n : Int} (h : ¬ BadIns f d a b n) : (0 ≤ d ∧ d < 16) ∧ (0 ≤ a ∧ a < 16) ∧ (0 ≤ b ∧ b < 16) ∧ lowT f ≤ n ∧ n ≤ highT f := by
 unfold BadIns badReg at h
 omega
theorem enc1 (op d a b n : Int) : isa_Encode.f op d a b n = some (encS op d a b n) := by
 unfold isa_Encode.f encS
 split
 ·
  rfl
 ·
  split
  ·
   rfl
  ·
   split
   ·
    rfl
   ·
    rename_i h1 h2 h3
    obtain ⟨⟨d0, d1⟩, ⟨a0, a1⟩, ⟨b0, b1⟩, _⟩ := not_bad h3
    rw [encW_eq (by omega) (by omega) d0 d1 a0 a1 b0 b1]
theorem low_range (f : Int) : -16384 ≤ lowT f ∧ highT f ≤ 16383 := by
 unfold lowT highT
 repeat' split
 all_goals omega

theorem reg2 (f m r : Int) : pleatref02_register.f (bitF f m) r = some (decide (¬ badReg f r m)) := by
 unfold pleatref02_register.f badReg bitF
 by_cases h : Go.bits .and .i64 f m = 0
 ·
  have e : (Go.bits .and .i64 f m != 0) = false := by simp [h]
  rw [e, if_neg (by decide)]
  congr 1
  rw [Bool.eq_iff_iff]
  simp [h]
  omega
 ·
  have e : (Go.bits .and .i64 f m != 0) = true := by simp [h]
  rw [e, if_pos rfl]
  by_cases h2 : r ≥ 0
  ·
   rw [if_pos h2]
   congr 1
   rw [Bool.eq_iff_iff]
   simp [h]
   omega
  ·
   rw [if_neg h2]
   congr 1
   rw [Bool.eq_iff_iff]
   simp [h]
   omega

theorem num2 (op n : Int) : pleatref02_number.f (bitF (hasF op) 1) (bitF (hasF op) 2) (bitF (hasF op) 4) (bitF (hasF op) 8) (bitF (hasF op) 16) n = some (decide (¬ (n < lowT (hasF op) ∨ n > highT (hasF op)))) := by
 have hp := bit_place (op := op)
 unfold pleatref02_number.f lowT highT
 unfold bitF at hp ⊢
 by_cases h8 : Go.bits .and .i64 (hasF op) 8 = 0
 ·
  have h16 : Go.bits .and .i64 (hasF op) 16 = 0 := by
   rcases Decidable.em (Go.bits .and .i64 (hasF op) 16 = 0) with h | h
   ·
    exact h
   ·
    have := hp (by simp [h])
    simp [h8] at this
  have e : (Go.bits .and .i64 (hasF op) 8 != 0) = false := by simp [h8]
  rw [e, if_neg (by decide)]
  congr 1
  rw [Bool.eq_iff_iff]
  simp [h8, h16]
  omega
 ·
  have e : (Go.bits .and .i64 (hasF op) 8 != 0) = true := by simp [h8]
  rw [e, if_pos rfl]
  by_cases h16 : Go.bits .and .i64 (hasF op) 16 = 0
  ·
   have e : (Go.bits .and .i64 (hasF op) 16 != 0) = false := by simp [h16]
   rw [e, if_neg (by decide), if_pos h16, if_pos h16, if_neg h8, if_neg h8]
   by_cases h2 : n ≥ -16384
   ·
    rw [if_pos h2]; congr 1; rw [Bool.eq_iff_iff]; simp; omega
   ·
    rw [if_neg h2]; congr 1; rw [Bool.eq_iff_iff]; simp; omega
  ·
   have e : (Go.bits .and .i64 (hasF op) 16 != 0) = true := by simp [h16]
   rw [e, if_pos rfl, if_neg h16, if_neg h16]
   by_cases h2 : n ≥ 0
   ·
    rw [if_pos h2]; congr 1; rw [Bool.eq_iff_iff]; simp; omega
   ·
    rw [if_neg h2]; congr 1; rw [Bool.eq_iff_iff]; simp; omega


theorem enc2 (op d a b n : Int) : Ev (fun k => pleatref02_Encode.f k op d a b n) (encS op d a b n) := by
  have j1f : (0 ≤ op ∧ op < 22) → ¬ BadIns (hasT op) d a b n → Ev (fun k => pleatref02_Encode.j1 k false op d a b n) (wordS op d a b n, 0) := fun ho hb => by
    obtain ⟨⟨d0, d1⟩, ⟨a0, a1⟩, ⟨b0, b1⟩, n0, n1⟩ := not_bad hb
    have hl := low_range (hasT op)
    refine Ev.succ ?_
    simp only [pleatref02_Encode.j1]
    refine Ev.iteF (by decide) (Ev.ite2 (fun hn => Ev.val ?_) (fun hn => Ev.val ?_))
    · rw [wrap64_id (x := n + 32768) (by omega) (by omega)]
      unfold wordS
      refine Prod.ext ?_ rfl
      show _ = _
      omega
    · unfold wordS
      refine Prod.ext ?_ rfl
      show _ = _
      omega
  have j1t : Ev (fun k => pleatref02_Encode.j1 k true op d a b n) (0, 11) := by
    refine Ev.succ ?_
    simp only [pleatref02_Encode.j1]
    exact Ev.iteT trivial (Ev.val rfl)
  have j0t : Ev (fun k => pleatref02_Encode.j0 k true op d a b n) (0, 10) := by
    refine Ev.succ ?_
    simp only [pleatref02_Encode.j0]
    exact Ev.iteT trivial (Ev.val rfl)
  have j0f : (0 ≤ op ∧ op < 22) → Ev (fun k => pleatref02_Encode.j0 k false op d a b n) (if BadIns (hasT op) d a b n then (0, 11) else (wordS op d a b n, 0)) := fun ho => by
    have hF := hasF_in ho.1 ho.2
    refine Ev.succ ?_
    simp only [pleatref02_Encode.j0]
    refine Ev.iteF (by decide) (Ev.bind (has2 op) ?_)
    simp only [tup]
    refine Ev.bind0 (reg2 _ _ _) (Ev.ite2 (fun h1 => ?_) (fun h1 => ?_))
    · refine Ev.bind0 (reg2 _ _ _) (Ev.ite2 (fun h2 => ?_) (fun h2 => ?_))
      · refine Ev.bind0 (reg2 _ _ _) (Ev.ite2 (fun h3 => ?_) (fun h3 => ?_))
        · refine Ev.bind0 (num2 op n) ?_
          have g1 := of_decide_eq_true h1
          have g2 := of_decide_eq_true h2
          have g3 := of_decide_eq_true h3
          by_cases h4 : n < lowT (hasF op) ∨ n > highT (hasF op)
          · rw [if_pos (by rw [hF] at h4; exact .inr (.inr (.inr h4)))]
            have e : (!decide (¬ (n < lowT (hasF op) ∨ n > highT (hasF op)))) = true := by simpa using h4
            rw [e]
            exact j1t
          · have hb : ¬ BadIns (hasT op) d a b n := fun h => by
              rw [hF] at g1 g2 g3 h4
              rcases h with h | h | h | h
              · exact g1 h
              · exact g2 h
              · exact g3 h
              · exact h4 h
            rw [if_neg hb]
            have e : (!decide (¬ (n < lowT (hasF op) ∨ n > highT (hasF op)))) = false := by simpa using h4
            rw [e]
            exact j1f ho hb
        · have g := fun h => h3 (decide_eq_true h)
          rw [if_pos (by rw [hF] at g; exact .inr (.inr (.inl (Decidable.of_not_not g))))]
          exact j1t
      · have g := fun h => h2 (decide_eq_true h)
        rw [if_pos (by rw [hF] at g; exact .inr (.inl (Decidable.of_not_not g)))]
        exact j1t
    · have g := fun h => h1 (decide_eq_true h)
      rw [if_pos (by rw [hF] at g; exact .inl (Decidable.of_not_not g))]
      exact j1t
  unfold pleatref02_Encode.f encS
  refine Ev.ite2 (fun h => ?_) (fun h => ?_)
  · rw [if_pos h]
    exact j0t
  · rw [if_neg h]
    by_cases h2 : op ≥ 22
    · rw [if_pos h2, show (decide (op > 21)) = true from decide_eq_true (by omega)]
      exact j0t
    · rw [if_neg h2, show (decide (op > 21)) = false from decide_eq_false (by omega)]
      exact j0f ⟨by omega, by omega⟩


theorem i8_id {x : Int} (h0 : -128 ≤ x) (h1 : x ≤ 127) : IntKind.i8.wrap x = x := by
 simp [IntKind.wrap, IntKind.bits, IntKind.signed]
 omega
/-- The number of a word, its sign as its op has it. -/
def nS (w : Int) : Int := if bitF (hasF (w / 134217728)) 8 = true ∧ bitF (hasF (w / 134217728)) 16 = false ∧ 16384 ≤ w % 32768 then w % 32768 - 32768 else w % 32768
def decS (w : Int) : Int × Int × Int × Int × Int :=
 if encS (w / 134217728) (w / 8388608 % 16) (w / 524288 % 16) (w / 32768 % 16) (nS w) = (w, 0) then (w / 134217728, w / 8388608 % 16, w / 524288 % 16, w / 32768 % 16, nS w) else (-1, 0, 0, 0, w)
def decJ (w : Int) (b : Bool) (op d a c m : Int) : Int × Int × Int × Int × Int := if encS op d a c (if b = true then m - 32768 else m) = (w, 0) then (op, d, a, c, if b = true then m - 32768 else m) else (-1, 0, 0, 0, w)
theorem decJ1 {w : Int} (w0 : 0 ≤ w) (w1 : w < 4294967296) (b : Bool) (op d a c m : Int) (m0 : 0 ≤ m) (m1 : m < 32768) : Ev (fun k => isa_Decode.j0 k w b op d a c m) (decJ w b op d a c m) := by
 have hw : wrap64 w = w := wrap64_id (by omega) (by omega)
 have hm : wrap64 (m - 32768) = m - 32768 := wrap64_id (by omega) (by omega)
 refine Ev.succ ?_
 simp only [isa_Decode.j0, hw, hm]
 cases b with
 | true =>
  refine Ev.iteT rfl (Ev.bind0 (enc1 _ _ _ _ _) ?_)
  unfold decJ
  simp only [if_true]
  refine Ev.ite2 (fun h2 => Ev.ite2 (fun h1 => Ev.val ?_) (fun h1 => Ev.val ?_)) (fun h2 => Ev.val ?_)
  ·
   rw [if_pos (Prod.ext h1 h2)]
  ·
   rw [if_neg (fun h => h1 (by rw [h]))]
  ·
   rw [if_neg (fun h => h2 (by rw [h]))]
 | false =>
  refine Ev.iteF (by decide) (Ev.bind0 (enc1 _ _ _ _ _) ?_)
  unfold decJ
  simp only [Bool.false_eq_true, if_false]
  refine Ev.ite2 (fun h2 => Ev.ite2 (fun h1 => Ev.val ?_) (fun h1 => Ev.val ?_)) (fun h2 => Ev.val ?_)
  ·
   rw [if_pos (Prod.ext h1 h2)]
  ·
   rw [if_neg (fun h => h1 (by rw [h]))]
  ·
   rw [if_neg (fun h => h2 (by rw [h]))]
theorem decJ2 {w : Int} (w0 : 0 ≤ w) (w1 : w < 4294967296) (b : Bool) (op d a c m : Int) (m0 : 0 ≤ m) (m1 : m < 32768) : Ev (fun k => pleatref02_Decode.j0 k w b op d a c m) (decJ w b op d a c m) := by
 have hw : wrap64 w = w := wrap64_id (by omega) (by omega)
 have hm : wrap64 (m - 32768) = m - 32768 := wrap64_id (by omega) (by omega)
 refine Ev.succ ?_
 simp only [pleatref02_Decode.j0, hw, hm]
 cases b with
 | true =>
  refine Ev.iteT rfl (Ev.bind (enc2 _ _ _ _ _) ?_)
  unfold decJ
  simp only [if_true]
  refine Ev.ite2 (fun h2 => Ev.ite2 (fun h1 => Ev.val ?_) (fun h1 => Ev.val ?_)) (fun h2 => Ev.val ?_)
  ·
   rw [if_pos (Prod.ext h1 h2)]
  ·
   rw [if_neg (fun h => h1 (by rw [h]))]
  ·
   rw [if_neg (fun h => h2 (by rw [h]))]
 | false =>
  refine Ev.iteF (by decide) (Ev.bind (enc2 _ _ _ _ _) ?_)
  unfold decJ
  simp only [Bool.false_eq_true, if_false]
  refine Ev.ite2 (fun h2 => Ev.ite2 (fun h1 => Ev.val ?_) (fun h1 => Ev.val ?_)) (fun h2 => Ev.val ?_)
  ·
   rw [if_pos (Prod.ext h1 h2)]
  ·
   rw [if_neg (fun h => h1 (by rw [h]))]
  ·
   rw [if_neg (fun h => h2 (by rw [h]))]

theorem parts {w : Int} (w0 : 0 ≤ w) (w1 : w < 4294967296) : IntKind.i8.wrap (w / 134217728) = w / 134217728 ∧ IntKind.i8.wrap (Go.bits .and .u32 (w / 8388608) 15) = w / 8388608 % 16 ∧ IntKind.i8.wrap (Go.bits .and .u32 (w / 524288) 15) = w / 524288 % 16 ∧
  IntKind.i8.wrap (Go.bits .and .u32 (w / 32768) 15) = w / 32768 % 16 ∧ wrap64 (Go.bits .and .u32 w 32767) = w % 32768 := by
 rw [and_15 (by omega) (by omega), and_15 (by omega) (by omega), and_15 (by omega) (by omega), and_32767 w0 w1]
 exact ⟨i8_id (by omega) (by omega), i8_id (by omega) (by omega), i8_id (by omega) (by omega), i8_id (by omega) (by omega), wrap64_id (by omega) (by omega)⟩
theorem dec1 {w : Int} (w0 : 0 ≤ w) (w1 : w < 4294967296) : Ev (fun k => isa_Decode.f k w) (decS w) := by
 have m0 : 0 ≤ w % 32768 := by omega
 have m1 : w % 32768 < 32768 := by omega
 obtain ⟨p1, p2, p3, p4, p5⟩ := parts w0 w1
 have J := fun b => decJ1 w0 w1 b (w / 134217728) (w / 8388608 % 16) (w / 524288 % 16) (w / 32768 % 16) (w % 32768) m0 m1
 have E0 : (bitF (hasF (w / 134217728)) 8 = true ∧ bitF (hasF (w / 134217728)) 16 = false ∧ 16384 ≤ w % 32768) → decJ w true (w / 134217728) (w / 8388608 % 16) (w / 524288 % 16) (w / 32768 % 16) (w % 32768) = decS w := fun h => by
  unfold decJ decS nS
  simp only [if_pos h, if_true]
 have E1 : ¬ (bitF (hasF (w / 134217728)) 8 = true ∧ bitF (hasF (w / 134217728)) 16 = false ∧ 16384 ≤ w % 32768) → decJ w false (w / 134217728) (w / 8388608 % 16) (w / 524288 % 16) (w / 32768 % 16) (w % 32768) = decS w := fun h => by
  unfold decJ decS nS
  simp only [if_neg h, Bool.false_eq_true, if_false]
 unfold isa_Decode.f
 rw [p1, p2, p3, p4, p5]
 refine Ev.bind0 (has1 _) (Ev.ite2 (fun h8 => ?_) (fun h8 => Ev.ite2 (fun h16 => ?_) (fun h16 => ?_)))
 ·
  exact Ev.to (J false) (E1 (fun h => by simp [bitF, h8] at h))
 ·
  by_cases hm : w % 32768 ≥ 16384
  ·
   rw [show decide (w % 32768 ≥ 16384) = true from decide_eq_true hm]
   exact Ev.to (J true) (E0 ⟨by simp [bitF, h8], by simp [bitF, h16], hm⟩)
  ·
   rw [show decide (w % 32768 ≥ 16384) = false from decide_eq_false hm]
   exact Ev.to (J false) (E1 (fun h => hm h.2.2))
 ·
  exact Ev.to (J false) (E1 (fun h => by simp [bitF, h16] at h))
theorem dec2 {w : Int} (w0 : 0 ≤ w) (w1 : w < 4294967296) : Ev (fun k => pleatref02_Decode.f k w) (decS w) := by
 have m0 : 0 ≤ w % 32768 := by omega
 have m1 : w % 32768 < 32768 := by omega
 obtain ⟨p1, p2, p3, p4, p5⟩ := parts w0 w1
 have J := fun b => decJ2 w0 w1 b (w / 134217728) (w / 8388608 % 16) (w / 524288 % 16) (w / 32768 % 16) (w % 32768) m0 m1
 have E0 : (bitF (hasF (w / 134217728)) 8 = true ∧ bitF (hasF (w / 134217728)) 16 = false ∧ 16384 ≤ w % 32768) → decJ w true (w / 134217728) (w / 8388608 % 16) (w / 524288 % 16) (w / 32768 % 16) (w % 32768) = decS w := fun h => by
  unfold decJ decS nS
  simp only [if_pos h, if_true]
 have E1 : ¬ (bitF (hasF (w / 134217728)) 8 = true ∧ bitF (hasF (w / 134217728)) 16 = false ∧ 16384 ≤ w % 32768) → decJ w false (w / 134217728) (w / 8388608 % 16) (w / 524288 % 16) (w / 32768 % 16) (w % 32768) = decS w := fun h => by
  unfold decJ decS nS
  simp only [if_neg h, Bool.false_eq_true, if_false]
 unfold pleatref02_Decode.f
 rw [p1, p2, p3, p4, p5]
 refine Ev.bind (has2 _) ?_
 simp only [tup]
 refine Ev.ite2 (fun h8 => Ev.ite2 (fun h16 => ?_) (fun h16 => ?_)) (fun h8 => ?_)
 ·
  exact Ev.to (J false) (E1 (fun h => by rw [h16] at h; cases h.2.1))
 ·
  by_cases hm : w % 32768 ≥ 16384
  ·
   rw [show decide (w % 32768 ≥ 16384) = true from decide_eq_true hm]
   exact Ev.to (J true) (E0 ⟨h8, by simpa using h16, hm⟩)
  ·
   rw [show decide (w % 32768 ≥ 16384) = false from decide_eq_false hm]
   exact Ev.to (J false) (E1 (fun h => hm h.2.2))
 ·
  exact Ev.to (J false) (E1 (fun h => h8 h.1))

def tgtS (w : Int) : Int × Bool := if bitF (hasF (decS w).1) 16 = true then ((decS w).2.2.2.2, true) else (0, false)
theorem tgt1 {w : Int} (w0 : 0 ≤ w) (w1 : w < 4294967296) : Ev (fun k => isa_Target.f k w) (tgtS w) := by
 unfold isa_Target.f tgtS
 refine Ev.bind (dec1 w0 w1) (Ev.bind0 (has1 _) (Ev.ite2 (fun h => Ev.val ?_) (fun h => Ev.val ?_)))
 ·
  rw [if_neg (by simp [bitF, h])]
 ·
  rw [if_pos (by simp [bitF, h])]
theorem tgt2 {w : Int} (w0 : 0 ≤ w) (w1 : w < 4294967296) : Ev (fun k => pleatref02_Target.f k w) (tgtS w) := by
 unfold pleatref02_Target.f tgtS
 refine Ev.bind (dec2 w0 w1) (Ev.ite2 (fun h => Ev.val ?_) (fun h => Ev.bind (has2 _) ?_))
 ·
  have e := tup_out (op := (decS w).1) (.inl h)
  have : bitF (hasF (decS w).1) 16 = false := congrArg (fun t : Bool × Bool × Bool × Bool × Bool => t.2.2.2.2) e
  rw [this]
  rfl
 ·
  simp only [tup]
  exact Ev.ite2 (fun h => Ev.val (by rw [if_pos h])) (fun h => Ev.val (by rw [if_neg h]))

end Go.Proofs.Ytiaohbbafaaibab.P

/- OWN TEXT: whether an object may be, over plain lists: what object.Check comes to. -/
namespace Go.Proofs.Ytiaohbbafaaibab.P
open Go.RowKit Go.Proofs.YtiaohbbafaaibabW.PrintWords Go.Proofs.YtiaohbbafaaibabW.PrintLast Go.Proofs.YtiaohbbafaaibabW.PrintMore
set_option linter.unusedVariables false
set_option linter.unusedSimpArgs false

abbrev Rel := S41
def rl (l : List Rel) (i : Nat) : Rel := rd_T41 l (i : Int)
def wordsO (t : List Int) : Bool := t.all fun x => decide (0 ≤ x) && decide (x < 4294967296)
theorem wordsO_at {t : List Int} (h : wordsO t = true) {x : Int} (hx : x ∈ t) : 0 ≤ x ∧ x < 4294967296 := by
 have := List.all_eq_true.1 h x hx
 simpa using this
def lastR (l : List Rel) : Nat → Int
 | 0 => -1
 | i + 1 => (rl l i).f0
def relE (code : List Int) (ns : Int) (l : List Rel) (i : Nat) : Int :=
 if (rl l i).f0 ≤ lastR l i then 24 else if (rl l i).f0 ≥ (code.length : Int) then 24 else if (rl l i).f1 < 0 then 24 else if (rl l i).f1 ≥ ns then 24 else if (tgtS (rd code (rl l i).f0)).2 = true then (if (tgtS (rd code (rl l i).f0)).1 = 0 then 0 else 24) else 24
def markB (l : List Rel) : Nat → Nat → Bool
 | 0 => fun _ => false
 | i + 1 => fun k => decide (k = (rl l i).f0.toNat) || markB l i k
def scanE (code : List Int) (named : Nat → Bool) (k : Nat) : Int :=
 if (tgtS (rd code (k : Int))).2 = true then (if named k = true then 0 else if (tgtS (rd code (k : Int))).1 > (code.length : Int) then 22 else 0) else 0
def scanS (g : Nat → Int) (n : Nat) : Nat → Int × Int
 | 0 => (0, 0)
 | d + 1 => if g (n - (d + 1)) = 0 then scanS g n d else (g (n - (d + 1)), -1 - ((n - (d + 1) : Nat) : Int))
theorem scanS_step (g : Nat → Int) {n i : Nat} (h : i < n) : scanS g n (n - i) = if g i = 0 then scanS g n (n - (i + 1)) else (g i, -1 - (i : Int)) := by
 rw [show n - i = (n - (i + 1)) + 1 by omega]
 show (if g (n - (n - (i + 1) + 1)) = 0 then _ else _) = _
 rw [show n - (n - (i + 1) + 1) = i by omega]
def relocsS (code : List Int) (ns : Int) (l : List Rel) : Int × Int :=
 if (firstS (relE code ns l) l.length l.length).1 = 0 then scanS (scanE code (markB l l.length)) code.length code.length else firstS (relE code ns l) l.length l.length
def sizeS (name : ByteArray) (code : List Int) (dat : Int) (data : List Int) (ns nr : Nat) : Int × Int :=
 if nameS name = true then (if (code.length : Int) > 16384 then (21, -1) else if (ns : Int) > 256 then (21, -2) else if (nr : Int) > (code.length : Int) then (21, -3) else if dat < 0 then (25, -1) else if dat > 4096 then (25, -1) else if (data.length : Int) > 4096 - dat then (25, -1) else (0, 0)) else (20, -1)
def chkO (name : ByteArray) (code : List Int) (dat : Int) (data : List Int) (syms : List Sym) (rels : List Rel) : Int × Int :=
  if (sizeS name code dat data syms.length rels.length).1 = 0 then
    (if (symsS syms (code.length : Int)).1 = 0 then
      (if (relocsS code (syms.length : Int) rels).1 = 0 then (0, 0) else relocsS code (syms.length : Int) rels)
    else symsS syms (code.length : Int))
  else sizeS name code dat data syms.length rels.length
def object_Check.f (a0_0 : ByteArray) (l0_1 : List Int) (a0_2 : Int) (l0_3 : List Int) (l0_4 : List Sym) (l0_5 : List Rel) : Option (Int × Int) := if wordsO l0_1 = true then some (chkO a0_0 l0_1 a0_2 l0_3 l0_4 l0_5) else none
end Go.Proofs.Ytiaohbbafaaibab.P

/- OWN TEXT: symbol.Resolve: what it answers, as a plain function. -/
namespace Go.Proofs.Ytiaohbbafaaibab.P
open Go.RowKit Go.Maps Go.Proofs.YtiaohbbafaaibabW.PrintWords Go.Proofs.YtiaohbbafaaibabW.PrintLast Go.Proofs.YtiaohbbafaaibabW.PrintMore Go.Proofs.Ytiaohbbafaaibab.Arr Go.Proofs.Ytiaohbbafaaibab.MapB Go.Proofs.Ytiaohbbafaaibab.SymM
set_option linter.unusedVariables false
set_option linter.unusedSimpArgs false
abbrev DefT := S54
def objSeen (l : List ObjT) : Nat → Lit → Bool
 | 0 => fun _ => false
 | i + 1 => addS (objSeen l i) (keyN (ob l i).f0)
/-- the objects' own check and their names, up to object i: none: not said; some none: all well; else the answer. -/
def chkR (l : List ObjT) : Nat → Option (Option (Int × Int × Int))
  | 0 => some none
  | i + 1 => match chkR l i with
    | none => none
    | some (some x) => some (some x)
    | some none => match object_Check.f (ob l i).f0 (ob l i).f1 (ob l i).f2 (ob l i).f3 (ob l i).f4 (ob l i).f5 with
      | none => none
      | some (e, n) => if e ≠ 0 then some (some (e, (i : Int), n)) else if objSeen l i (keyN (ob l i).f0) = true then some (some (26, (i : Int), -1)) else some none
/-- what one symbol of object i is bound to. -/
def symX (L : List Ent) (i : Int) (s : Sym) : Option DefT := if s.f1 = 0 then some ⟨i, s.f2⟩ else if (findR L s.f0).2.2 = true then some ⟨(findR L s.f0).1, (findR L s.f0).2.1⟩ else none
/-- the first j symbols of object i: the places, or the first symbol that has none. -/
def rowX (L : List Ent) (syms : List Sym) (i : Int) : Nat → List DefT × Option Nat
  | 0 => ([], none)
  | j + 1 => match rowX L syms i j with
    | (d, some k) => (d, some k)
    | (d, none) => match symX L i (sy syms j) with
      | some x => (d ++ [x], none)
      | none => (d, some j)
/-- the first i objects. -/
def rowsX (L : List Ent) (l : List ObjT) : Nat → List (List DefT) × Option (Nat × Nat)
  | 0 => ([], none)
  | i + 1 => match rowsX L l i with
    | (d, some k) => (d, some k)
    | (d, none) => match rowX L (ob l i).f4 (i : Int) (ob l i).f4.length with
      | (x, none) => (d ++ [x], none)
      | (_, some j) => (d, some (i, j))
def resolveR (l : List ObjT) : Option (List (List DefT) × Int × Int × Int) :=
 if (l.length : Int) > 32 then some ([], 21, 32, 0) else
 match chkR l l.length with
 | none => none
 | some (some (e, i, n)) => some ([], e, i, n)
 | some none =>
  if 0 ≤ (aObj l l.length).1 then some ([], 26, (aObj l l.length).1, (aObj l l.length).2) else
  match rowsX (gObj l l.length) l l.length with
  | (_, some (i, k)) => some ([], 40, (i : Int), (k : Int))
  | (d, none) => some (d, 0, 0, 0)
def symbol_Resolve.f (l0 : List ObjT) : Option (List (List DefT) × Int × Int × Int) := if (decide (l0.length ≤ 1000000) && (List.range l0.length).all fun i => decide ((ob l0 i).f4.length ≤ 1000000000)) = true then resolveR l0 else none
theorem chkR_step (l : List ObjT) (i : Nat) (h : chkR l i = some none) : chkR l (i + 1) = match object_Check.f (ob l i).f0 (ob l i).f1 (ob l i).f2 (ob l i).f3 (ob l i).f4 (ob l i).f5 with
   | none => none
   | some (e, n) => if e ≠ 0 then some (some (e, (i : Int), n)) else if objSeen l i (keyN (ob l i).f0) = true then some (some (26, (i : Int), -1)) else some none := by
 simp only [chkR, h]
theorem chkR_none (l : List ObjT) (i d : Nat) (h : chkR l i = none) : chkR l (i + d) = none := by
 induction d with
 | zero => exact h
 | succ d ih => rw [show i + (d + 1) = (i + d) + 1 by omega]; simp only [chkR, ih]
theorem chkR_some (l : List ObjT) (i d : Nat) (x : Int × Int × Int) (h : chkR l i = some (some x)) : chkR l (i + d) = some (some x) := by
 induction d with
 | zero => exact h
 | succ d ih => rw [show i + (d + 1) = (i + d) + 1 by omega]; simp only [chkR, ih]
/-- what one round of the check finds: an answer for all, or the next round. -/
theorem chkR_round (l : List ObjT) (i : Nat) (hi : i < l.length) (h : chkR l i = some none) (hn : chkR l l.length ≠ none) : ∃ e n, object_Check.f (ob l i).f0 (ob l i).f1 (ob l i).f2 (ob l i).f3 (ob l i).f4 (ob l i).f5 = some (e, n) ∧ ((e ≠ 0 ∧ chkR l l.length = some (some (e, (i : Int), n))) ∨ (e = 0 ∧ objSeen l i (keyN (ob l i).f0) = true ∧ chkR l l.length = some (some (26, (i : Int), -1))) ∨ (e = 0 ∧ objSeen l i (keyN (ob l i).f0) = false ∧ chkR l (i + 1) = some none)) := by
 have hs := chkR_step l i h
 have hl : l.length = (i + 1) + (l.length - (i + 1)) := by omega
 cases hc : object_Check.f (ob l i).f0 (ob l i).f1 (ob l i).f2 (ob l i).f3 (ob l i).f4 (ob l i).f5 with
 | none => rw [hc] at hs; exact absurd (by rw [hl]; exact chkR_none l (i + 1) _ hs) hn
 | some x =>
  obtain ⟨e, n⟩ := x
  rw [hc] at hs
  refine ⟨e, n, rfl, ?_⟩
  by_cases he : e = 0
  ·
   subst he
   simp only [ne_eq, not_true, if_false] at hs
   cases hb : objSeen l i (keyN (ob l i).f0) with
   | true => rw [hb, if_pos rfl] at hs; exact Or.inr (Or.inl ⟨rfl, rfl, by rw [hl]; exact chkR_some l (i + 1) _ _ hs⟩)
   | false => rw [hb, if_neg (by decide)] at hs; exact Or.inr (Or.inr ⟨rfl, rfl, hs⟩)
  ·
   simp only [ne_eq, he, not_false_eq_true, if_true] at hs
   exact Or.inl ⟨he, by rw [hl]; exact chkR_some l (i + 1) _ _ hs⟩
/-- the check's rounds: the list's own block, the names met. -/
structure R1 (w W : World) (gl b n : Nat) (ol : Obj) (S : Lit → Bool) : Prop where
  low : Below w.heap.size w W
  hl : W.heap[gl]? = some ol
  seen : SeenN W b n S
  n1 : gl ≠ b
  g1 : w.heap.size ≤ gl
  g2 : w.heap.size ≤ b
theorem R1.below {w W W1 : World} {gl b n : Nat} {ol : Obj} {S : Lit → Bool} (h : R1 w W gl b n ol S) (hb : Below W.heap.size W W1) : R1 w W1 gl b n ol S :=
 ⟨below_then h.low h.low.size hb, blk_below h.hl hb, h.seen.below hb, h.n1, h.g1, h.g2⟩
theorem R1.put {w W W1 : World} {gl b n g : Nat} {ol : Obj} {S : Lit → Bool} {cs : Array Value} {e : TypeId} (h : R1 w W gl b n ol S) (hp : Put W W1 g cs e) (hg : w.heap.size ≤ g) (h1 : gl ≠ g) (h2 : b ≠ g) : R1 w W1 gl b n ol S :=
 ⟨hp.below h.low hg, blk_grown h.hl (put_grownN hp) (fun e => h1 (Option.some.inj e)), h.seen.kept (put_grownN hp) (fun e => h2 (Option.some.inj e)), h.n1, h.g1, h.g2⟩
theorem R1.add {w W W1 : World} {gl b n n' : Nat} {ol : Obj} {S S' : Lit → Bool} (h : R1 w W gl b n ol S) (hg : W.grownBy W1 (some b)) (hs : SeenN W1 b n' S') : R1 w W1 gl b n' ol S' :=
 ⟨pw_below_grown h.low (some b) h.low.size hg (fun k hk => by have := Option.some.inj hk; have := h.g2; omega), blk_grown h.hl hg (fun e => h.n1 (Option.some.inj e)), hs, h.n1, h.g1, h.g2⟩
end Go.Proofs.Ytiaohbbafaaibab.P

/- OWN TEXT: what the names gathered stand for, over plain lists: the first of a kind and name; the first symbol that is wrong. -/
namespace Go.Proofs.Ytiaohbbafaaibab.P
open Go.RowKit Go.Maps Go.Proofs.YtiaohbbafaaibabW.PrintWords Go.Proofs.YtiaohbbafaaibabW.PrintLast Go.Proofs.YtiaohbbafaaibabW.PrintMore Go.Proofs.Ytiaohbbafaaibab.Arr Go.Proofs.Ytiaohbbafaaibab.MapB Go.Proofs.Ytiaohbbafaaibab.SymM
set_option linter.unusedVariables false
set_option linter.unusedSimpArgs false

/-- the first of the first j symbols with a name and kind: its place. -/
def symF (syms : List Sym) (s : ByteArray) (kind : Int) : Nat → Option Int
  | 0 => none
  | j + 1 => match symF syms s kind j with
    | some a => some a
    | none => if (sy syms j).f0 = s ∧ (sy syms j).f1 = kind then some (sy syms j).f2 else none
/-- the first among the first i objects. -/
def rowF (l : List ObjT) (s : ByteArray) (kind : Int) : Nat → Option (Int × Int)
  | 0 => none
  | i + 1 => match rowF l s kind i with
    | some x => some x
    | none => (symF (ob l i).f4 s kind (ob l i).f4.length).map fun a => ((i : Int), a)
/-- the first before symbol k of object i. -/
def firstF (l : List ObjT) (s : ByteArray) (kind : Int) (i k : Nat) : Option (Int × Int) := match rowF l s kind i with
 | some x => some x
 | none => (symF (ob l i).f4 s kind k).map fun a => ((i : Int), a)
def kOf (f : Bool) : Int := if f = true then 2 else 1
theorem findE_add (L : List Ent) (x : Ent) (s : ByteArray) (f : Bool) : findE (L ++ [x]) s f = match findE L s f with
  | some y => some y
  | none => if x.s = s ∧ x.f = f then some (x.i, x.a) else none := by
 unfold findE
 rw [List.find?_append]
 cases L.find? (fun x => decide (x.s = s) && x.f == f) with
 | some y => rfl
 | none =>
  simp only [Option.none_or, List.find?_cons, List.find?_nil, Option.map_none]
  by_cases c : x.s = s ∧ x.f = f
  ·
   have : (decide (x.s = s) && x.f == f) = true := by rw [Bool.and_eq_true, decide_eq_true_eq, beq_iff_eq]; exact c
   rw [this, if_pos c]; rfl
  ·
   have : (decide (x.s = s) && x.f == f) = false := by
    rw [← Bool.not_eq_true, Bool.and_eq_true, decide_eq_true_eq, beq_iff_eq]; exact c
   rw [this, if_neg c]; rfl
theorem findE_put (L : List Ent) (t : ByteArray) (k a i : Int) (s : ByteArray) (f : Bool) : findE (putL L t k a i) s f = match findE L s f with
  | some x => some x
  | none => if t = s ∧ k = kOf f then some (i, a) else none := by
 have none_ (h : ¬ (t = s ∧ k = kOf f)) : findE L s f = match findE L s f with
   | some x => some x
   | none => if t = s ∧ k = kOf f then some (i, a) else none := by
  cases findE L s f with
  | some x => rfl
  | none => exact (if_neg h).symm
 have had (f' : Bool) (hk : k = kOf f') (h : (findE L t f').isSome = true) : findE L s f = match findE L s f with
   | some x => some x
   | none => if t = s ∧ k = kOf f then some (i, a) else none := by
  cases hq : findE L s f with
  | some x => rfl
  | none =>
   refine (if_neg ?_).symm
   rintro ⟨rfl, h2⟩
   have : f = f' := by
    rw [hk] at h2
    cases f <;> cases f' <;> first | rfl | (exact absurd h2 (by decide))
   subst this
   rw [hq] at h
   cases h
 have new_ (f' : Bool) (hk : k = kOf f') : findE (L ++ [⟨t, f', i, a⟩]) s f = match findE L s f with
   | some x => some x
   | none => if t = s ∧ k = kOf f then some (i, a) else none := by
  rw [findE_add]
  cases findE L s f with
  | some x => rfl
  | none =>
   have : (t = s ∧ f' = f) ↔ (t = s ∧ k = kOf f) := by
    rw [hk]
    cases f <;> cases f' <;> simp [kOf]
   simp only [this]
 unfold putL
 split
 ·
  rename_i h1
  split
  ·
   rename_i h2; exact had false h1 h2
  ·
   exact new_ false h1
 ·
  rename_i h1
  split
  ·
   rename_i h1b
   split
   ·
    rename_i h2; exact had true h1b h2
   ·
    exact new_ true h1b
  ·
   rename_i h1b
   refine none_ ?_
   rintro ⟨_, h⟩
   cases f
   ·
    exact h1 h
   ·
    exact h1b h
theorem findE_gSym (L0 : List Ent) (syms : List Sym) (i : Int) (s : ByteArray) (f : Bool) : ∀ j, findE (gSym L0 syms i j) s f = match findE L0 s f with
    | some x => some x
    | none => (symF syms s (kOf f) j).map fun a => (i, a)
  | 0 => by
    show findE L0 s f = _
    cases findE L0 s f <;> rfl
  | j + 1 => by
    show findE (putL (gSym L0 syms i j) _ _ _ i) s f = _
    rw [findE_put, findE_gSym L0 syms i s f j]
    cases findE L0 s f with
    | some x => rfl
    | none =>
      show (match (symF syms s (kOf f) j).map fun a => (i, a) with | some x => some x | none => _) = (match symF syms s (kOf f) j with | some a => some a | none => _ : Option Int).map _
      cases symF syms s (kOf f) j with
      | some a => rfl
      | none =>
        show (if _ then _ else _) = (if _ then _ else _ : Option Int).map _
        split <;> rfl
theorem findE_gObj (l : List ObjT) (s : ByteArray) (f : Bool) : ∀ n, findE (gObj l n) s f = rowF l s (kOf f) n
  | 0 => rfl
  | n + 1 => by
    show findE (gSym (gObj l n) (ob l n).f4 (n : Int) (ob l n).f4.length) s f = _
    rw [findE_gSym, findE_gObj l s f n]
    rfl
def findF (l : List ObjT) (s : ByteArray) (n : Nat) : Int × Int × Bool := match rowF l s 1 n with
  | some (i, a) => (i, a, true)
  | none => match rowF l s 2 n with
    | some (i, a) => (i, a, true)
    | none => (0, 0, false)
theorem findR_gObj (l : List ObjT) (s : ByteArray) (n : Nat) : findR (gObj l n) s = findF l s n := by
 unfold findR findF
 rw [findE_gObj, findE_gObj]
 rfl
/-- is symbol k of object i a Global one whose name was there? -/
def twice (l : List ObjT) (i k : Nat) : Prop := (sy (ob l i).f4 k).f1 = 1 ∧ (firstF l (sy (ob l i).f4 k).f0 1 i k).isSome = true
theorem putB_first (l : List ObjT) (i k : Nat) (s : ByteArray) : putB (gSym (gObj l i) (ob l i).f4 (i : Int) k) s 1 = (firstF l s 1 i k).isSome := by
 unfold putB
 rw [if_pos rfl, findE_gSym, findE_gObj]
 rfl
/-- the first that is wrong, of all objects' symbols. -/
structure FirstBad (l : List ObjT) (bad : Nat → Nat → Prop) (i k : Nat) : Prop where
  hi : i < l.length
  hk : k < (ob l i).f4.length
  here : bad i k
  row : ∀ q, q < k → ¬ bad i q
  rows : ∀ p, p < i → ∀ q, q < (ob l p).f4.length → ¬ bad p q
def NoneBad (l : List ObjT) (bad : Nat → Nat → Prop) : Prop := ∀ p, p < l.length → ∀ q, q < (ob l p).f4.length → ¬ bad p q
theorem least (P : Nat → Prop) : ∀ n, (∀ q, q < n → ¬ P q) ∨ ∃ k, k < n ∧ P k ∧ ∀ q, q < k → ¬ P q
  | 0 => .inl fun q h => absurd h (Nat.not_lt_zero _)
  | n + 1 => by
    rcases least P n with h | ⟨k, h1, h2, h3⟩
    · by_cases c : P n
      · exact .inr ⟨n, Nat.lt_succ_self n, c, h⟩
      · refine .inl fun q hq hP => ?_
        by_cases e : q = n
        · subst e; exact c hP
        · exact h q (by omega) hP
    · exact .inr ⟨k, by omega, h2, h3⟩
theorem bad_or (l : List ObjT) (bad : Nat → Nat → Prop) : NoneBad l bad ∨ ∃ i k, FirstBad l bad i k := by
 rcases least (fun p => ∃ q, q < (ob l p).f4.length ∧ bad p q) l.length with h | ⟨i, h1, ⟨q0, h2, h3⟩, h4⟩
 ·
  exact .inl fun p hp q hq hb => h p hp ⟨q, hq, hb⟩
 ·
  rcases least (bad i) (ob l i).f4.length with h | ⟨k, g1, g2, g3⟩
  ·
   exact absurd h3 (h q0 h2)
  ·
   exact .inr ⟨i, k, h1, g1, g2, g3, fun p hp q hq hb => h4 p hp ⟨q, hq, hb⟩⟩
theorem atStep_eq (l : List ObjT) (i j : Nat) (a : Int × Int) (hn : ¬ twice l i j) : atStep a (gSym (gObj l i) (ob l i).f4 (i : Int) j) (sy (ob l i).f4 j) (i : Int) (j : Int) = a := by
 unfold atStep
 split
 ·
  rename_i h
  split
  ·
   split
   ·
    rename_i h1
    exact absurd ⟨h1, by rw [← putB_first, ← h1]; exact h⟩ hn
   ·
    rfl
  ·
   rfl
 ·
  rfl
theorem atStep_hit (l : List ObjT) (i j : Nat) (a : Int × Int) (ha : a.1 < 0) (hn : twice l i j) : atStep a (gSym (gObj l i) (ob l i).f4 (i : Int) j) (sy (ob l i).f4 j) (i : Int) (j : Int) = ((i : Int), (j : Int)) := by
 unfold atStep
 rw [if_pos (by rw [hn.1, putB_first]; exact hn.2), if_pos ha, if_pos hn.1]
theorem atStep_stay (a : Int × Int) (L : List Ent) (s : Sym) (i k : Int) (ha : ¬ a.1 < 0) : atStep a L s i k = a := by
 unfold atStep
 simp only [if_neg ha]
 split <;> rfl
theorem aSym_none (l : List ObjT) (i : Nat) (a : Int × Int) : ∀ j, (∀ q, q < j → ¬ twice l i q) → aSym a (gObj l i) (ob l i).f4 (i : Int) j = a
  | 0, _ => rfl
  | j + 1, h => by
    show atStep (aSym a (gObj l i) (ob l i).f4 (i : Int) j) _ _ _ _ = a
    rw [aSym_none l i a j (fun q hq => h q (by omega))]
    exact atStep_eq l i j a (h j (by omega))
theorem aSym_stay (L0 : List Ent) (syms : List Sym) (i : Int) (a : Int × Int) (ha : ¬ a.1 < 0) : ∀ j, aSym a L0 syms i j = a
  | 0 => rfl
  | j + 1 => by
    show atStep (aSym a L0 syms i j) _ _ _ _ = a
    rw [aSym_stay L0 syms i a ha j]
    exact atStep_stay a _ _ _ _ ha
theorem aSym_from (L0 : List Ent) (syms : List Sym) (i : Int) (a b : Int × Int) (k : Nat) (hb : ¬ b.1 < 0) (h : aSym a L0 syms i k = b) : ∀ d, aSym a L0 syms i (k + d) = b
  | 0 => h
  | d + 1 => by
    show atStep (aSym a L0 syms i (k + d)) _ _ _ _ = b
    rw [aSym_from L0 syms i a b k hb h d]
    exact atStep_stay b _ _ _ _ hb
theorem aObj_none (l : List ObjT) : ∀ n, (∀ p, p < n → ∀ q, q < (ob l p).f4.length → ¬ twice l p q) → aObj l n = (-1, -1)
  | 0, _ => rfl
  | n + 1, h => by
    show aSym (aObj l n) (gObj l n) (ob l n).f4 (n : Int) (ob l n).f4.length = _
    rw [aObj_none l n (fun p hp => h p (by omega))]
    exact aSym_none l n _ _ (h n (by omega))
theorem aObj_stay (l : List ObjT) (b : Int × Int) (hb : ¬ b.1 < 0) (n : Nat) (h : aObj l n = b) : ∀ d, aObj l (n + d) = b
  | 0 => h
  | d + 1 => by
    show aSym (aObj l (n + d)) _ _ _ _ = b
    rw [aObj_stay l b hb n h d]
    exact aSym_stay _ _ _ b hb _
theorem aObj_first (l : List ObjT) {i k : Nat} (h : FirstBad l (twice l) i k) : aObj l l.length = ((i : Int), (k : Int)) := by
 have hnn : ¬ ((i : Int), (k : Int)).1 < 0 := by simp
 have h1 : aObj l (i + 1) = ((i : Int), (k : Int)) := by
  show aSym (aObj l i) (gObj l i) (ob l i).f4 (i : Int) (ob l i).f4.length = _
  rw [aObj_none l i h.rows]
  have h2 : aSym (-1, -1) (gObj l i) (ob l i).f4 (i : Int) (k + 1) = ((i : Int), (k : Int)) := by
   show atStep (aSym (-1, -1) (gObj l i) (ob l i).f4 (i : Int) k) _ _ _ _ = _
   rw [aSym_none l i _ k h.row]
   exact atStep_hit l i k _ (by decide) h.here
  have := aSym_from _ _ _ _ _ _ hnn h2 ((ob l i).f4.length - (k + 1))
  rwa [show k + 1 + ((ob l i).f4.length - (k + 1)) = (ob l i).f4.length by have := h.hk; omega] at this
 have := aObj_stay l _ hnn _ h1 (l.length - (i + 1))
 rwa [show i + 1 + (l.length - (i + 1)) = l.length by have := h.hi; omega] at this
/-- has symbol k of object i no place? -/
def unbound (L : List Ent) (l : List ObjT) (i k : Nat) : Prop := symX L (i : Int) (sy (ob l i).f4 k) = none
def rowL (L : List Ent) (syms : List Sym) (i : Int) : Nat → List DefT
 | 0 => []
 | j + 1 => rowL L syms i j ++ (symX L i (sy syms j)).toList
def rowsL (L : List Ent) (l : List ObjT) : Nat → List (List DefT)
 | 0 => []
 | i + 1 => rowsL L l i ++ [rowL L (ob l i).f4 (i : Int) (ob l i).f4.length]
theorem rowX_none (L : List Ent) (l : List ObjT) (i : Nat) : ∀ j, (∀ q, q < j → ¬ unbound L l i q) → rowX L (ob l i).f4 (i : Int) j = (rowL L (ob l i).f4 (i : Int) j, none)
  | 0, _ => rfl
  | j + 1, h => by
    have h1 := rowX_none L l i j (fun q hq => h q (by omega))
    have h2 := h j (by omega)
    unfold unbound at h2
    unfold rowX rowL
    rw [h1]
    cases hx : symX L (i : Int) (sy (ob l i).f4 j) with
    | none => exact absurd hx h2
    | some x => rfl
theorem rowX_from (L : List Ent) (syms : List Sym) (i : Int) (k j : Nat) (d : List DefT) (h : rowX L syms i k = (d, some j)) : ∀ m, rowX L syms i (k + m) = (d, some j)
  | 0 => h
  | m + 1 => by
    have := rowX_from L syms i k j d h m
    show rowX L syms i ((k + m) + 1) = _
    unfold rowX
    rw [this]
theorem rowX_first (L : List Ent) (l : List ObjT) {i k : Nat} (hk : k < (ob l i).f4.length) (hu : unbound L l i k) (h : ∀ q, q < k → ¬ unbound L l i q) : ∃ d, rowX L (ob l i).f4 (i : Int) (ob l i).f4.length = (d, some k) := by
 have h1 := rowX_none L l i k h
 have h2 : rowX L (ob l i).f4 (i : Int) (k + 1) = (rowL L (ob l i).f4 (i : Int) k, some k) := by
  unfold rowX
  rw [h1]
  unfold unbound at hu
  simp only [hu]
 refine ⟨rowL L (ob l i).f4 (i : Int) k, ?_⟩
 have := rowX_from _ _ _ _ _ _ h2 ((ob l i).f4.length - (k + 1))
 rwa [show k + 1 + ((ob l i).f4.length - (k + 1)) = (ob l i).f4.length by omega] at this
theorem rowsX_none (L : List Ent) (l : List ObjT) : ∀ n, (∀ p, p < n → ∀ q, q < (ob l p).f4.length → ¬ unbound L l p q) → rowsX L l n = (rowsL L l n, none)
  | 0, _ => rfl
  | n + 1, h => by
    have h1 := rowsX_none L l n (fun p hp => h p (by omega))
    have h2 := rowX_none L l n _ (h n (by omega))
    unfold rowsX rowsL
    rw [h1]
    simp only [h2]
theorem rowsX_from (L : List Ent) (l : List ObjT) (n : Nat) (d : List (List DefT)) (p : Nat × Nat) (h : rowsX L l n = (d, some p)) : ∀ m, rowsX L l (n + m) = (d, some p)
  | 0 => h
  | m + 1 => by
    have := rowsX_from L l n d p h m
    show rowsX L l ((n + m) + 1) = _
    unfold rowsX
    rw [this]
theorem rowsX_first (L : List Ent) (l : List ObjT) {i k : Nat} (h : FirstBad l (unbound L l) i k) : ∃ d, rowsX L l l.length = (d, some (i, k)) := by
 have h1 := rowsX_none L l i h.rows
 obtain ⟨x, h2⟩ := rowX_first L l h.hk h.here h.row
 have h3 : rowsX L l (i + 1) = (rowsL L l i, some (i, k)) := by
  unfold rowsX
  rw [h1]
  simp only [h2]
 refine ⟨rowsL L l i, ?_⟩
 have := rowsX_from _ _ _ _ _ h3 (l.length - (i + 1))
 rwa [show i + 1 + (l.length - (i + 1)) = l.length by have := h.hi; omega] at this
/-- what is told of objects whose own checks pass. -/
inductive Told (l : List ObjT) : List (List DefT) × Int × Int × Int → Prop
  | two {i k : Nat} (h : FirstBad l (twice l) i k) : Told l ([], 26, (i : Int), (k : Int))
  | un {i k : Nat} (h0 : NoneBad l (twice l)) (h : FirstBad l (unbound (gObj l l.length) l) i k) : Told l ([], 40, (i : Int), (k : Int))
  | ok (h0 : NoneBad l (twice l)) (h : NoneBad l (unbound (gObj l l.length) l)) : Told l (rowsL (gObj l l.length) l l.length, 0, 0, 0)
theorem resolve_told (l : List ObjT) (hn : l.length ≤ 32) (hc : chkR l l.length = some none) : ∃ x, resolveR l = some x ∧ Told l x := by
 unfold resolveR
 rw [if_neg (by omega), hc]
 rcases bad_or l (twice l) with h | ⟨i, k, h⟩
 ·
  rw [aObj_none l l.length h]
  simp only
  rw [if_neg (by decide)]
  rcases bad_or l (unbound (gObj l l.length) l) with g | ⟨i, k, g⟩
  ·
   rw [rowsX_none _ l l.length g]
   exact ⟨_, rfl, .ok h g⟩
  ·
   obtain ⟨d, hd⟩ := rowsX_first _ l g
   rw [hd]
   exact ⟨_, rfl, .un h g⟩
 ·
  rw [aObj_first l h]
  simp only
  rw [if_pos (by omega)]
  exact ⟨_, rfl, .two h⟩
end Go.Proofs.Ytiaohbbafaaibab.P

/- OWN TEXT: a list of lists of places that a call makes, a row of which an append turns: what it holds. -/
namespace Go.Proofs.Ytiaohbbafaaibab.P
open Go.RowKit Go.Maps Go.Proofs.YtiaohbbafaaibabW.PrintWords Go.Proofs.YtiaohbbafaaibabW.PrintLast Go.Proofs.YtiaohbbafaaibabW.PrintMore Go.Proofs.Ytiaohbbafaaibab.Arr Go.Proofs.Ytiaohbbafaaibab.MapB Go.Proofs.Ytiaohbbafaaibab.SymM
set_option linter.unusedVariables false
set_option linter.unusedSimpArgs false
abbrev RowsIs (W : World) (lo : Nat) (ok : Nat → Prop) (v : Value) (rows : List (List DefT)) : Prop := Kd.S (Kd.slice 54 k54) 61 W lo ok v rows
abbrev RowIs (W : World) (lo : Nat) (ok : Nat → Prop) (v : Value) (row : List DefT) : Prop := Kd.R k54 54 W lo ok v row
structure R2 (w W : World) (ga gl b : Nat) (at_ : Int × Int) (ol : Obj) (L : List Ent) (ok : Nat → Prop) (v : Value) (rows : List (List DefT)) : Prop where
  low : Below w.heap.size w W
  nm : NMap W b L
  hat : W.heap[ga]? = some (atCell at_.1 at_.2)
  hl : W.heap[gl]? = some ol
  own : RowsIs W w.heap.size ok v rows
  ba : w.heap.size ≤ ga
theorem R2.below {w W W1 : World} {ga gl b : Nat} {at_ : Int × Int} {ol : Obj} {L : List Ent} {ok : Nat → Prop} {v : Value} {rows : List (List DefT)} (h : R2 w W ga gl b at_ ol L ok v rows) (hb : Below W.heap.size W W1) : R2 w W1 ga gl b at_ ol L ok v rows :=
 ⟨below_then h.low h.low.size hb, h.nm.below hb, blk_below h.hat hb, blk_below h.hl hb, Kd.S_below h.own hb, h.ba⟩
theorem R2.mono {w W : World} {ga gl b : Nat} {at_ : Int × Int} {ol : Obj} {L : List Ent} {ok ok' : Nat → Prop} {v : Value} {rows : List (List DefT)} (h : R2 w W ga gl b at_ ol L ok v rows) (hk : ∀ k, ok k → ok' k) : R2 w W ga gl b at_ ol L ok' v rows :=
 ⟨h.low, h.nm, h.hat, h.hl, Kd.S_mono h.own hk, h.ba⟩
/-- a new block g: no row's. -/
theorem R2.box {w W W1 : World} {ga gl b g : Nat} {at_ : Int × Int} {ol : Obj} {L : List Ent} {ok : Nat → Prop} {v : Value} {rows : List (List DefT)} (h : R2 w W ga gl b at_ ol L ok v rows) (hb : Below W.heap.size W W1) (hg : W.heap.size ≤ g) : R2 w W1 ga gl b at_ ol L (fun k => ok k ∧ k ≠ g) v rows :=
 ⟨below_then h.low h.low.size hb, h.nm.below hb, blk_below h.hat hb, blk_below h.hl hb, Kd.S_mono (Kd.S_old h.own hb) (fun k hk => ⟨hk.1, by have := hk.2; omega⟩), h.ba⟩
theorem R2.put {w W W1 : World} {ga gl b g : Nat} {at_ : Int × Int} {ol : Obj} {L : List Ent} {ok : Nat → Prop} {v : Value} {rows : List (List DefT)} {cs : Array Value} {e : TypeId} (h : R2 w W ga gl b at_ ol L ok v rows) (hp : Put W W1 g cs e) (hg : w.heap.size ≤ g) (h1 : ga ≠ g) (h2 : gl ≠ g) (h3 : b ≠ g) (hk : ∀ k, ok k → k ≠ g) : R2 w W1 ga gl b at_ ol L ok v rows :=
 ⟨hp.below h.low hg, h.nm.kept (put_grownN hp) (fun e => h3 (Option.some.inj e)), blk_grown h.hat (put_grownN hp) (fun e => h1 (Option.some.inj e)), blk_grown h.hl (put_grownN hp) (fun e => h2 (Option.some.inj e)), Kd.S_grown h.own (put_grownN hp) (fun k ho e => hk k ho (Option.some.inj e)), h.ba⟩
theorem cell_same {W W1 : World} {a : Addr} (h : W1.heap[a.block]? = W.heap[a.block]?) : W1.cell? a = W.cell? a := by
 unfold World.cell?
 rw [h]
theorem frozen_same {W W1 : World} {a : Addr} (h : W1.heap[a.block]? = W.heap[a.block]?) : W1.frozen? a = W.frozen? a := by
 unfold World.frozen?
 rw [h]
theorem nmap_ne {W : World} {b g : Nat} {L : List Ent} {cells : Array Value} {e : TypeId} (h : NMap W b L) (hb : W.heap[g]? = some (.cells cells e (0, 0))) : b ≠ g := by
 rintro rfl
 obtain ⟨es, clock, h1, _⟩ := h
 rw [h1] at hb
 cases hb
/-- row i, lent out for an append; what is stored then. -/
theorem R2.row {w W : World} {ga gl b gd n c i : Nat} {at_ : Int × Int} {L : List Ent} {ok : Nat → Prop} {rows : List (List DefT)} {Al : Option Addr} {nl cl : Nat} (h : R2 w W ga gl b at_ (lCell Al nl cl) L ok (.slice (some ⟨gd, 0, none⟩) n c) rows) (hi : i < n) (hf : ∀ k, W.heap.size ≤ k → ok k) (x : DefT) :
    ∃ (vi : Value) (okA : Nat → Prop), W.cell? ⟨gd, i, none⟩ = some vi ∧ gd < W.heap.size ∧ RowIs W w.heap.size okA vi (rows.getD i []) ∧ (∀ k, W.heap.size ≤ k → okA k) ∧ (∀ k, okA k → ok k) ∧
      ∀ v1 w1, RowIs w1 w.heap.size okA v1 (rows.getD i [] ++ [x]) → Below w.heap.size w w1 → W.grownBy w1 vi.ownBlock →
        w1.cell? ⟨gd, i, none⟩ = some vi ∧ w1.frozen? ⟨gd, i, none⟩ = false ∧ R2 w (w1.setCell ⟨gd, i, none⟩ v1) ga gl b at_ (lCell Al nl cl) L ok (.slice (some ⟨gd, 0, none⟩) n c) (rows.set i (rows.getD i [] ++ [x])) := by
  obtain ⟨oki, cs, hcl, hM, hcc, hfr, hoki, hH⟩ := Kd.S_elem h.own [] (i : Int) (by omega) (by omega)
  rw [show ((i : Int)).toNat = i by omega] at hM hcc hfr
  obtain ⟨vi, rfl, hR⟩ := hM
  simp only [show (Kd.slice 54 k54).sz = 1 from rfl, Nat.mul_one] at hcc hfr
  have hc0 := hcc 0 vi rfl
  have hf0 := hfr 0
  rw [Nat.add_zero] at hc0 hf0
  have hgd : gd < W.heap.size := World.block_lt_of_cell? W _ hc0
  have hty : ∀ k, vi.ownBlock = some k → ∃ cells, W.heap[k]? = some (.cells cells 54 (0, 0)) := Kd.R_typed hR
  have hsl := Kd.S_typed h.own gd (by simp [Value.ownBlock])
  have hdb : w.heap.size ≤ gd := Kd.S_base h.own gd (by simp [Value.ownBlock])
  refine ⟨vi, fun k => oki k ∨ ok k ∧ W.heap.size ≤ k, hc0, hgd, Kd.R_mono hR (fun k hk => .inl hk), fun k hk => .inr ⟨hf k hk, hk⟩, fun k hk => hk.elim (fun h2 => (hoki k h2).1) (fun h2 => h2.1), ?_⟩
  intro v1 w1 hr hb hg
  have hgdo : ∀ k, vi.ownBlock = some k → k ≠ gd := fun k hk => (hoki k (hR.1 k hk)).2
  have hblk : w1.heap[gd]? = W.heap[gd]? := hg.block gd hgd (fun e => hgdo gd e.symm rfl)
  have hone := (Kd.R_val hr).2
  have hH1 := Kd.H_grown (Kd.H_widen hH) hg (fun k hk => .inl (hR.1 k hk))
  obtain ⟨hH2, hg2⟩ := Kd.H_seg hH1 (by omega) (by omega) (seg := [v1]) (j := 0) (by show 0 + 1 ≤ 1; omega) (by intro q hq; rw [List.mem_singleton.1 hq]; exact hone)
  rw [show ((i : Int)).toNat = i by omega, show i * (Kd.slice 54 k54).sz + 0 = i by show i * 1 + 0 = i; omega] at hH2 hg2
  have hset : w1.setCells gd i [v1] = w1.setCell ⟨gd, i, none⟩ v1 := rfl
  rw [hset] at hH2 hg2
  have hR2 : RowIs (w1.setCell ⟨gd, i, none⟩ v1) w.heap.size (fun k => oki k ∨ ok k ∧ W.heap.size ≤ k) v1 (rows.getD i [] ++ [x]) := Kd.R_grown hr hg2 (fun k hk e => by
    have := Option.some.inj e
    subst this
    rcases hk with hk | hk
    · exact (hoki _ hk).2 rfl
    · omega)
  have hS := Kd.H_back hH2 (x' := rows.getD i [] ++ [x]) ⟨v1, rfl, hR2⟩ (fun _ hk => hk)
  rw [show ((i : Int)).toNat = i by omega] at hS
  obtain ⟨cl0, hcl0⟩ := hsl
  have nb : b ≠ gd := nmap_ne h.nm hcl0
  have na : ga ≠ gd := by rintro rfl; rw [h.hat] at hcl0; injection hcl0 with e; injection e with _ e; exact absurd e (by decide)
  have nl_ : gl ≠ gd := by rintro rfl; rw [h.hl] at hcl0; injection hcl0 with e; injection e with _ e; exact absurd e (by decide)
  have vb : some b ≠ vi.ownBlock := fun e => by obtain ⟨c2, hc2⟩ := hty b e.symm; exact nmap_ne h.nm hc2 rfl
  have va : some ga ≠ vi.ownBlock := fun e => by obtain ⟨c2, hc2⟩ := hty ga e.symm; rw [h.hat] at hc2; injection hc2 with e; injection e with _ e; exact absurd e (by decide)
  have vl : some gl ≠ vi.ownBlock := fun e => by obtain ⟨c2, hc2⟩ := hty gl e.symm; rw [h.hl] at hc2; injection hc2 with e; injection e with _ e; exact absurd e (by decide)
  refine ⟨(cell_same hblk).trans hc0, (frozen_same hblk).trans hf0, ?_, ?_, ?_, ?_, hS, h.ba⟩
  · exact pw_below_grown hb (some gd) hb.size hg2 (fun k hk => by have := Option.some.inj hk; omega)
  · exact (h.nm.kept hg vb).kept hg2 (fun e => nb (Option.some.inj e))
  · exact blk_grown (blk_grown h.hat hg va) hg2 (fun e => na (Option.some.inj e))
  · exact blk_grown (blk_grown h.hl hg vl) hg2 (fun e => nl_ (Option.some.inj e))
/-- the rows while they are being made: those that are done, the one under way, the empty ones. -/
theorem set_mid {α : Type} (A : List α) (r r' z : α) (B : List α) (i : Nat) (h : A.length = i) : (A ++ r :: B).set i r' = A ++ r' :: B ∧ (A ++ r :: B).getD i z = r := by
 subst h
 constructor
 ·
  rw [List.set_append_right _ _ (Nat.le_refl _), Nat.sub_self]; rfl
 ·
  rw [List.getD_eq_getElem?_getD, List.getElem?_append_right (Nat.le_refl _), Nat.sub_self]; rfl
theorem rowsX_length (L : List Ent) (l : List ObjT) : ∀ n, (rowsX L l n).2 = none → (rowsX L l n).1.length = n
  | 0, _ => rfl
  | n + 1, h => by
    unfold rowsX at h ⊢
    have ih := rowsX_length L l n
    cases hq : rowsX L l n with
    | mk d o =>
      rw [hq] at h ih
      cases o with
      | some k => simp at h
      | none =>
        simp only at h ih ⊢
        cases hr : rowX L (ob l n).f4 (n : Int) (ob l n).f4.length with
        | mk x o2 =>
          rw [hr] at h
          cases o2 with
          | some j => simp at h
          | none =>
            simp only
            rw [List.length_append, ih trivial]
            rfl
theorem rowX_length (L : List Ent) (syms : List Sym) (i : Int) : ∀ n, (rowX L syms i n).2 = none → (rowX L syms i n).1.length = n
  | 0, _ => rfl
  | n + 1, h => by
    unfold rowX at h ⊢
    have ih := rowX_length L syms i n
    cases hq : rowX L syms i n with
    | mk d o =>
      rw [hq] at h ih
      cases o with
      | some k => simp at h
      | none =>
        simp only at h ih ⊢
        cases hr : symX L i (sy syms n) with
        | none => rw [hr] at h; simp at h
        | some x =>
          simp only
          rw [List.length_append, ih trivial]
          rfl
theorem rowX_step {L : List Ent} {syms : List Sym} {i : Int} {j : Nat} {x : DefT} (h : (rowX L syms i j).2 = none) (hx : symX L i (sy syms j) = some x) : rowX L syms i (j + 1) = ((rowX L syms i j).1 ++ [x], none) := by
 show (match rowX L syms i j with | (d, some k) => (d, some k) | (d, none) => _) = _
 cases hq : rowX L syms i j with
 | mk d o =>
  rw [hq] at h
  simp only at h
  subst h
  simp only [hx]
theorem rowsX_step {L : List Ent} {l : List ObjT} {i : Nat} (h : (rowsX L l i).2 = none) (hx : (rowX L (ob l i).f4 (i : Int) (ob l i).f4.length).2 = none) : rowsX L l (i + 1) = ((rowsX L l i).1 ++ [(rowX L (ob l i).f4 (i : Int) (ob l i).f4.length).1], none) := by
 show (match rowsX L l i with | (d, some k) => (d, some k) | (d, none) => _) = _
 cases hq : rowsX L l i with
 | mk d o =>
  rw [hq] at h
  simp only at h
  subst h
  cases hr : rowX L (ob l i).f4 (i : Int) (ob l i).f4.length with
  | mk d2 o2 =>
   rw [hr] at hx
   simp only at hx
   subst hx
   rfl
theorem rowsX_stop {L : List Ent} {l : List ObjT} {i j : Nat} (h1 : (rowsX L l i).2 = none) (h2 : (rowX L (ob l i).f4 (i : Int) j).2 = none) (h3 : symX L (i : Int) (sy (ob l i).f4 j) = none) (hi : i < l.length) (hj : j < (ob l i).f4.length) : ∃ d, rowsX L l l.length = (d, some (i, j)) := by
 have a1 : rowX L (ob l i).f4 (i : Int) (j + 1) = ((rowX L (ob l i).f4 (i : Int) j).1, some j) := by
  show (match rowX L (ob l i).f4 (i : Int) j with | (d, some k) => (d, some k) | (d, none) => _) = _
  cases hq : rowX L (ob l i).f4 (i : Int) j with
  | mk d o =>
   rw [hq] at h2
   simp only at h2
   subst h2
   simp only [h3]
 have a2 := rowX_from _ _ _ _ _ _ a1 ((ob l i).f4.length - (j + 1))
 rw [show j + 1 + ((ob l i).f4.length - (j + 1)) = (ob l i).f4.length by omega] at a2
 have a3 : rowsX L l (i + 1) = ((rowsX L l i).1, some (i, j)) := by
  show (match rowsX L l i with | (d, some k) => (d, some k) | (d, none) => _) = _
  cases hq : rowsX L l i with
  | mk d o =>
   rw [hq] at h1
   simp only at h1
   subst h1
   simp only [a2]
 have a4 := rowsX_from _ _ _ _ _ a3 (l.length - (i + 1))
 rw [show i + 1 + (l.length - (i + 1)) = l.length by omega] at a4
 exact ⟨_, a4⟩
theorem rep_step {α : Type} (A : List (List α)) (n i : Nat) (h : i < n) : A ++ List.replicate (n - i) ([] : List α) = A ++ ([] : List α) :: List.replicate (n - (i + 1)) [] := by
 rw [show n - i = (n - (i + 1)) + 1 by omega, List.replicate_succ]
end Go.Proofs.Ytiaohbbafaaibab.P
