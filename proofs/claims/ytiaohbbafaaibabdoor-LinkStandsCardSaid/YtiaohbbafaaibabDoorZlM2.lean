/- OWN TEXT and printed parts of this claim, laid together: P4, IsaL, HObjD, HObjR. -/
import Derived.Test.YtiaohbbafaaibabDoorZlM0
import Derived.Test.YtiaohbbafaaibabDoorZlM1
/- What the Go functions named below come to, as plain functions, each with its proof; written by this session's prt.py over the kit's print. -/
namespace Go.Proofs.YtiaohbbafaaibabDoor.P
open Go.RowKit Go.Proofs.YtiaohbbafaaibabDoorW.PrintWords Go.Proofs.YtiaohbbafaaibabDoorW.PrintLast Go.Proofs.YtiaohbbafaaibabDoorW.PrintMore
attribute [local go_sem] max2_int min2_int max_two min_two max_three min_three max_four min_four   -- for this text's walks alone
set_option linter.unusedVariables false
set_option linter.unusedSimpArgs false
def isa_Decode.j0 : Nat → Int → Bool → Int → Int → Int → Int → Int → Option (Int × Int × Int × Int × Int)
 | 0, _, _, _, _, _, _, _ => none
 | k + 1, x0, x41, x105000, x105001, x105002, x105003, x105004 => if x41 = true then ((isa_Encode.f x105000 x105001 x105002 x105003 (wrap64 (x105004 - 32768))).bind fun bt106 => (if bt106.2 = 0 then (if bt106.1 = x0 then (some (x105000, x105001, x105002, x105003, wrap64 (x105004 - 32768))) else (some ((-1), 0, 0, 0, wrap64 (x0)))) else (some ((-1), 0, 0, 0, wrap64 (x0))))) else ((isa_Encode.f x105000 x105001 x105002 x105003 x105004).bind fun bt108 => (if bt108.2 = 0 then (if bt108.1 = x0 then (some (x105000, x105001, x105002, x105003, x105004)) else (some ((-1), 0, 0, 0, wrap64 (x0)))) else (some ((-1), 0, 0, 0, wrap64 (x0)))))
def isa_Decode.f (k : Nat) (a0 : Int) : Option (Int × Int × Int × Int × Int) := (isa_has.f (IntKind.i8.wrap (a0 / 134217728))).bind fun t105 => (if (Go.bits .and .i64 t105 8) = 0 then (isa_Decode.j0 k a0 false (IntKind.i8.wrap (a0 / 134217728)) (IntKind.i8.wrap (Go.bits .and .u32 (a0 / 8388608) 15)) (IntKind.i8.wrap (Go.bits .and .u32 (a0 / 524288) 15)) (IntKind.i8.wrap (Go.bits .and .u32 (a0 / 32768) 15)) (wrap64 (Go.bits .and .u32 a0 32767))) else (if (Go.bits .and .i64 t105 16) = 0 then (isa_Decode.j0 k a0 (decide ((wrap64 (Go.bits .and .u32 a0 32767)) ≥ 16384)) (IntKind.i8.wrap (a0 / 134217728)) (IntKind.i8.wrap (Go.bits .and .u32 (a0 / 8388608) 15)) (IntKind.i8.wrap (Go.bits .and .u32 (a0 / 524288) 15)) (IntKind.i8.wrap (Go.bits .and .u32 (a0 / 32768) 15)) (wrap64 (Go.bits .and .u32 a0 32767))) else (isa_Decode.j0 k a0 false (IntKind.i8.wrap (a0 / 134217728)) (IntKind.i8.wrap (Go.bits .and .u32 (a0 / 8388608) 15)) (IntKind.i8.wrap (Go.bits .and .u32 (a0 / 524288) 15)) (IntKind.i8.wrap (Go.bits .and .u32 (a0 / 32768) 15)) (wrap64 (Go.bits .and .u32 a0 32767)))))
theorem isa_Decode.mono_l : ∀ k, (∀ y0 y1 y2 y3 y4 y5 y6, LeO (isa_Decode.j0 k y0 y1 y2 y3 y4 y5 y6) (isa_Decode.j0 (k + 1) y0 y1 y2 y3 y4 y5 y6))
 | 0 => fun _ _ _ _ _ _ _ r h => by simp [isa_Decode.j0] at h
 | k + 1 => by
  have ih0 := isa_Decode.mono_l k
  ·
   intro y0 y1 y2 y3 y4 y5 y6
   unfold isa_Decode.j0
   repeat' first
   | (with_reducible first | exact ih0 _ _ _ _ _ _ _ | exact LeO.refl _ | exact LeO.none _ | refine LeO.ite ?_ ?_ | refine LeO.bind ?_ (fun _ => ?_))
theorem isa_Decode.mono : ∀ a0 k, LeO (isa_Decode.f k a0) (isa_Decode.f (k + 1) a0) := by
 intro a0 k
 have ih0 := isa_Decode.mono_l k
 unfold isa_Decode.f
 repeat' first
   | (with_reducible first | exact ih0 _ _ _ _ _ _ _ | exact LeO.refl _ | exact LeO.none _ | refine LeO.ite ?_ ?_ | refine LeO.bind ?_ (fun _ => ?_))
set_option maxHeartbeats 8000000 in
set_option maxRecDepth 100000 in
theorem isa_Decode.calls (k : Nat) (a0 : Int) (r1 : Int) (r2 : Int) (r3 : Int) (r4 : Int) (r5 : Int) (w : World) (h : isa_Decode.f k a0 = some (r1, r2, r3, r4, r5)) :
  Calls Tryd.prog 64 #[.int .u32 a0] w fun e w' => e = .returned (.agg #[.int .i8 r1, .int .i8 r2, .int .i8 r3, .int .i8 r4, .int .i64 r5]) ∧ Below w.heap.size w w' := by
 have hu127 := Tryd.underlying127
 have HB := Aside0.mk (Below.refl w.heap.size w)
 have H : ((isa_has.f (IntKind.i8.wrap (a0 / 134217728))).bind fun t105 => (if (Go.bits .and .i64 t105 8) = 0 then (isa_Decode.j0 k a0 false (IntKind.i8.wrap (a0 / 134217728)) (IntKind.i8.wrap (Go.bits .and .u32 (a0 / 8388608) 15)) (IntKind.i8.wrap (Go.bits .and .u32 (a0 / 524288) 15)) (IntKind.i8.wrap (Go.bits .and .u32 (a0 / 32768) 15)) (wrap64 (Go.bits .and .u32 a0 32767))) else (if (Go.bits .and .i64 t105 16) = 0 then (isa_Decode.j0 k a0 (decide ((wrap64 (Go.bits .and .u32 a0 32767)) ≥ 16384)) (IntKind.i8.wrap (a0 / 134217728)) (IntKind.i8.wrap (Go.bits .and .u32 (a0 / 8388608) 15)) (IntKind.i8.wrap (Go.bits .and .u32 (a0 / 524288) 15)) (IntKind.i8.wrap (Go.bits .and .u32 (a0 / 32768) 15)) (wrap64 (Go.bits .and .u32 a0 32767))) else (isa_Decode.j0 k a0 false (IntKind.i8.wrap (a0 / 134217728)) (IntKind.i8.wrap (Go.bits .and .u32 (a0 / 8388608) 15)) (IntKind.i8.wrap (Go.bits .and .u32 (a0 / 524288) 15)) (IntKind.i8.wrap (Go.bits .and .u32 (a0 / 32768) 15)) (wrap64 (Go.bits .and .u32 a0 32767)))))) = some (r1, r2, r3, r4, r5) := h
 clear h
 replace H := Option.bind_eq_some_iff.mp H
 obtain ⟨t105, A20, H⟩ := H
 try dsimp only at H
 have A2 := Aside0.mk A20
 clear A20
 have HC3 := Aside0.mk H
 clear H
 go_enter Tryd.func64, Tryd.ntmps64
 go_upto_region 3 with (first | ((with_reducible refine gate_dst (N := 2) rfl ?_); refine box_event ?hg (N := 2) ?hd (cs := #[.int .i8 0, .int .i8 0, .int .i8 0, .int .i8 0, .int .i64 0]) (t := 127) ?hr ?_; (case hd => rfl); (case hg => rfl); (case hr => go_simp; try rfl); intro gb103 hg w4 hbox hb; have BK103 := Aside0.mk (hbox); have GW103 := Aside0.mk (gwQ hg HB.out); have GE103 := Aside0.mk (gwQ hg HB.out); replace HB := Aside0.mk (bsQ hb HB.out); clear hb hbox hg) | ((with_reducible refine gate_dst (N := 3) rfl ?_); refine box_event ?hg (N := 3) ?hd (cs := #[.int .i8 0, .int .i8 0, .int .i8 0, .int .i8 0, .int .i64 0]) (t := 127) ?hr ?_; (case hd => rfl); (case hg => rfl); (case hr => go_simp; try rfl); intro gb104 hg w5 hbox hb; have n0_ := Aside0.mk (bbQ hb BK103.out); have n1_ := Aside0.mk (bs1Q hb (by repeat with_reducible first | exact HB.out | apply pw_below_drewN | apply below_drew1 | refine below_set ?_ GE103.out)); have n2_ := Aside0.mk (hbox); have n3_ := Aside0.mk (gw1Q hg (by repeat with_reducible first | exact HB.out | apply pw_below_drewN | apply below_drew1 | refine below_set ?_ GE103.out)); have n4_ := Aside0.mk (gw1Q hg (by repeat with_reducible first | exact HB.out | apply pw_below_drewN | apply below_drew1 | refine below_set ?_ GE103.out)); have n5_ := Aside0.mk ((by rw [hg]; exact Nat.ne_of_lt (blk_lt (g := gb103) (o := .cells #[.int .i8 0, .int .i8 0, .int .i8 0, .int .i8 0, .int .i64 0] 127 (0, 0)) (by exact BK103.out)) : gb103 ≠ gb104)); have n6_ := Aside0.mk ((by rw [hg]; exact Nat.ne_of_gt (blk_lt (g := gb103) (o := .cells #[.int .i8 0, .int .i8 0, .int .i8 0, .int .i8 0, .int .i64 0] 127 (0, 0)) (by exact BK103.out)) : gb104 ≠ gb103)); clear BK103; clear HB; have BK103 := n0_; have HB := n1_; have BK104 := n2_; have GW104 := n3_; have GE104 := n4_; have NB103_104 := n5_; have NB104_103 := n6_; clear n0_ n1_ n2_ n3_ n4_ n5_ n6_; clear hb hbox hg; have hnb6 := NB104_103.out; have hnc6 := NB103_104.out; obtain ⟨hcz7_0, hcz7_1, hcz7_2, hcz7_3, hcz7_4⟩ := bcQ5 BK104.out; obtain ⟨hfz7_0, hfz7_1, hfz7_2, hfz7_3, hfz7_4⟩ := fzQ5 BK104.out) | ((with_reducible refine gate_callee (f := 69) rfl ?_); refine goesL_ (some 28) rfl rfl Tryd.func69 (by kernel_rfl) rfl #[.int .i8 (IntKind.i8.wrap (a0 / 134217728))] rfl (by (try simp only [List.map_toArray, List.map_cons, List.map_nil]); try rfl) ?_; (with_reducible refine (isa_has.calls (IntKind.i8.wrap (a0 / 134217728)) t105 _ A2.out).mono ?_); rintro e w8 ⟨rfl, hb⟩; refine ⟨_, rfl, ?_⟩; have n0_ := Aside0.mk (blk_below (g := gb103) (o := .cells #[.int .i8 0, .int .i8 0, .int .i8 0, .int .i8 0, .int .i64 0] 127 (0, 0)) (by refine blk_far ?_ NB103_104.out _; refine blk_far ?_ NB103_104.out _; refine blk_far ?_ NB103_104.out _; refine blk_far ?_ NB103_104.out _; refine blk_far ?_ NB103_104.out _; exact BK103.out) hb); have n1_ := Aside0.mk (blk_below (g := gb104) (o := .cells #[.int .i8 (IntKind.i8.wrap (a0 / 134217728)), .int .i8 (IntKind.i8.wrap (Go.bits .and .u32 (a0 / 8388608) 15)), .int .i8 (IntKind.i8.wrap (Go.bits .and .u32 (a0 / 524288) 15)), .int .i8 (IntKind.i8.wrap (Go.bits .and .u32 (a0 / 32768) 15)), .int .i64 (wrap64 (Go.bits .and .u32 a0 32767))] 127 (0, 0)) (by refine blk_put (cs := #[.int .i8 (IntKind.i8.wrap (a0 / 134217728)), .int .i8 (IntKind.i8.wrap (Go.bits .and .u32 (a0 / 8388608) 15)), .int .i8 (IntKind.i8.wrap (Go.bits .and .u32 (a0 / 524288) 15)), .int .i8 (IntKind.i8.wrap (Go.bits .and .u32 (a0 / 32768) 15)), .int .i64 0]) ?_ 4 _ rfl; refine blk_put (cs := #[.int .i8 (IntKind.i8.wrap (a0 / 134217728)), .int .i8 (IntKind.i8.wrap (Go.bits .and .u32 (a0 / 8388608) 15)), .int .i8 (IntKind.i8.wrap (Go.bits .and .u32 (a0 / 524288) 15)), .int .i8 0, .int .i64 0]) ?_ 3 _ rfl; refine blk_put (cs := #[.int .i8 (IntKind.i8.wrap (a0 / 134217728)), .int .i8 (IntKind.i8.wrap (Go.bits .and .u32 (a0 / 8388608) 15)), .int .i8 0, .int .i8 0, .int .i64 0]) ?_ 2 _ rfl; refine blk_put (cs := #[.int .i8 (IntKind.i8.wrap (a0 / 134217728)), .int .i8 0, .int .i8 0, .int .i8 0, .int .i64 0]) ?_ 1 _ rfl; refine blk_put (cs := #[.int .i8 0, .int .i8 0, .int .i8 0, .int .i8 0, .int .i64 0]) ?_ 0 _ rfl; exact BK104.out) hb); have n2_ := Aside0.mk (bs1Q hb (by repeat with_reducible first | exact HB.out | apply pw_below_drewN | apply below_drew1 | refine below_set ?_ GE103.out | refine below_set ?_ GE104.out)); clear BK103; clear BK104; clear HB; have BK103 := n0_; have BK104 := n1_; have HB := n2_; clear n0_ n1_ n2_; (try clear hb); (try clear hb2); (try clear hk); (try clear hi)))
 (try simp only [Act.put, List.setIfInBounds_toArray, List.set_cons_zero, List.set_cons_succ])
 go_cut [41] (fun v41 wc => ∃ (kq : Nat) (x41_2 : Bool), v41 = .bool x41_2 ∧ Aside0 (isa_Decode.j0 kq a0 x41_2 (IntKind.i8.wrap (a0 / 134217728)) (IntKind.i8.wrap (Go.bits .and .u32 (a0 / 8388608) 15)) (IntKind.i8.wrap (Go.bits .and .u32 (a0 / 524288) 15)) (IntKind.i8.wrap (Go.bits .and .u32 (a0 / 32768) 15)) (wrap64 (Go.bits .and .u32 a0 32767)) = some (r1, r2, r3, r4, r5)) ∧ Aside0 (kq ≤ k) ∧ Aside0 (wc.heap[gb103]? = some (.cells #[.int .i8 0, .int .i8 0, .int .i8 0, .int .i8 0, .int .i64 0] 127 (0, 0))) ∧ Aside0 (wc.heap[gb104]? = some (.cells #[.int .i8 (IntKind.i8.wrap (a0 / 134217728)), .int .i8 (IntKind.i8.wrap (Go.bits .and .u32 (a0 / 8388608) 15)), .int .i8 (IntKind.i8.wrap (Go.bits .and .u32 (a0 / 524288) 15)), .int .i8 (IntKind.i8.wrap (Go.bits .and .u32 (a0 / 32768) 15)), .int .i64 (wrap64 (Go.bits .and .u32 a0 32767))] 127 (0, 0))) ∧ Aside0 (Below w.heap.size w wc))
 case first =>
  have H := HC3.out
  clear HC3
  by_cases c9 : (Go.bits .and .i64 t105 8) = 0
  ·
   rw [if_pos c9] at H
   have c9b0 : ((Go.bits .and .i64 t105 8) == 0) = true := beq_iff_eq.mpr c9
   have c9b1 : ((Go.bits .and .i64 t105 8) != 0) = false := bne_eq_false_iff_eq.mpr c9
   clear c9
   (first | rw [c9b0] | (simp only [i64_w, i32_w]; rw [c9b0]) | skip)
   have H' := Aside0.mk H
   clear H
   go_wp2
   go_meet
   case rel => exact ⟨_, (false), (by first | rfl | (simp; done) | (simp [*]; done)), H', ⟨by first | omega | exact Nat.le_refl _⟩, ⟨by exact BK103.out⟩, ⟨by exact BK104.out⟩, ⟨by repeat with_reducible first | exact HB.out | apply pw_below_drewN | apply below_drew1 | refine below_set ?_ GE103.out | refine below_set ?_ GE104.out⟩⟩
  ·
   rw [if_neg c9] at H
   have c9b0 : ((Go.bits .and .i64 t105 8) == 0) = false := beq_eq_false_iff_ne.mpr c9
   have c9b1 : ((Go.bits .and .i64 t105 8) != 0) = true := bne_iff_ne.mpr c9
   (first | rw [c9b0] | (simp only [i64_w, i32_w]; rw [c9b0]) | skip)
   by_cases c10 : (Go.bits .and .i64 t105 16) = 0
   ·
    rw [if_pos c10] at H
    have c10b0 : ((Go.bits .and .i64 t105 16) == 0) = true := beq_iff_eq.mpr c10
    have c10b1 : ((Go.bits .and .i64 t105 16) != 0) = false := bne_eq_false_iff_eq.mpr c10
    clear c10
    have H' := Aside0.mk H
    clear H
    have hnb11 := NB104_103.out
    have hnc11 := NB103_104.out
    obtain ⟨hcz12_0, hcz12_1, hcz12_2, hcz12_3, hcz12_4⟩ := bcQ5 BK104.out
    obtain ⟨hfz12_0, hfz12_1, hfz12_2, hfz12_3, hfz12_4⟩ := fzQ5 BK104.out
    go_wp2
    go_meet
    case rel => exact ⟨_, (decide ((wrap64 (Go.bits .and .u32 a0 32767)) ≥ 16384)), (by first | rfl | (simp; done) | (simp [*]; done)), H', ⟨by first | omega | exact Nat.le_refl _⟩, ⟨by exact BK103.out⟩, ⟨by exact BK104.out⟩, ⟨by repeat with_reducible first | exact HB.out | apply pw_below_drewN | apply below_drew1 | refine below_set ?_ GE103.out | refine below_set ?_ GE104.out⟩⟩
   ·
    rw [if_neg c10] at H
    have c10b0 : ((Go.bits .and .i64 t105 16) == 0) = false := beq_eq_false_iff_ne.mpr c10
    have c10b1 : ((Go.bits .and .i64 t105 16) != 0) = true := bne_iff_ne.mpr c10
    have H' := Aside0.mk H
    clear H
    go_wp2
    go_meet
    case rel => exact ⟨_, (false), (by first | rfl | (simp; done) | (simp [*]; done)), H', ⟨by first | omega | exact Nat.le_refl _⟩, ⟨by exact BK103.out⟩, ⟨by exact BK104.out⟩, ⟨by repeat with_reducible first | exact HB.out | apply pw_below_drewN | apply below_drew1 | refine below_set ?_ GE103.out | refine below_set ?_ GE104.out⟩⟩
 case rest =>
  clear HC3
  try clear c1
  try clear p2
  try clear c6
  try clear p6
  try clear c9
  try clear c9b0
  try clear c9b1
  try clear c10
  try clear c10b0
  try clear c10b1
  try clear c11
  try clear hcz12_0 hcz12_1 hcz12_2 hcz12_3 hcz12_4
  try clear hcz7_0 hcz7_1 hcz7_2 hcz7_3 hcz7_4
  try clear hfz12_0 hfz12_1 hfz12_2 hfz12_3 hfz12_4
  try clear hfz7_0 hfz7_1 hfz7_2 hfz7_3 hfz7_4
  obtain ⟨kq, x41_2, rfl, HA, HJ2, BK103, BK104, HB⟩ := hcut
  cases kq with
  | zero => exact absurd HA.out (by simp [isa_Decode.j0])
  | succ kj2 =>
   have H := HA.out
   clear HA
   simp only [isa_Decode.j0] at H
   by_cases c13 : x41_2 = true
   ·
    subst c13
    rw [if_pos rfl] at H
    replace H := Option.bind_eq_some_iff.mp H
    obtain ⟨⟨t106, t107⟩, A140, H⟩ := H
    try dsimp only at H
    have A14 := Aside0.mk A140
    clear A140
    by_cases c15 : t107 = 0
    ·
     rw [if_pos c15] at H
     have c15b0 : (t107 == 0) = true := beq_iff_eq.mpr c15
     have c15b1 : (t107 != 0) = false := bne_eq_false_iff_eq.mpr c15
     clear c15
     by_cases c16 : t106 = a0
     ·
      rw [if_pos c16] at H
      have c16b0 : (t106 == a0) = true := beq_iff_eq.mpr c16
      have c16b1 : (t106 != a0) = false := bne_eq_false_iff_eq.mpr c16
      clear c16
      simp only [Option.some.injEq, Prod.mk.injEq] at H
      obtain ⟨rfl, rfl, rfl, rfl, rfl⟩ := H
      have hnb17 := NB104_103.out
      have hnc17 := NB103_104.out
      obtain ⟨hcz18_0, hcz18_1, hcz18_2, hcz18_3, hcz18_4⟩ := bcQ5 BK104.out
      obtain ⟨hfz18_0, hfz18_1, hfz18_2, hfz18_3, hfz18_4⟩ := fzQ5 BK104.out
      go_wp2_with (first | ((with_reducible refine gate_callee (f := 70) rfl ?_); refine goesL_ (some 48) rfl rfl Tryd.func70 (by kernel_rfl) rfl #[.agg #[.int .i8 (IntKind.i8.wrap (a0 / 134217728)), .int .i8 (IntKind.i8.wrap (Go.bits .and .u32 (a0 / 8388608) 15)), .int .i8 (IntKind.i8.wrap (Go.bits .and .u32 (a0 / 524288) 15)), .int .i8 (IntKind.i8.wrap (Go.bits .and .u32 (a0 / 32768) 15)), .int .i64 (wrap64 ((wrap64 (Go.bits .and .u32 a0 32767)) - 32768))]] rfl (by (try simp only [List.map_toArray, List.map_cons, List.map_nil]); try rfl) ?_; (with_reducible refine (isa_Encode.calls (IntKind.i8.wrap (a0 / 134217728)) (IntKind.i8.wrap (Go.bits .and .u32 (a0 / 8388608) 15)) (IntKind.i8.wrap (Go.bits .and .u32 (a0 / 524288) 15)) (IntKind.i8.wrap (Go.bits .and .u32 (a0 / 32768) 15)) (wrap64 ((wrap64 (Go.bits .and .u32 a0 32767)) - 32768)) t106 t107 _ A14.out).mono ?_); rintro e w19 ⟨rfl, hb⟩; refine ⟨_, rfl, ?_⟩; have n0_ := Aside0.mk (blk_below (g := gb103) (o := .cells #[.int .i8 0, .int .i8 0, .int .i8 0, .int .i8 0, .int .i64 0] 127 (0, 0)) (by refine blk_far ?_ NB103_104.out _; exact BK103.out) hb); have n1_ := Aside0.mk (blk_below (g := gb104) (o := .cells #[.int .i8 (IntKind.i8.wrap (a0 / 134217728)), .int .i8 (IntKind.i8.wrap (Go.bits .and .u32 (a0 / 8388608) 15)), .int .i8 (IntKind.i8.wrap (Go.bits .and .u32 (a0 / 524288) 15)), .int .i8 (IntKind.i8.wrap (Go.bits .and .u32 (a0 / 32768) 15)), .int .i64 (wrap64 ((wrap64 (Go.bits .and .u32 a0 32767)) - 32768))] 127 (0, 0)) (by refine blk_put (cs := #[.int .i8 (IntKind.i8.wrap (a0 / 134217728)), .int .i8 (IntKind.i8.wrap (Go.bits .and .u32 (a0 / 8388608) 15)), .int .i8 (IntKind.i8.wrap (Go.bits .and .u32 (a0 / 524288) 15)), .int .i8 (IntKind.i8.wrap (Go.bits .and .u32 (a0 / 32768) 15)), .int .i64 (wrap64 (Go.bits .and .u32 a0 32767))]) ?_ 4 _ rfl; exact BK104.out) hb); have n2_ := Aside0.mk (bs1Q hb (by repeat with_reducible first | exact HB.out | apply pw_below_drewN | apply below_drew1 | refine below_set ?_ GE103.out | refine below_set ?_ GE104.out)); clear BK103; clear BK104; clear HB; have BK103 := n0_; have BK104 := n1_; have HB := n2_; clear n0_ n1_ n2_; (try clear hb); (try clear hb2); (try clear hk); (try clear hi); obtain ⟨hcz20_0, hcz20_1, hcz20_2, hcz20_3, hcz20_4⟩ := bcQ5 BK104.out; obtain ⟨hfz20_0, hfz20_1, hfz20_2, hfz20_3, hfz20_4⟩ := fzQ5 BK104.out; obtain ⟨hcz21_0, hcz21_1, hcz21_2, hcz21_3, hcz21_4⟩ := bcQ5 BK103.out; obtain ⟨hfz21_0, hfz21_1, hfz21_2, hfz21_3, hfz21_4⟩ := fzQ5 BK103.out))
      refine bodyPost_ret (results_cell_row rfl _ _ gb103 127 #[.int .i8 (IntKind.i8.wrap (a0 / 134217728)), .int .i8 (IntKind.i8.wrap (Go.bits .and .u32 (a0 / 8388608) 15)), .int .i8 (IntKind.i8.wrap (Go.bits .and .u32 (a0 / 524288) 15)), .int .i8 (IntKind.i8.wrap (Go.bits .and .u32 (a0 / 32768) 15)), .int .i64 (wrap64 ((wrap64 (Go.bits .and .u32 a0 32767)) - 32768))] (0, 0) _ rfl (by refine blk_put (cs := #[.int .i8 (IntKind.i8.wrap (a0 / 134217728)), .int .i8 (IntKind.i8.wrap (Go.bits .and .u32 (a0 / 8388608) 15)), .int .i8 (IntKind.i8.wrap (Go.bits .and .u32 (a0 / 524288) 15)), .int .i8 (IntKind.i8.wrap (Go.bits .and .u32 (a0 / 32768) 15)), .int .i64 0]) ?_ 4 _ rfl; refine blk_put (cs := #[.int .i8 (IntKind.i8.wrap (a0 / 134217728)), .int .i8 (IntKind.i8.wrap (Go.bits .and .u32 (a0 / 8388608) 15)), .int .i8 (IntKind.i8.wrap (Go.bits .and .u32 (a0 / 524288) 15)), .int .i8 0, .int .i64 0]) ?_ 3 _ rfl; refine blk_put (cs := #[.int .i8 (IntKind.i8.wrap (a0 / 134217728)), .int .i8 (IntKind.i8.wrap (Go.bits .and .u32 (a0 / 8388608) 15)), .int .i8 0, .int .i8 0, .int .i64 0]) ?_ 2 _ rfl; refine blk_put (cs := #[.int .i8 (IntKind.i8.wrap (a0 / 134217728)), .int .i8 0, .int .i8 0, .int .i8 0, .int .i64 0]) ?_ 1 _ rfl; refine blk_put (cs := #[.int .i8 0, .int .i8 0, .int .i8 0, .int .i8 0, .int .i64 0]) ?_ 0 _ rfl; exact BK103.out) Tryd.underlying127 rfl (by kernel_rfl)) rfl ?_
      exact ⟨by first | rfl | (simp [errW_none, errW_some] <;> rfl) | (simp [*, errW_none, errW_some] <;> rfl), by repeat with_reducible first | exact HB.out | apply pw_below_drewN | apply below_drew1 | refine below_set ?_ GE103.out | refine below_set ?_ GE104.out⟩
     ·
      rw [if_neg c16] at H
      have c16b0 : (t106 == a0) = false := beq_eq_false_iff_ne.mpr c16
      have c16b1 : (t106 != a0) = true := bne_iff_ne.mpr c16
      simp only [Option.some.injEq, Prod.mk.injEq] at H
      obtain ⟨rfl, rfl, rfl, rfl, rfl⟩ := H
      have hnb22 := NB104_103.out
      have hnc22 := NB103_104.out
      obtain ⟨hcz23_0, hcz23_1, hcz23_2, hcz23_3, hcz23_4⟩ := bcQ5 BK104.out
      obtain ⟨hfz23_0, hfz23_1, hfz23_2, hfz23_3, hfz23_4⟩ := fzQ5 BK104.out
      go_wp2_with (first | ((with_reducible refine gate_callee (f := 70) rfl ?_); refine goesL_ (some 48) rfl rfl Tryd.func70 (by kernel_rfl) rfl #[.agg #[.int .i8 (IntKind.i8.wrap (a0 / 134217728)), .int .i8 (IntKind.i8.wrap (Go.bits .and .u32 (a0 / 8388608) 15)), .int .i8 (IntKind.i8.wrap (Go.bits .and .u32 (a0 / 524288) 15)), .int .i8 (IntKind.i8.wrap (Go.bits .and .u32 (a0 / 32768) 15)), .int .i64 (wrap64 ((wrap64 (Go.bits .and .u32 a0 32767)) - 32768))]] rfl (by (try simp only [List.map_toArray, List.map_cons, List.map_nil]); try rfl) ?_; (with_reducible refine (isa_Encode.calls (IntKind.i8.wrap (a0 / 134217728)) (IntKind.i8.wrap (Go.bits .and .u32 (a0 / 8388608) 15)) (IntKind.i8.wrap (Go.bits .and .u32 (a0 / 524288) 15)) (IntKind.i8.wrap (Go.bits .and .u32 (a0 / 32768) 15)) (wrap64 ((wrap64 (Go.bits .and .u32 a0 32767)) - 32768)) t106 t107 _ A14.out).mono ?_); rintro e w24 ⟨rfl, hb⟩; refine ⟨_, rfl, ?_⟩; have n0_ := Aside0.mk (blk_below (g := gb103) (o := .cells #[.int .i8 0, .int .i8 0, .int .i8 0, .int .i8 0, .int .i64 0] 127 (0, 0)) (by refine blk_far ?_ NB103_104.out _; exact BK103.out) hb); have n1_ := Aside0.mk (blk_below (g := gb104) (o := .cells #[.int .i8 (IntKind.i8.wrap (a0 / 134217728)), .int .i8 (IntKind.i8.wrap (Go.bits .and .u32 (a0 / 8388608) 15)), .int .i8 (IntKind.i8.wrap (Go.bits .and .u32 (a0 / 524288) 15)), .int .i8 (IntKind.i8.wrap (Go.bits .and .u32 (a0 / 32768) 15)), .int .i64 (wrap64 ((wrap64 (Go.bits .and .u32 a0 32767)) - 32768))] 127 (0, 0)) (by refine blk_put (cs := #[.int .i8 (IntKind.i8.wrap (a0 / 134217728)), .int .i8 (IntKind.i8.wrap (Go.bits .and .u32 (a0 / 8388608) 15)), .int .i8 (IntKind.i8.wrap (Go.bits .and .u32 (a0 / 524288) 15)), .int .i8 (IntKind.i8.wrap (Go.bits .and .u32 (a0 / 32768) 15)), .int .i64 (wrap64 (Go.bits .and .u32 a0 32767))]) ?_ 4 _ rfl; exact BK104.out) hb); have n2_ := Aside0.mk (bs1Q hb (by repeat with_reducible first | exact HB.out | apply pw_below_drewN | apply below_drew1 | refine below_set ?_ GE103.out | refine below_set ?_ GE104.out)); clear BK103; clear BK104; clear HB; have BK103 := n0_; have BK104 := n1_; have HB := n2_; clear n0_ n1_ n2_; (try clear hb); (try clear hb2); (try clear hk); (try clear hi); obtain ⟨hcz25_0, hcz25_1, hcz25_2, hcz25_3, hcz25_4⟩ := bcQ5 BK103.out; obtain ⟨hfz25_0, hfz25_1, hfz25_2, hfz25_3, hfz25_4⟩ := fzQ5 BK103.out))
      refine bodyPost_ret (results_cell_row rfl _ _ gb103 127 #[.int .i8 (-1), .int .i8 0, .int .i8 0, .int .i8 0, .int .i64 (wrap64 (a0))] (0, 0) _ rfl (by refine blk_put (cs := #[.int .i8 (-1), .int .i8 0, .int .i8 0, .int .i8 0, .int .i64 0]) ?_ 4 _ rfl; refine blk_put (cs := #[.int .i8 (-1), .int .i8 0, .int .i8 0, .int .i8 0, .int .i64 0]) ?_ 3 _ rfl; refine blk_put (cs := #[.int .i8 (-1), .int .i8 0, .int .i8 0, .int .i8 0, .int .i64 0]) ?_ 2 _ rfl; refine blk_put (cs := #[.int .i8 (-1), .int .i8 0, .int .i8 0, .int .i8 0, .int .i64 0]) ?_ 1 _ rfl; refine blk_put (cs := #[.int .i8 0, .int .i8 0, .int .i8 0, .int .i8 0, .int .i64 0]) ?_ 0 _ rfl; exact BK103.out) Tryd.underlying127 rfl (by kernel_rfl)) rfl ?_
      exact ⟨by first | rfl | (simp [errW_none, errW_some] <;> rfl) | (simp [*, errW_none, errW_some] <;> rfl), by repeat with_reducible first | exact HB.out | apply pw_below_drewN | apply below_drew1 | refine below_set ?_ GE103.out | refine below_set ?_ GE104.out⟩
    ·
     rw [if_neg c15] at H
     have c15b0 : (t107 == 0) = false := beq_eq_false_iff_ne.mpr c15
     have c15b1 : (t107 != 0) = true := bne_iff_ne.mpr c15
     simp only [Option.some.injEq, Prod.mk.injEq] at H
     obtain ⟨rfl, rfl, rfl, rfl, rfl⟩ := H
     have hnb26 := NB104_103.out
     have hnc26 := NB103_104.out
     obtain ⟨hcz27_0, hcz27_1, hcz27_2, hcz27_3, hcz27_4⟩ := bcQ5 BK104.out
     obtain ⟨hfz27_0, hfz27_1, hfz27_2, hfz27_3, hfz27_4⟩ := fzQ5 BK104.out
     go_wp2_with (first | ((with_reducible refine gate_callee (f := 70) rfl ?_); refine goesL_ (some 48) rfl rfl Tryd.func70 (by kernel_rfl) rfl #[.agg #[.int .i8 (IntKind.i8.wrap (a0 / 134217728)), .int .i8 (IntKind.i8.wrap (Go.bits .and .u32 (a0 / 8388608) 15)), .int .i8 (IntKind.i8.wrap (Go.bits .and .u32 (a0 / 524288) 15)), .int .i8 (IntKind.i8.wrap (Go.bits .and .u32 (a0 / 32768) 15)), .int .i64 (wrap64 ((wrap64 (Go.bits .and .u32 a0 32767)) - 32768))]] rfl (by (try simp only [List.map_toArray, List.map_cons, List.map_nil]); try rfl) ?_; (with_reducible refine (isa_Encode.calls (IntKind.i8.wrap (a0 / 134217728)) (IntKind.i8.wrap (Go.bits .and .u32 (a0 / 8388608) 15)) (IntKind.i8.wrap (Go.bits .and .u32 (a0 / 524288) 15)) (IntKind.i8.wrap (Go.bits .and .u32 (a0 / 32768) 15)) (wrap64 ((wrap64 (Go.bits .and .u32 a0 32767)) - 32768)) t106 t107 _ A14.out).mono ?_); rintro e w28 ⟨rfl, hb⟩; refine ⟨_, rfl, ?_⟩; have n0_ := Aside0.mk (blk_below (g := gb103) (o := .cells #[.int .i8 0, .int .i8 0, .int .i8 0, .int .i8 0, .int .i64 0] 127 (0, 0)) (by refine blk_far ?_ NB103_104.out _; exact BK103.out) hb); have n1_ := Aside0.mk (blk_below (g := gb104) (o := .cells #[.int .i8 (IntKind.i8.wrap (a0 / 134217728)), .int .i8 (IntKind.i8.wrap (Go.bits .and .u32 (a0 / 8388608) 15)), .int .i8 (IntKind.i8.wrap (Go.bits .and .u32 (a0 / 524288) 15)), .int .i8 (IntKind.i8.wrap (Go.bits .and .u32 (a0 / 32768) 15)), .int .i64 (wrap64 ((wrap64 (Go.bits .and .u32 a0 32767)) - 32768))] 127 (0, 0)) (by refine blk_put (cs := #[.int .i8 (IntKind.i8.wrap (a0 / 134217728)), .int .i8 (IntKind.i8.wrap (Go.bits .and .u32 (a0 / 8388608) 15)), .int .i8 (IntKind.i8.wrap (Go.bits .and .u32 (a0 / 524288) 15)), .int .i8 (IntKind.i8.wrap (Go.bits .and .u32 (a0 / 32768) 15)), .int .i64 (wrap64 (Go.bits .and .u32 a0 32767))]) ?_ 4 _ rfl; exact BK104.out) hb); have n2_ := Aside0.mk (bs1Q hb (by repeat with_reducible first | exact HB.out | apply pw_below_drewN | apply below_drew1 | refine below_set ?_ GE103.out | refine below_set ?_ GE104.out)); clear BK103; clear BK104; clear HB; have BK103 := n0_; have BK104 := n1_; have HB := n2_; clear n0_ n1_ n2_; (try clear hb); (try clear hb2); (try clear hk); (try clear hi); obtain ⟨hcz29_0, hcz29_1, hcz29_2, hcz29_3, hcz29_4⟩ := bcQ5 BK103.out; obtain ⟨hfz29_0, hfz29_1, hfz29_2, hfz29_3, hfz29_4⟩ := fzQ5 BK103.out))
     refine bodyPost_ret (results_cell_row rfl _ _ gb103 127 #[.int .i8 (-1), .int .i8 0, .int .i8 0, .int .i8 0, .int .i64 (wrap64 (a0))] (0, 0) _ rfl (by refine blk_put (cs := #[.int .i8 (-1), .int .i8 0, .int .i8 0, .int .i8 0, .int .i64 0]) ?_ 4 _ rfl; refine blk_put (cs := #[.int .i8 (-1), .int .i8 0, .int .i8 0, .int .i8 0, .int .i64 0]) ?_ 3 _ rfl; refine blk_put (cs := #[.int .i8 (-1), .int .i8 0, .int .i8 0, .int .i8 0, .int .i64 0]) ?_ 2 _ rfl; refine blk_put (cs := #[.int .i8 (-1), .int .i8 0, .int .i8 0, .int .i8 0, .int .i64 0]) ?_ 1 _ rfl; refine blk_put (cs := #[.int .i8 0, .int .i8 0, .int .i8 0, .int .i8 0, .int .i64 0]) ?_ 0 _ rfl; exact BK103.out) Tryd.underlying127 rfl (by kernel_rfl)) rfl ?_
     exact ⟨by first | rfl | (simp [errW_none, errW_some] <;> rfl) | (simp [*, errW_none, errW_some] <;> rfl), by repeat with_reducible first | exact HB.out | apply pw_below_drewN | apply below_drew1 | refine below_set ?_ GE103.out | refine below_set ?_ GE104.out⟩
   ·
    replace c13 := Bool.eq_false_iff.mpr c13
    subst c13
    rw [if_neg Bool.false_ne_true] at H
    replace H := Option.bind_eq_some_iff.mp H
    obtain ⟨⟨t108, t109⟩, A300, H⟩ := H
    try dsimp only at H
    have A30 := Aside0.mk A300
    clear A300
    by_cases c31 : t109 = 0
    ·
     rw [if_pos c31] at H
     have c31b0 : (t109 == 0) = true := beq_iff_eq.mpr c31
     have c31b1 : (t109 != 0) = false := bne_eq_false_iff_eq.mpr c31
     clear c31
     by_cases c32 : t108 = a0
     ·
      rw [if_pos c32] at H
      have c32b0 : (t108 == a0) = true := beq_iff_eq.mpr c32
      have c32b1 : (t108 != a0) = false := bne_eq_false_iff_eq.mpr c32
      clear c32
      simp only [Option.some.injEq, Prod.mk.injEq] at H
      obtain ⟨rfl, rfl, rfl, rfl, rfl⟩ := H
      have hnb33 := NB104_103.out
      have hnc33 := NB103_104.out
      obtain ⟨hcz34_0, hcz34_1, hcz34_2, hcz34_3, hcz34_4⟩ := bcQ5 BK104.out
      obtain ⟨hfz34_0, hfz34_1, hfz34_2, hfz34_3, hfz34_4⟩ := fzQ5 BK104.out
      go_wp2_with (first | ((with_reducible refine gate_callee (f := 70) rfl ?_); refine goesL_ (some 48) rfl rfl Tryd.func70 (by kernel_rfl) rfl #[.agg #[.int .i8 (IntKind.i8.wrap (a0 / 134217728)), .int .i8 (IntKind.i8.wrap (Go.bits .and .u32 (a0 / 8388608) 15)), .int .i8 (IntKind.i8.wrap (Go.bits .and .u32 (a0 / 524288) 15)), .int .i8 (IntKind.i8.wrap (Go.bits .and .u32 (a0 / 32768) 15)), .int .i64 (wrap64 (Go.bits .and .u32 a0 32767))]] rfl (by (try simp only [List.map_toArray, List.map_cons, List.map_nil]); try rfl) ?_; (with_reducible refine (isa_Encode.calls (IntKind.i8.wrap (a0 / 134217728)) (IntKind.i8.wrap (Go.bits .and .u32 (a0 / 8388608) 15)) (IntKind.i8.wrap (Go.bits .and .u32 (a0 / 524288) 15)) (IntKind.i8.wrap (Go.bits .and .u32 (a0 / 32768) 15)) (wrap64 (Go.bits .and .u32 a0 32767)) t108 t109 _ A30.out).mono ?_); rintro e w35 ⟨rfl, hb⟩; refine ⟨_, rfl, ?_⟩; replace BK103 := Aside0.mk (bbQ hb BK103.out); replace BK104 := Aside0.mk (bbQ hb BK104.out); replace HB := Aside0.mk (bs1Q hb (by repeat with_reducible first | exact HB.out | apply pw_below_drewN | apply below_drew1 | refine below_set ?_ GE103.out | refine below_set ?_ GE104.out)); (try clear hb); (try clear hb2); (try clear hk); (try clear hi); obtain ⟨hcz36_0, hcz36_1, hcz36_2, hcz36_3, hcz36_4⟩ := bcQ5 BK104.out; obtain ⟨hfz36_0, hfz36_1, hfz36_2, hfz36_3, hfz36_4⟩ := fzQ5 BK104.out; obtain ⟨hcz37_0, hcz37_1, hcz37_2, hcz37_3, hcz37_4⟩ := bcQ5 BK103.out; obtain ⟨hfz37_0, hfz37_1, hfz37_2, hfz37_3, hfz37_4⟩ := fzQ5 BK103.out))
      refine bodyPost_ret (results_cell_row rfl _ _ gb103 127 #[.int .i8 (IntKind.i8.wrap (a0 / 134217728)), .int .i8 (IntKind.i8.wrap (Go.bits .and .u32 (a0 / 8388608) 15)), .int .i8 (IntKind.i8.wrap (Go.bits .and .u32 (a0 / 524288) 15)), .int .i8 (IntKind.i8.wrap (Go.bits .and .u32 (a0 / 32768) 15)), .int .i64 (wrap64 (Go.bits .and .u32 a0 32767))] (0, 0) _ rfl (by refine blk_put (cs := #[.int .i8 (IntKind.i8.wrap (a0 / 134217728)), .int .i8 (IntKind.i8.wrap (Go.bits .and .u32 (a0 / 8388608) 15)), .int .i8 (IntKind.i8.wrap (Go.bits .and .u32 (a0 / 524288) 15)), .int .i8 (IntKind.i8.wrap (Go.bits .and .u32 (a0 / 32768) 15)), .int .i64 0]) ?_ 4 _ rfl; refine blk_put (cs := #[.int .i8 (IntKind.i8.wrap (a0 / 134217728)), .int .i8 (IntKind.i8.wrap (Go.bits .and .u32 (a0 / 8388608) 15)), .int .i8 (IntKind.i8.wrap (Go.bits .and .u32 (a0 / 524288) 15)), .int .i8 0, .int .i64 0]) ?_ 3 _ rfl; refine blk_put (cs := #[.int .i8 (IntKind.i8.wrap (a0 / 134217728)), .int .i8 (IntKind.i8.wrap (Go.bits .and .u32 (a0 / 8388608) 15)), .int .i8 0, .int .i8 0, .int .i64 0]) ?_ 2 _ rfl; refine blk_put (cs := #[.int .i8 (IntKind.i8.wrap (a0 / 134217728)), .int .i8 0, .int .i8 0, .int .i8 0, .int .i64 0]) ?_ 1 _ rfl; refine blk_put (cs := #[.int .i8 0, .int .i8 0, .int .i8 0, .int .i8 0, .int .i64 0]) ?_ 0 _ rfl; exact BK103.out) Tryd.underlying127 rfl (by kernel_rfl)) rfl ?_
      exact ⟨by first | rfl | (simp [errW_none, errW_some] <;> rfl) | (simp [*, errW_none, errW_some] <;> rfl), by repeat with_reducible first | exact HB.out | apply pw_below_drewN | apply below_drew1 | refine below_set ?_ GE103.out | refine below_set ?_ GE104.out⟩
     ·
      rw [if_neg c32] at H
      have c32b0 : (t108 == a0) = false := beq_eq_false_iff_ne.mpr c32
      have c32b1 : (t108 != a0) = true := bne_iff_ne.mpr c32
      simp only [Option.some.injEq, Prod.mk.injEq] at H
      obtain ⟨rfl, rfl, rfl, rfl, rfl⟩ := H
      have hnb38 := NB104_103.out
      have hnc38 := NB103_104.out
      obtain ⟨hcz39_0, hcz39_1, hcz39_2, hcz39_3, hcz39_4⟩ := bcQ5 BK104.out
      obtain ⟨hfz39_0, hfz39_1, hfz39_2, hfz39_3, hfz39_4⟩ := fzQ5 BK104.out
      go_wp2_with (first | ((with_reducible refine gate_callee (f := 70) rfl ?_); refine goesL_ (some 48) rfl rfl Tryd.func70 (by kernel_rfl) rfl #[.agg #[.int .i8 (IntKind.i8.wrap (a0 / 134217728)), .int .i8 (IntKind.i8.wrap (Go.bits .and .u32 (a0 / 8388608) 15)), .int .i8 (IntKind.i8.wrap (Go.bits .and .u32 (a0 / 524288) 15)), .int .i8 (IntKind.i8.wrap (Go.bits .and .u32 (a0 / 32768) 15)), .int .i64 (wrap64 (Go.bits .and .u32 a0 32767))]] rfl (by (try simp only [List.map_toArray, List.map_cons, List.map_nil]); try rfl) ?_; (with_reducible refine (isa_Encode.calls (IntKind.i8.wrap (a0 / 134217728)) (IntKind.i8.wrap (Go.bits .and .u32 (a0 / 8388608) 15)) (IntKind.i8.wrap (Go.bits .and .u32 (a0 / 524288) 15)) (IntKind.i8.wrap (Go.bits .and .u32 (a0 / 32768) 15)) (wrap64 (Go.bits .and .u32 a0 32767)) t108 t109 _ A30.out).mono ?_); rintro e w40 ⟨rfl, hb⟩; refine ⟨_, rfl, ?_⟩; replace BK103 := Aside0.mk (bbQ hb BK103.out); replace BK104 := Aside0.mk (bbQ hb BK104.out); replace HB := Aside0.mk (bs1Q hb (by repeat with_reducible first | exact HB.out | apply pw_below_drewN | apply below_drew1 | refine below_set ?_ GE103.out | refine below_set ?_ GE104.out)); (try clear hb); (try clear hb2); (try clear hk); (try clear hi); obtain ⟨hcz41_0, hcz41_1, hcz41_2, hcz41_3, hcz41_4⟩ := bcQ5 BK103.out; obtain ⟨hfz41_0, hfz41_1, hfz41_2, hfz41_3, hfz41_4⟩ := fzQ5 BK103.out))
      refine bodyPost_ret (results_cell_row rfl _ _ gb103 127 #[.int .i8 (-1), .int .i8 0, .int .i8 0, .int .i8 0, .int .i64 (wrap64 (a0))] (0, 0) _ rfl (by refine blk_put (cs := #[.int .i8 (-1), .int .i8 0, .int .i8 0, .int .i8 0, .int .i64 0]) ?_ 4 _ rfl; refine blk_put (cs := #[.int .i8 (-1), .int .i8 0, .int .i8 0, .int .i8 0, .int .i64 0]) ?_ 3 _ rfl; refine blk_put (cs := #[.int .i8 (-1), .int .i8 0, .int .i8 0, .int .i8 0, .int .i64 0]) ?_ 2 _ rfl; refine blk_put (cs := #[.int .i8 (-1), .int .i8 0, .int .i8 0, .int .i8 0, .int .i64 0]) ?_ 1 _ rfl; refine blk_put (cs := #[.int .i8 0, .int .i8 0, .int .i8 0, .int .i8 0, .int .i64 0]) ?_ 0 _ rfl; exact BK103.out) Tryd.underlying127 rfl (by kernel_rfl)) rfl ?_
      exact ⟨by first | rfl | (simp [errW_none, errW_some] <;> rfl) | (simp [*, errW_none, errW_some] <;> rfl), by repeat with_reducible first | exact HB.out | apply pw_below_drewN | apply below_drew1 | refine below_set ?_ GE103.out | refine below_set ?_ GE104.out⟩
    ·
     rw [if_neg c31] at H
     have c31b0 : (t109 == 0) = false := beq_eq_false_iff_ne.mpr c31
     have c31b1 : (t109 != 0) = true := bne_iff_ne.mpr c31
     simp only [Option.some.injEq, Prod.mk.injEq] at H
     obtain ⟨rfl, rfl, rfl, rfl, rfl⟩ := H
     have hnb42 := NB104_103.out
     have hnc42 := NB103_104.out
     obtain ⟨hcz43_0, hcz43_1, hcz43_2, hcz43_3, hcz43_4⟩ := bcQ5 BK104.out
     obtain ⟨hfz43_0, hfz43_1, hfz43_2, hfz43_3, hfz43_4⟩ := fzQ5 BK104.out
     go_wp2_with (first | ((with_reducible refine gate_callee (f := 70) rfl ?_); refine goesL_ (some 48) rfl rfl Tryd.func70 (by kernel_rfl) rfl #[.agg #[.int .i8 (IntKind.i8.wrap (a0 / 134217728)), .int .i8 (IntKind.i8.wrap (Go.bits .and .u32 (a0 / 8388608) 15)), .int .i8 (IntKind.i8.wrap (Go.bits .and .u32 (a0 / 524288) 15)), .int .i8 (IntKind.i8.wrap (Go.bits .and .u32 (a0 / 32768) 15)), .int .i64 (wrap64 (Go.bits .and .u32 a0 32767))]] rfl (by (try simp only [List.map_toArray, List.map_cons, List.map_nil]); try rfl) ?_; (with_reducible refine (isa_Encode.calls (IntKind.i8.wrap (a0 / 134217728)) (IntKind.i8.wrap (Go.bits .and .u32 (a0 / 8388608) 15)) (IntKind.i8.wrap (Go.bits .and .u32 (a0 / 524288) 15)) (IntKind.i8.wrap (Go.bits .and .u32 (a0 / 32768) 15)) (wrap64 (Go.bits .and .u32 a0 32767)) t108 t109 _ A30.out).mono ?_); rintro e w44 ⟨rfl, hb⟩; refine ⟨_, rfl, ?_⟩; replace BK103 := Aside0.mk (bbQ hb BK103.out); replace BK104 := Aside0.mk (bbQ hb BK104.out); replace HB := Aside0.mk (bs1Q hb (by repeat with_reducible first | exact HB.out | apply pw_below_drewN | apply below_drew1 | refine below_set ?_ GE103.out | refine below_set ?_ GE104.out)); (try clear hb); (try clear hb2); (try clear hk); (try clear hi); obtain ⟨hcz45_0, hcz45_1, hcz45_2, hcz45_3, hcz45_4⟩ := bcQ5 BK103.out; obtain ⟨hfz45_0, hfz45_1, hfz45_2, hfz45_3, hfz45_4⟩ := fzQ5 BK103.out))
     refine bodyPost_ret (results_cell_row rfl _ _ gb103 127 #[.int .i8 (-1), .int .i8 0, .int .i8 0, .int .i8 0, .int .i64 (wrap64 (a0))] (0, 0) _ rfl (by refine blk_put (cs := #[.int .i8 (-1), .int .i8 0, .int .i8 0, .int .i8 0, .int .i64 0]) ?_ 4 _ rfl; refine blk_put (cs := #[.int .i8 (-1), .int .i8 0, .int .i8 0, .int .i8 0, .int .i64 0]) ?_ 3 _ rfl; refine blk_put (cs := #[.int .i8 (-1), .int .i8 0, .int .i8 0, .int .i8 0, .int .i64 0]) ?_ 2 _ rfl; refine blk_put (cs := #[.int .i8 (-1), .int .i8 0, .int .i8 0, .int .i8 0, .int .i64 0]) ?_ 1 _ rfl; refine blk_put (cs := #[.int .i8 0, .int .i8 0, .int .i8 0, .int .i8 0, .int .i64 0]) ?_ 0 _ rfl; exact BK103.out) Tryd.underlying127 rfl (by kernel_rfl)) rfl ?_
     exact ⟨by first | rfl | (simp [errW_none, errW_some] <;> rfl) | (simp [*, errW_none, errW_some] <;> rfl), by repeat with_reducible first | exact HB.out | apply pw_below_drewN | apply below_drew1 | refine below_set ?_ GE103.out | refine below_set ?_ GE104.out⟩


def isa_Target.f (k : Nat) (a0 : Int) : Option (Int × Bool) := (isa_Decode.f k a0).bind fun bt110 => ((isa_has.f bt110.1).bind fun t116 => (if (Go.bits .and .i64 t116 16) = 0 then (some (0, false)) else (some (bt110.2.2.2.2, true))))
theorem isa_Target.mono : ∀ a0 k, LeO (isa_Target.f k a0) (isa_Target.f (k + 1) a0) := by
 intro a0 k
 unfold isa_Target.f
 repeat' first
   | (with_reducible first | exact isa_Decode.mono _ _ | exact LeO.refl _ | exact LeO.none _ | refine LeO.ite ?_ ?_ | refine LeO.bind ?_ (fun _ => ?_))
set_option maxHeartbeats 8000000 in
set_option maxRecDepth 100000 in
theorem isa_Target.calls (k : Nat) (a0 : Int) (r1 : Int) (r2 : Bool) (w : World) (h : isa_Target.f k a0 = some (r1, r2)) :
  Calls Tryd.prog 23 #[.int .u32 a0] w fun e w' => e = .returned (.tuple #[.int .i64 r1, .bool r2]) ∧ Below w.heap.size w w' := by
 have hu127 := Tryd.underlying127
 have HB := Aside0.mk (Below.refl w.heap.size w)
 have H : ((isa_Decode.f k a0).bind fun bt110 => ((isa_has.f bt110.1).bind fun t116 => (if (Go.bits .and .i64 t116 16) = 0 then (some (0, false)) else (some (bt110.2.2.2.2, true))))) = some (r1, r2) := h
 clear h
 replace H := Option.bind_eq_some_iff.mp H
 obtain ⟨⟨t110, t111, t112, t113, t114⟩, A20, H⟩ := H
 try dsimp only at H
 have A2 := Aside0.mk A20
 clear A20
 replace H := Option.bind_eq_some_iff.mp H
 obtain ⟨t116, A30, H⟩ := H
 try dsimp only at H
 have A3 := Aside0.mk A30
 clear A30
 by_cases c4 : (Go.bits .and .i64 t116 16) = 0
 ·
  rw [if_pos c4] at H
  have c4b0 : ((Go.bits .and .i64 t116 16) == 0) = true := beq_iff_eq.mpr c4
  have c4b1 : ((Go.bits .and .i64 t116 16) != 0) = false := bne_eq_false_iff_eq.mpr c4
  clear c4
  simp only [Option.some.injEq, Prod.mk.injEq] at H
  obtain ⟨rfl, rfl⟩ := H
  go_enter Tryd.func23, Tryd.ntmps23
  go_wp2_with (first | ((with_reducible refine gate_callee (f := 64) rfl ?_); refine goesL_ (some 6) rfl rfl Tryd.func64 (by kernel_rfl) rfl #[.int .u32 a0] rfl (by (try simp only [List.map_toArray, List.map_cons, List.map_nil]); try rfl) ?_; (with_reducible refine (isa_Decode.calls k a0 t110 t111 t112 t113 t114 _ A2.out).mono ?_); rintro e w5 ⟨rfl, hb⟩; refine ⟨_, rfl, ?_⟩; replace HB := Aside0.mk (bsQ hb HB.out); (try clear hb); (try clear hb2); (try clear hk); (try clear hi)) | ((with_reducible refine gate_dst (N := 4) rfl ?_); refine box_event ?hg (N := 4) ?hd (cs := #[.int .i8 0, .int .i8 0, .int .i8 0, .int .i8 0, .int .i64 0]) (t := 127) ?hr ?_; (case hd => rfl); (case hg => rfl); (case hr => go_simp; try rfl); intro gb115 hg w6 hbox hb; have BK115 := Aside0.mk (hbox); have GW115 := Aside0.mk (gwQ hg HB.out); have GE115 := Aside0.mk (gwQ hg HB.out); replace HB := Aside0.mk (bsQ hb HB.out); clear hb hbox hg; obtain ⟨hcz7_0, hcz7_1, hcz7_2, hcz7_3, hcz7_4⟩ := bcQ5 BK115.out; obtain ⟨hfz7_0, hfz7_1, hfz7_2, hfz7_3, hfz7_4⟩ := fzQ5 BK115.out) | ((with_reducible refine gate_callee (f := 69) rfl ?_); refine goesL_ (some 9) rfl rfl Tryd.func69 (by kernel_rfl) rfl #[.int .i8 t110] rfl (by (try simp only [List.map_toArray, List.map_cons, List.map_nil]); try rfl) ?_; (with_reducible refine (isa_has.calls t110 t116 _ A3.out).mono ?_); rintro e w8 ⟨rfl, hb⟩; refine ⟨_, rfl, ?_⟩; have n0_ := Aside0.mk (blk_below (g := gb115) (o := .cells #[.int .i8 t110, .int .i8 t111, .int .i8 t112, .int .i8 t113, .int .i64 t114] 127 (0, 0)) (by refine blk_put (cs := #[.int .i8 t110, .int .i8 t111, .int .i8 t112, .int .i8 t113, .int .i64 0]) ?_ 4 _ rfl; refine blk_put (cs := #[.int .i8 t110, .int .i8 t111, .int .i8 t112, .int .i8 0, .int .i64 0]) ?_ 3 _ rfl; refine blk_put (cs := #[.int .i8 t110, .int .i8 t111, .int .i8 0, .int .i8 0, .int .i64 0]) ?_ 2 _ rfl; refine blk_put (cs := #[.int .i8 t110, .int .i8 0, .int .i8 0, .int .i8 0, .int .i64 0]) ?_ 1 _ rfl; refine blk_put (cs := #[.int .i8 0, .int .i8 0, .int .i8 0, .int .i8 0, .int .i64 0]) ?_ 0 _ rfl; exact BK115.out) hb); have n1_ := Aside0.mk (bs1Q hb (by repeat with_reducible first | exact HB.out | apply pw_below_drewN | apply below_drew1 | refine below_set ?_ GE115.out)); clear BK115; clear HB; have BK115 := n0_; have HB := n1_; clear n0_ n1_; (try clear hb); (try clear hb2); (try clear hk); (try clear hi)))
  go_ret2
  exact ⟨by first | rfl | (simp [errW_none, errW_some] <;> rfl) | (simp [*, errW_none, errW_some] <;> rfl), by repeat with_reducible first | exact HB.out | apply pw_below_drewN | apply below_drew1 | refine below_set ?_ GE115.out⟩
 ·
  rw [if_neg c4] at H
  have c4b0 : ((Go.bits .and .i64 t116 16) == 0) = false := beq_eq_false_iff_ne.mpr c4
  have c4b1 : ((Go.bits .and .i64 t116 16) != 0) = true := bne_iff_ne.mpr c4
  simp only [Option.some.injEq, Prod.mk.injEq] at H
  obtain ⟨rfl, rfl⟩ := H
  go_enter Tryd.func23, Tryd.ntmps23
  go_wp2_with (first | ((with_reducible refine gate_callee (f := 64) rfl ?_); refine goesL_ (some 6) rfl rfl Tryd.func64 (by kernel_rfl) rfl #[.int .u32 a0] rfl (by (try simp only [List.map_toArray, List.map_cons, List.map_nil]); try rfl) ?_; (with_reducible refine (isa_Decode.calls k a0 t110 t111 t112 t113 t114 _ A2.out).mono ?_); rintro e w9 ⟨rfl, hb⟩; refine ⟨_, rfl, ?_⟩; replace HB := Aside0.mk (bsQ hb HB.out); (try clear hb); (try clear hb2); (try clear hk); (try clear hi)) | ((with_reducible refine gate_dst (N := 4) rfl ?_); refine box_event ?hg (N := 4) ?hd (cs := #[.int .i8 0, .int .i8 0, .int .i8 0, .int .i8 0, .int .i64 0]) (t := 127) ?hr ?_; (case hd => rfl); (case hg => rfl); (case hr => go_simp; try rfl); intro gb115 hg w10 hbox hb; have BK115 := Aside0.mk (hbox); have GW115 := Aside0.mk (gwQ hg HB.out); have GE115 := Aside0.mk (gwQ hg HB.out); replace HB := Aside0.mk (bsQ hb HB.out); clear hb hbox hg; obtain ⟨hcz11_0, hcz11_1, hcz11_2, hcz11_3, hcz11_4⟩ := bcQ5 BK115.out; obtain ⟨hfz11_0, hfz11_1, hfz11_2, hfz11_3, hfz11_4⟩ := fzQ5 BK115.out) | ((with_reducible refine gate_callee (f := 69) rfl ?_); refine goesL_ (some 9) rfl rfl Tryd.func69 (by kernel_rfl) rfl #[.int .i8 t110] rfl (by (try simp only [List.map_toArray, List.map_cons, List.map_nil]); try rfl) ?_; (with_reducible refine (isa_has.calls t110 t116 _ A3.out).mono ?_); rintro e w12 ⟨rfl, hb⟩; refine ⟨_, rfl, ?_⟩; have n0_ := Aside0.mk (blk_below (g := gb115) (o := .cells #[.int .i8 t110, .int .i8 t111, .int .i8 t112, .int .i8 t113, .int .i64 t114] 127 (0, 0)) (by refine blk_put (cs := #[.int .i8 t110, .int .i8 t111, .int .i8 t112, .int .i8 t113, .int .i64 0]) ?_ 4 _ rfl; refine blk_put (cs := #[.int .i8 t110, .int .i8 t111, .int .i8 t112, .int .i8 0, .int .i64 0]) ?_ 3 _ rfl; refine blk_put (cs := #[.int .i8 t110, .int .i8 t111, .int .i8 0, .int .i8 0, .int .i64 0]) ?_ 2 _ rfl; refine blk_put (cs := #[.int .i8 t110, .int .i8 0, .int .i8 0, .int .i8 0, .int .i64 0]) ?_ 1 _ rfl; refine blk_put (cs := #[.int .i8 0, .int .i8 0, .int .i8 0, .int .i8 0, .int .i64 0]) ?_ 0 _ rfl; exact BK115.out) hb); have n1_ := Aside0.mk (bs1Q hb (by repeat with_reducible first | exact HB.out | apply pw_below_drewN | apply below_drew1 | refine below_set ?_ GE115.out)); clear BK115; clear HB; have BK115 := n0_; have HB := n1_; clear n0_ n1_; (try clear hb); (try clear hb2); (try clear hk); (try clear hi); obtain ⟨hcz13_0, hcz13_1, hcz13_2, hcz13_3, hcz13_4⟩ := bcQ5 BK115.out; obtain ⟨hfz13_0, hfz13_1, hfz13_2, hfz13_3, hfz13_4⟩ := fzQ5 BK115.out))
  go_ret2
  exact ⟨by first | rfl | (simp [errW_none, errW_some] <;> rfl) | (simp [*, errW_none, errW_some] <;> rfl), by repeat with_reducible first | exact HB.out | apply pw_below_drewN | apply below_drew1 | refine below_set ?_ GE115.out⟩
end Go.Proofs.YtiaohbbafaaibabDoor.P

/- OWN TEXT: the instructions over plain numbers: what the program's and the reference's functions come to. -/
set_option linter.unusedVariables false
set_option linter.unusedSimpArgs false
namespace Go.Proofs.YtiaohbbafaaibabDoor.P
open Go.RowKit Go.Proofs.YtiaohbbafaaibabDoorW.PrintWords

def hasF (op : Int) : Int := if op < 0 then 0 else if op ≥ 22 then 0 else hasT op
theorem has1 (op : Int) : isa_has.f op = some (hasF op) := by
 unfold isa_has.f hasF
 repeat' split
 all_goals rfl
def bitF (f m : Int) : Bool := Go.bits .and .i64 f m != 0
def tup (op : Int) : Bool × Bool × Bool × Bool × Bool := (bitF (hasF op) 1, bitF (hasF op) 2, bitF (hasF op) 4, bitF (hasF op) 8, bitF (hasF op) 16)
theorem tup_out {op : Int} (h : op < 0 ∨ 22 ≤ op) : tup op = (false, false, false, false, false) := by
  have e : hasF op = 0 := by unfold hasF; repeat' split
                             all_goals first | rfl | omega
  unfold tup
  rw [e]
  decide +kernel

theorem hasF_in {op : Int} (h0 : 0 ≤ op) (h1 : op < 22) : hasF op = hasT op := by unfold hasF; rw [if_neg (by omega), if_neg (by omega)]

theorem and_u32 (i : Nat) (hi : i ≤ 32) {x : Int} (h0 : 0 ≤ x) (h1 : x < 4294967296) : Go.bits .and .u32 x (2 ^ i - 1) = x % 2 ^ i :=
 Go.bits_mask .u32 32 (by decide) (fun n a b => by rw [IntKind.wrap_u32]; omega) i hi x h0 (by omega)
theorem and_15 {x : Int} (h0 : 0 ≤ x) (h1 : x < 4294967296) : Go.bits .and .u32 x 15 = x % 16 := and_u32 4 (by decide) h0 h1
theorem and_32767 {x : Int} (h0 : 0 ≤ x) (h1 : x < 4294967296) : Go.bits .and .u32 x 32767 = x % 32768 := and_u32 15 (by decide) h0 h1
theorem or_u32 (i : Nat) {x y : Int} (hx0 : 0 ≤ x) (hx : x % 2 ^ i = 0) (hx1 : x < 4294967296) (hy0 : 0 ≤ y) (hy : y < 2 ^ i) (hy1 : y < 4294967296) : Go.bits .or .u32 x y = x + y :=
 Go.bits_join .u32 32 (by decide) (fun n a b => by rw [IntKind.wrap_u32]; omega) i x y hx0 hx (by omega) hy0 hy (by omega)
def wordS (op d a b n : Int) : Int := op * 134217728 + d * 8388608 + a * 524288 + b * 32768 + n % 32768
theorem encW_eq {op d a b n : Int} (h0 : 0 ≤ op) (h1 : op < 22) (d0 : 0 ≤ d) (d1 : d < 16) (a0 : 0 ≤ a) (a1 : a < 16) (b0 : 0 ≤ b) (b1 : b < 16) : encW op d a b n = wordS op d a b n := by
 unfold encW wordS
 rw [and_32767 (by omega) (by omega), or_u32 27 (x := op * 134217728) (y := d * 8388608) (by omega) (by omega) (by omega) (by omega) (by omega) (by omega),
  or_u32 23 (x := op * 134217728 + d * 8388608) (y := a * 524288) (by omega) (by omega) (by omega) (by omega) (by omega) (by omega),
  or_u32 19 (x := op * 134217728 + d * 8388608 + a * 524288) (y := b * 32768) (by omega) (by omega) (by omega) (by omega) (by omega) (by omega),
  or_u32 15 (y := n % 4294967296 % 32768) (by omega) (by omega) (by omega) (by omega) (by omega) (by omega)]
 omega
def encS (op d a b n : Int) : Int × Int := if op < 0 then (0, 10) else if op ≥ 22 then (0, 10) else if BadIns (hasT op) d a b n then (0, 11) else (wordS op d a b n, 0)
theorem not_bad {f d a b n : Int} (h : ¬ BadIns f d a b n) : (0 ≤ d ∧ d < 16) ∧ (0 ≤ a ∧ a < 16) ∧ (0 ≤ b ∧ b < 16) ∧ lowT f ≤ n ∧ n ≤ highT f := by
 unfold BadIns badReg at h
 omega
theorem enc1 (op d a b n : Int) : isa_Encode.f op d a b n = some (encS op d a b n) := by
 unfold isa_Encode.f encS
 split
 ·
  rfl
 ·
  split
  ·
   rfl
  ·
   split
   ·
    rfl
   ·
    rename_i h1 h2 h3
    obtain ⟨⟨d0, d1⟩, ⟨a0, a1⟩, ⟨b0, b1⟩, _⟩ := not_bad h3
    rw [encW_eq (by omega) (by omega) d0 d1 a0 a1 b0 b1]
theorem low_range (f : Int) : -16384 ≤ lowT f ∧ highT f ≤ 16383 := by
 unfold lowT highT
 repeat' split
 all_goals omega




theorem i8_id {x : Int} (h0 : -128 ≤ x) (h1 : x ≤ 127) : IntKind.i8.wrap x = x := by
 simp [IntKind.wrap, IntKind.bits, IntKind.signed]
 omega
def nS (w : Int) : Int := if bitF (hasF (w / 134217728)) 8 = true ∧ bitF (hasF (w / 134217728)) 16 = false ∧ 16384 ≤ w % 32768 then w % 32768 - 32768 else w % 32768
def decS (w : Int) : Int × Int × Int × Int × Int :=
 if encS (w / 134217728) (w / 8388608 % 16) (w / 524288 % 16) (w / 32768 % 16) (nS w) = (w, 0) then (w / 134217728, w / 8388608 % 16, w / 524288 % 16, w / 32768 % 16, nS w) else (-1, 0, 0, 0, w)
def decJ (w : Int) (b : Bool) (op d a c m : Int) : Int × Int × Int × Int × Int := if encS op d a c (if b = true then m - 32768 else m) = (w, 0) then (op, d, a, c, if b = true then m - 32768 else m) else (-1, 0, 0, 0, w)
theorem decJ1 {w : Int} (w0 : 0 ≤ w) (w1 : w < 4294967296) (b : Bool) (op d a c m : Int) (m0 : 0 ≤ m) (m1 : m < 32768) : Ev (fun k => isa_Decode.j0 k w b op d a c m) (decJ w b op d a c m) := by
 have hw : wrap64 w = w := wrap64_id (by omega) (by omega)
 have hm : wrap64 (m - 32768) = m - 32768 := wrap64_id (by omega) (by omega)
 refine Ev.succ ?_
 simp only [isa_Decode.j0, hw, hm]
 cases b with
 | true =>
  refine Ev.iteT rfl (Ev.bind0 (enc1 _ _ _ _ _) ?_)
  unfold decJ
  simp only [if_true]
  refine Ev.ite2 (fun h2 => Ev.ite2 (fun h1 => Ev.val ?_) (fun h1 => Ev.val ?_)) (fun h2 => Ev.val ?_)
  ·
   rw [if_pos (Prod.ext h1 h2)]
  ·
   rw [if_neg (fun h => h1 (by rw [h]))]
  ·
   rw [if_neg (fun h => h2 (by rw [h]))]
 | false =>
  refine Ev.iteF (by decide) (Ev.bind0 (enc1 _ _ _ _ _) ?_)
  unfold decJ
  simp only [Bool.false_eq_true, if_false]
  refine Ev.ite2 (fun h2 => Ev.ite2 (fun h1 => Ev.val ?_) (fun h1 => Ev.val ?_)) (fun h2 => Ev.val ?_)
  ·
   rw [if_pos (Prod.ext h1 h2)]
  ·
   rw [if_neg (fun h => h1 (by rw [h]))]
  ·
   rw [if_neg (fun h => h2 (by rw [h]))]

theorem parts {w : Int} (w0 : 0 ≤ w) (w1 : w < 4294967296) : IntKind.i8.wrap (w / 134217728) = w / 134217728 ∧ IntKind.i8.wrap (Go.bits .and .u32 (w / 8388608) 15) = w / 8388608 % 16 ∧ IntKind.i8.wrap (Go.bits .and .u32 (w / 524288) 15) = w / 524288 % 16 ∧
  IntKind.i8.wrap (Go.bits .and .u32 (w / 32768) 15) = w / 32768 % 16 ∧ wrap64 (Go.bits .and .u32 w 32767) = w % 32768 := by
 rw [and_15 (by omega) (by omega), and_15 (by omega) (by omega), and_15 (by omega) (by omega), and_32767 w0 w1]
 exact ⟨i8_id (by omega) (by omega), i8_id (by omega) (by omega), i8_id (by omega) (by omega), i8_id (by omega) (by omega), wrap64_id (by omega) (by omega)⟩
theorem dec1 {w : Int} (w0 : 0 ≤ w) (w1 : w < 4294967296) : Ev (fun k => isa_Decode.f k w) (decS w) := by
 have m0 : 0 ≤ w % 32768 := by omega
 have m1 : w % 32768 < 32768 := by omega
 obtain ⟨p1, p2, p3, p4, p5⟩ := parts w0 w1
 have J := fun b => decJ1 w0 w1 b (w / 134217728) (w / 8388608 % 16) (w / 524288 % 16) (w / 32768 % 16) (w % 32768) m0 m1
 have E0 : (bitF (hasF (w / 134217728)) 8 = true ∧ bitF (hasF (w / 134217728)) 16 = false ∧ 16384 ≤ w % 32768) → decJ w true (w / 134217728) (w / 8388608 % 16) (w / 524288 % 16) (w / 32768 % 16) (w % 32768) = decS w := fun h => by
  unfold decJ decS nS
  simp only [if_pos h, if_true]
 have E1 : ¬ (bitF (hasF (w / 134217728)) 8 = true ∧ bitF (hasF (w / 134217728)) 16 = false ∧ 16384 ≤ w % 32768) → decJ w false (w / 134217728) (w / 8388608 % 16) (w / 524288 % 16) (w / 32768 % 16) (w % 32768) = decS w := fun h => by
  unfold decJ decS nS
  simp only [if_neg h, Bool.false_eq_true, if_false]
 unfold isa_Decode.f
 rw [p1, p2, p3, p4, p5]
 refine Ev.bind0 (has1 _) (Ev.ite2 (fun h8 => ?_) (fun h8 => Ev.ite2 (fun h16 => ?_) (fun h16 => ?_)))
 ·
  exact Ev.to (J false) (E1 (fun h => by simp [bitF, h8] at h))
 ·
  by_cases hm : w % 32768 ≥ 16384
  ·
   rw [show decide (w % 32768 ≥ 16384) = true from decide_eq_true hm]
   exact Ev.to (J true) (E0 ⟨by simp [bitF, h8], by simp [bitF, h16], hm⟩)
  ·
   rw [show decide (w % 32768 ≥ 16384) = false from decide_eq_false hm]
   exact Ev.to (J false) (E1 (fun h => hm h.2.2))
 ·
  exact Ev.to (J false) (E1 (fun h => by simp [bitF, h16] at h))

theorem encS_ok {op d a b n w : Int} (h : encS op d a b n = (w, 0)) : (0 ≤ op ∧ op < 22) ∧ ¬ BadIns (hasT op) d a b n ∧ w = wordS op d a b n := by
 unfold encS at h
 split at h
 ·
  injection h with h1 h2; cases h2
 ·
  split at h
  ·
   injection h with h1 h2; cases h2
  ·
   split at h
   ·
    injection h with h1 h2; cases h2
   ·
    injection h with h1 h2
    exact ⟨⟨by omega, by omega⟩, by assumption, h1.symm⟩
theorem encS_snd (op d a b n : Int) : (encS op d a b n).2 = 0 ∨ ((encS op d a b n).1 = 0 ∧ ((encS op d a b n).2 = 10 ∨ (encS op d a b n).2 = 11)) := by
 unfold encS
 repeat' split
 all_goals simp
theorem encS_fst (op d a b n : Int) : 0 ≤ (encS op d a b n).1 ∧ (encS op d a b n).1 < 4294967296 := by
 by_cases h : (encS op d a b n).2 = 0
 ·
  obtain ⟨⟨h0, h1⟩, hb, hw⟩ := encS_ok (w := (encS op d a b n).1) (Prod.ext rfl h)
  obtain ⟨⟨d0, d1⟩, ⟨a0, a1⟩, ⟨b0, b1⟩, _⟩ := not_bad hb
  unfold wordS at hw
  omega
 ·
  have := encS_snd op d a b n
  omega
theorem round_trip {op d a b n w : Int} (h : encS op d a b n = (w, 0)) : decS w = (op, d, a, b, n) := by
 obtain ⟨⟨h0, h1⟩, hb, hw⟩ := encS_ok h
 obtain ⟨⟨d0, d1⟩, ⟨a0, a1⟩, ⟨b0, b1⟩, n0, n1⟩ := not_bad hb
 have hl := low_range (hasT op)
 have q : 0 ≤ n % 32768 ∧ n % 32768 < 32768 := by omega
 unfold wordS at hw
 generalize hm : n % 32768 = m at hw q
 have e1 : w / 134217728 = op := by omega
 have e2 : w / 8388608 % 16 = d := by omega
 have e3 : w / 524288 % 16 = a := by omega
 have e4 : w / 32768 % 16 = b := by omega
 have e5 : w % 32768 = m := by omega
 have e6 : nS w = n := by
  unfold nS bitF
  rw [e1, e5, hasF_in h0 h1]
  unfold lowT at n0
  unfold highT at n1
  by_cases h16 : Go.bits .and .i64 (hasT op) 16 = 0
  ·
   rw [if_pos h16] at n0 n1
   by_cases h8 : Go.bits .and .i64 (hasT op) 8 = 0
   ·
    rw [if_pos h8] at n0 n1
    rw [if_neg (by simp [h8])]
    omega
   ·
    rw [if_neg h8] at n0 n1
    by_cases hmm : 16384 ≤ m
    ·
     rw [if_pos (by simp [h8, h16, hmm])]; omega
    ·
     rw [if_neg (by simp [hmm])]; omega
  ·
   rw [if_neg h16] at n0 n1
   rw [if_neg (by simp [h16])]
   omega
 unfold decS
 rw [e1, e2, e3, e4, e6, if_pos h]
theorem decS_cases (w : Int) : (decS w).1 = -1 ∧ decS w = (-1, 0, 0, 0, w) ∨ 0 ≤ (decS w).1 ∧ encS (decS w).1 (decS w).2.1 (decS w).2.2.1 (decS w).2.2.2.1 (decS w).2.2.2.2 = (w, 0) := by
 unfold decS
 split
 ·
  rename_i h
  exact .inr ⟨(encS_ok h).1.1, h⟩
 ·
  exact .inl ⟨rfl, rfl⟩

def tgtS (w : Int) : Int × Bool := if bitF (hasF (decS w).1) 16 = true then ((decS w).2.2.2.2, true) else (0, false)
theorem tgt1 {w : Int} (w0 : 0 ≤ w) (w1 : w < 4294967296) : Ev (fun k => isa_Target.f k w) (tgtS w) := by
 unfold isa_Target.f tgtS
 refine Ev.bind (dec1 w0 w1) (Ev.bind0 (has1 _) (Ev.ite2 (fun h => Ev.val ?_) (fun h => Ev.val ?_)))
 ·
  rw [if_neg (by simp [bitF, h])]
 ·
  rw [if_pos (by simp [bitF, h])]

theorem tgtS_range {w : Int} (h : (tgtS w).2 = true) : 0 ≤ (tgtS w).1 ∧ (tgtS w).1 < 16384 := by
 unfold tgtS at h ⊢
 split at h
 ·
  rename_i hb
  rw [if_pos hb]
  rcases decS_cases w with ⟨h1, _⟩ | ⟨h1, h2⟩
  ·
   have e := tup_out (op := (decS w).1) (.inl (by omega))
   have : bitF (hasF (decS w).1) 16 = false := congrArg (fun t : Bool × Bool × Bool × Bool × Bool => t.2.2.2.2) e
   rw [this] at hb
   cases hb
  ·
   obtain ⟨⟨g0, g1⟩, hbad, _⟩ := encS_ok h2
   obtain ⟨_, _, _, n0, n1⟩ := not_bad hbad
   rw [hasF_in g0 g1] at hb
   have h16 : ¬ Go.bits .and .i64 (hasT (decS w).1) 16 = 0 := by simpa [bitF] using hb
   unfold lowT at n0
   unfold highT at n1
   rw [if_neg h16] at n0 n1
   exact ⟨n0, by show (decS w).2.2.2.2 < 16384; omega⟩
 ·
  cases h
end Go.Proofs.YtiaohbbafaaibabDoor.P

/- OWN TEXT: whether an object may be, over plain lists: what object.Check comes to. -/
namespace Go.Proofs.YtiaohbbafaaibabDoor.P
open Go.RowKit Go.Proofs.YtiaohbbafaaibabDoorW.PrintWords Go.Proofs.YtiaohbbafaaibabDoorW.PrintLast Go.Proofs.YtiaohbbafaaibabDoorW.PrintMore
set_option linter.unusedVariables false
set_option linter.unusedSimpArgs false

abbrev Rel := S68
def rl (l : List Rel) (i : Nat) : Rel := rd_T68 l (i : Int)
def wordsO (t : List Int) : Bool := t.all fun x => decide (0 ≤ x) && decide (x < 4294967296)
theorem wordsO_at {t : List Int} (h : wordsO t = true) {x : Int} (hx : x ∈ t) : 0 ≤ x ∧ x < 4294967296 := by
 have := List.all_eq_true.1 h x hx
 simpa using this
def lastR (l : List Rel) : Nat → Int
 | 0 => -1
 | i + 1 => (rl l i).f0
def relE (code : List Int) (ns : Int) (l : List Rel) (i : Nat) : Int :=
 if (rl l i).f0 ≤ lastR l i then 24 else if (rl l i).f0 ≥ (code.length : Int) then 24 else if (rl l i).f1 < 0 then 24 else if (rl l i).f1 ≥ ns then 24 else if (tgtS (rd code (rl l i).f0)).2 = true then (if (tgtS (rd code (rl l i).f0)).1 = 0 then 0 else 24) else 24
def markB (l : List Rel) : Nat → Nat → Bool
 | 0 => fun _ => false
 | i + 1 => fun k => decide (k = (rl l i).f0.toNat) || markB l i k
def scanE (code : List Int) (named : Nat → Bool) (k : Nat) : Int :=
 if (tgtS (rd code (k : Int))).2 = true then (if named k = true then 0 else if (tgtS (rd code (k : Int))).1 > (code.length : Int) then 22 else 0) else 0
def scanS (g : Nat → Int) (n : Nat) : Nat → Int × Int
 | 0 => (0, 0)
 | d + 1 => if g (n - (d + 1)) = 0 then scanS g n d else (g (n - (d + 1)), -1 - ((n - (d + 1) : Nat) : Int))
theorem scanS_step (g : Nat → Int) {n i : Nat} (h : i < n) : scanS g n (n - i) = if g i = 0 then scanS g n (n - (i + 1)) else (g i, -1 - (i : Int)) := by
 rw [show n - i = (n - (i + 1)) + 1 by omega]
 show (if g (n - (n - (i + 1) + 1)) = 0 then _ else _) = _
 rw [show n - (n - (i + 1) + 1) = i by omega]
def relocsS (code : List Int) (ns : Int) (l : List Rel) : Int × Int :=
 if (firstS (relE code ns l) l.length l.length).1 = 0 then scanS (scanE code (markB l l.length)) code.length code.length else firstS (relE code ns l) l.length l.length
def sizeS (name : ByteArray) (code : List Int) (dat : Int) (data : List Int) (ns nr : Nat) : Int × Int :=
 if nameS name = true then (if (code.length : Int) > 16384 then (21, -1) else if (ns : Int) > 256 then (21, -2) else if (nr : Int) > (code.length : Int) then (21, -3) else if dat < 0 then (25, -1) else if dat > 4096 then (25, -1) else if (data.length : Int) > 4096 - dat then (25, -1) else (0, 0)) else (20, -1)
def chkO (name : ByteArray) (code : List Int) (dat : Int) (data : List Int) (syms : List Sym) (rels : List Rel) : Int × Int :=
  if (sizeS name code dat data syms.length rels.length).1 = 0 then
    (if (symsS syms (code.length : Int)).1 = 0 then
      (if (relocsS code (syms.length : Int) rels).1 = 0 then (0, 0) else relocsS code (syms.length : Int) rels)
    else symsS syms (code.length : Int))
  else sizeS name code dat data syms.length rels.length
def object_Check.f (a0_0 : ByteArray) (l0_1 : List Int) (a0_2 : Int) (l0_3 : List Int) (l0_4 : List Sym) (l0_5 : List Rel) : Option (Int × Int) := if wordsO l0_1 = true then some (chkO a0_0 l0_1 a0_2 l0_3 l0_4 l0_5) else none
end Go.Proofs.YtiaohbbafaaibabDoor.P

/- OWN TEXT: what object.relocs comes to (it marks places in an array, which the print does not take). -/
namespace Go.Proofs.YtiaohbbafaaibabDoor.P
open Go.RowKit Go.Maps Go.Proofs.YtiaohbbafaaibabDoorW.PrintWords Go.Proofs.YtiaohbbafaaibabDoorW.PrintLast Go.Proofs.YtiaohbbafaaibabDoorW.PrintMore Go.Proofs.YtiaohbbafaaibabDoor.Arr Go.Proofs.YtiaohbbafaaibabDoor.MapB
set_option linter.unusedVariables false
set_option linter.unusedSimpArgs false

def aggOf : Option Value → Array Value | some (.agg a) => a | _ => #[]
def isF : Value → Bool | .bool false => true | _ => false
def allF : List Value → Nat → Bool
 | [], 0 => true
 | [], _ + 1 => false
 | _ :: _, 0 => false
 | a :: l, n + 1 => isF a && allF l n
theorem allF_len : ∀ {l : List Value} {n : Nat}, allF l n = true → l.length = n ∧ ∀ k, k < n → l[k]? = some (.bool false)
  | [], 0, _ => ⟨rfl, fun k hk => by omega⟩
  | a :: l, n + 1, h => by
    unfold allF at h
    rw [Bool.and_eq_true] at h
    have IH := allF_len h.2
    refine ⟨by simp [IH.1], fun k hk => ?_⟩
    cases k with
    | zero =>
      have := h.1
      unfold isF at this
      split at this
      · rfl
      · cases this
    | succ k => simpa using IH.2 k (by omega)
theorem zMark_all : allF (aggOf Tryd.t151.zero).toList 16384 = true := by kernel_rfl
theorem run_mark (w : World) : (Instr.alloc 151 true (.tuple #[])).run Tryd.prog w = .ok (.pointer (some ⟨w.heap.size, 0, none⟩)) (w.alloc (.cells (aggOf Tryd.t151.zero) 151)) := by kernel_rfl
def Named (W : World) (g : Nat) (N : Nat → Bool) : Prop := ∃ Z : Array Value, W.heap[g]? = some (.cells Z 151 (0, 0)) ∧ Z.size = 16384 ∧ ∀ k, k < 16384 → Z[k]? = some (.bool (N k))
theorem mark_zero : ∃ Z : Array Value, allF Z.toList 16384 = true ∧ ∀ w : World, (Instr.alloc 151 true (.tuple #[])).run Tryd.prog w = .ok (.pointer (some ⟨w.heap.size, 0, none⟩)) (w.alloc (.cells Z 151)) := ⟨_, zMark_all, run_mark⟩
theorem exec_mark {Z : Array Value} (hrun : ∀ w : World, (Instr.alloc 151 true (.tuple #[])).run Tryd.prog w = .ok (.pointer (some ⟨w.heap.size, 0, none⟩)) (w.alloc (.cells Z 151))) {ev : Operand → Value} {o : Oper} (ho : o.op = .alloc 151) (W : World) :
  (execOp ev o).run Tryd.prog W = .ok (.value (.pointer (some ⟨W.heap.size, 0, none⟩))) (W.alloc (.cells Z 151)) := by
 unfold execOp
 rw [ho]
 simp only [Sem.run_bind, hrun, Result.andThen_ok, Sem.run_pure]
theorem Named.start {W : World} {g : Nat} {Z : Array Value} (hZ : allF Z.toList 16384 = true) (h : W.heap[g]? = some (.cells Z 151 (0, 0))) : Named W g (fun _ => false) := by
 obtain ⟨h1, h2⟩ := allF_len hZ
 exact ⟨_, h, by rw [← h1]; simp, fun k hk => by rw [← h2 k hk]; simp⟩
theorem Named.cell {W : World} {g : Nat} {N : Nat → Bool} (h : Named W g N) {k : Nat} (hk : k < 16384) : W.cell? ⟨g, k, none⟩ = some (.bool (N k)) := by
 obtain ⟨Z, h1, h2, h3⟩ := h
 rw [blk_cell h1 k, h3 k hk]
structure OR (w W : World) (gb : Nat) (oi : Obj) (gr gn : Nat) (N : Nat → Bool) : Prop where
  low : Below w.heap.size w W
  obj : W.heap[gb]? = some oi
  res : W.heap[gr]? = some (ansCell 0 0)
  nam : Named W gn N
  n1 : gb ≠ gn
  n2 : gr ≠ gn
  g1 : w.heap.size ≤ gr
  g2 : w.heap.size ≤ gn
theorem Named.grown {W W1 : World} {g : Nat} {N : Nat → Bool} {row : Option Nat} (h : Named W g N) (hg : W.grownBy W1 row) (hne : some g ≠ row) : Named W1 g N := by
 obtain ⟨Z, h1, h2, h3⟩ := h
 exact ⟨Z, blk_grown h1 hg hne, h2, h3⟩
theorem OR.below {w W W1 : World} {gb gr gn : Nat} {oi : Obj} {N : Nat → Bool} (h : OR w W gb oi gr gn N) (hb : Below W.heap.size W W1) : OR w W1 gb oi gr gn N :=
 ⟨below_then h.low h.low.size hb, blk_below h.obj hb, blk_below h.res hb, h.nam.grown (grown_of_below hb none) (by simp), h.n1, h.n2, h.g1, h.g2⟩
theorem OR.grown {w W W1 : World} {gb gr gn g : Nat} {oi : Obj} {N : Nat → Bool} (h : OR w W gb oi gr gn N) (hg : W.grownBy W1 (some g)) (hw : w.heap.size ≤ g) (h1 : gb ≠ g) (h2 : gr ≠ g) (h3 : gn ≠ g) : OR w W1 gb oi gr gn N :=
 ⟨pw_below_grown h.low (some g) h.low.size hg (fun k hk => by have := Option.some.inj hk; omega), blk_grown h.obj hg (fun e => h1 (Option.some.inj e)), blk_grown h.res hg (fun e => h2 (Option.some.inj e)), h.nam.grown hg (fun e => h3 (Option.some.inj e)), h.n1, h.n2, h.g1, h.g2⟩
theorem OR.mark {w W W1 : World} {gb gr gn : Nat} {oi : Obj} {N : Nat → Bool} (h : OR w W gb oi gr gn N) {Z : Array Value} {j : Nat} (hz : Z.size = 16384) (hN : ∀ k, k < 16384 → Z[k]? = some (.bool (N k))) (hj : j < 16384) (hp : Put W W1 gn (Z.setIfInBounds j (.bool true)) 151) : OR w W1 gb oi gr gn (fun k => decide (k = j) || N k) :=
  ⟨hp.below h.low h.g2, blk_grown h.obj (put_grownN hp) (fun e => h.n1 (Option.some.inj e)), blk_grown h.res (put_grownN hp) (fun e => h.n2 (Option.some.inj e)),
   ⟨_, hp.blk, by simp [hz], fun k hk => by
      by_cases e : k = j
      · subst e; simp [hz, hj]
      · rw [Array.getElem?_setIfInBounds_ne (by omega), hN k hk]; simp [e]⟩, h.n1, h.n2, h.g1, h.g2⟩
theorem rel_one (a b : Int) : ((#[.int .i64 a, .int .i64 b] : Array Value).all fun v => v.oneCell') = true := by kernel_rfl
theorem bool_one (W : World) : (sizeOf 4).run Tryd.prog W = .ok 1 W := by kernel_rfl
theorem relE_eq (code : List Int) (ns : Int) (l : List Rel) (i : Nat) : relE code ns l i = if (rl l i).f0 ≤ lastR l i then 24 else if (rl l i).f0 ≥ (code.length : Int) then 24 else if (rl l i).f1 < 0 then 24 else if (rl l i).f1 ≥ ns then 24 else if (tgtS (rd code (rl l i).f0)).2 = true then (if (tgtS (rd code (rl l i).f0)).1 = 0 then 0 else 24) else 24 := rfl
theorem scanE_eq (code : List Int) (named : Nat → Bool) (k : Nat) : scanE code named k = if (tgtS (rd code (k : Int))).2 = true then (if named k = true then 0 else if (tgtS (rd code (k : Int))).1 > (code.length : Int) then 22 else 0) else 0 := rfl
theorem firstS_at {g : Nat → Int} {n i : Nat} (hi : i < n) (hz : ∀ j, j < i → g j = 0) (hne : g i ≠ 0) : firstS g n n = (g i, (i : Int)) := by
  have : ∀ d j, j + d = i → firstS g n (n - j) = (g i, (i : Int)) := by
    intro d
    induction d with
    | zero => intro j hj; obtain rfl : j = i := by omega
              rw [firstS_step g hi, if_neg hne]
    | succ d ih => intro j hj; rw [firstS_step g (by omega), if_pos (hz j (by omega))]; exact ih (j + 1) (by omega)
  exact this i 0 (by omega)
theorem firstS_zero {g : Nat → Int} {n : Nat} (hz : ∀ j, j < n → g j = 0) : firstS g n n = (0, 0) := by
 have : ∀ d, d ≤ n → firstS g n d = (0, 0) := by
  intro d
  induction d with
  | zero => intro _; rfl
  | succ d ih => intro hd; unfold firstS; rw [if_pos (hz _ (by omega))]; exact ih (by omega)
 exact this n (Nat.le_refl _)
theorem scanS_at {g : Nat → Int} {n i : Nat} (hi : i < n) (hz : ∀ j, j < i → g j = 0) (hne : g i ≠ 0) : scanS g n n = (g i, -1 - (i : Int)) := by
  have : ∀ d j, j + d = i → scanS g n (n - j) = (g i, -1 - (i : Int)) := by
    intro d
    induction d with
    | zero => intro j hj; obtain rfl : j = i := by omega
              rw [scanS_step g hi, if_neg hne]
    | succ d ih => intro j hj; rw [scanS_step g (by omega), if_pos (hz j (by omega))]; exact ih (j + 1) (by omega)
  exact this i 0 (by omega)
theorem scanS_zero {g : Nat → Int} {n : Nat} (hz : ∀ j, j < n → g j = 0) : scanS g n n = (0, 0) := by
 have : ∀ d, d ≤ n → scanS g n d = (0, 0) := by
  intro d
  induction d with
  | zero => intro _; rfl
  | succ d ih => intro hd; unfold scanS; rw [if_pos (hz _ (by omega))]; exact ih (by omega)
 exact this n (Nat.le_refl _)
theorem relocs_first {code : List Int} {ns : Int} {l : List Rel} {i : Nat} (hz : ∀ j, j < i → relE code ns l j = 0) (hi : i < l.length) (hne : relE code ns l i ≠ 0) : relocsS code ns l = (relE code ns l i, (i : Int)) := by
 unfold relocsS
 rw [firstS_at hi hz hne, if_neg hne]
theorem relocs_scan {code : List Int} {ns : Int} {l : List Rel} (hz : ∀ j, j < l.length → relE code ns l j = 0) : relocsS code ns l = scanS (scanE code (markB l l.length)) code.length code.length := by
 unfold relocsS
 rw [firstS_zero hz, if_pos rfl]
theorem Named.cell' {W : World} {g : Nat} {N : Nat → Bool} (h : Named W g N) {k : Nat} (hk : k < 16384) {b : Bool} (e : N k = b) : W.cell? ⟨g, k, none⟩ = some (.bool b) := e ▸ h.cell hk
theorem lastR_lo (code : List Int) (ns : Int) (l : List Rel) : ∀ i, (∀ j, j < i → relE code ns l j = 0) → -1 ≤ lastR l i
  | 0, _ => Int.le_refl _
  | i + 1, h => by
    have h1 := h i (by omega)
    have IH := lastR_lo code ns l i (fun j hj => h j (by omega))
    show -1 ≤ (rl l i).f0
    rw [relE_eq] at h1
    split at h1
    · cases h1
    · omega

set_option maxHeartbeats 8000000 in
set_option maxRecDepth 100000 in
theorem object_relocs.calls (a0_0 : ByteArray) (A0_1 : Option Addr) (c0_1 : Nat) (l0_1 : List Int) (a0_2 : Int) (A0_3 : Option Addr) (c0_3 : Nat) (l0_3 : List Int) (A0_4 : Option Addr) (c0_4 : Nat) (l0_4 : List (S75)) (A0_5 : Option Addr) (c0_5 : Nat) (l0_5 : List (S68)) (r1 r2 : Int) (w : World) (hr0_1 : Kd.C (Kd.int .u32) w A0_1 l0_1.length l0_1) (hc0_1 : l0_1.length ≤ c0_1) (hr0_3 : Kd.C (Kd.int .i64) w A0_3 l0_3.length l0_3) (hc0_3 : l0_3.length ≤ c0_3) (hr0_4 : Kd.C k75 w A0_4 l0_4.length l0_4) (hc0_4 : l0_4.length ≤ c0_4) (hr0_5 : Kd.C k68 w A0_5 l0_5.length l0_5) (hc0_5 : l0_5.length ≤ c0_5) (hw : wordsO l0_1 = true) (hl : l0_1.length ≤ 16384) (hl5 : l0_5.length ≤ 1000000) (h : relocsS l0_1 (l0_4.length : Int) l0_5 = (r1, r2)) :
  Calls Tryd.prog 48 #[.agg #[.string a0_0, .slice A0_1 l0_1.length c0_1, .int .i64 a0_2, .slice A0_3 l0_3.length c0_3, .slice A0_4 l0_4.length c0_4, .slice A0_5 l0_5.length c0_5]] w fun e w' => e = .returned (.agg #[.int .i64 r1, .int .i64 r2]) ∧ Below w.heap.size w w' := by
 have hu1 := Tryd.underlying27
 have hu2 := Tryd.underlying101
 have hu3 := Tryd.underlying68
 have hu4 := Tryd.underlying151
 have HR := Aside0.mk hr0_5
 have HC := Aside0.mk hr0_1
 have HW := Aside0.mk hw
 clear hr0_1 hc0_1 hr0_3 hc0_3 hr0_4 hc0_4 hr0_5 hc0_5 hw
 have HH := Aside0.mk h
 obtain ⟨Z0, hZ0, hrz⟩ := mark_zero
 have HZ0 := Aside0.mk hZ0
 have HRZ := Aside0.mk hrz
 clear hZ0 hrz
 clear h
 go_enter Tryd.func48, Tryd.ntmps48
 go_wp2_with (first | ((with_reducible refine gate_dst (N := 1) rfl ?_); refine box_event ?hg (N := 1) ?hd (cs := #[.string a0_0, .slice A0_1 l0_1.length c0_1, .int .i64 a0_2, .slice A0_3 l0_3.length c0_3, .slice A0_4 l0_4.length c0_4, .slice A0_5 l0_5.length c0_5]) (t := 27) ?hr ?_; (case hd => rfl); (case hg => rfl); (case hr => first | (go_simp; done) | (go_simp; rfl)); intro gb hgb w1 BK1 hb1; have HB := Aside0.mk (below_then (Below.refl w.heap.size w) (Nat.le_refl _) hb1); have BO := Aside0.mk (show w1.heap[gb]? = some (objCell a0_0 A0_1 l0_1.length c0_1 a0_2 A0_3 l0_3.length c0_3 A0_4 l0_4.length c0_4 A0_5 l0_5.length c0_5) from BK1); clear BK1 hb1 hgb) | ((with_reducible refine gate_dst (N := 2) rfl ?_); refine box_event ?hg (N := 2) ?hd (cs := #[.int .i64 0, .int .i64 0]) (t := 101) ?hr ?_; (case hd => rfl); (case hg => rfl); (case hr => first | (go_simp; done) | (go_simp; rfl)); intro gr hgr w2 BK2 hb2; have G1 := Aside0.mk (show w.heap.size ≤ gr by rw [hgr]; exact HB.out.size); have L1 := Aside0.mk (show gb < gr by rw [hgr]; exact blk_lt BO.out); replace HB := Aside0.mk (below_then HB.out HB.out.size hb2); replace BO := Aside0.mk (blk_below BO.out hb2); have BR := Aside0.mk (show w2.heap[gr]? = some (ansCell 0 0) from BK2); clear BK2 hb2 hgr) | ((with_reducible refine gate_dst (N := 3) rfl ?_); refine box_event ?hg (N := 3) ?hd (cs := Z0) (t := 151) ?hr ?_; (case hd => rfl); (case hg => rfl); (case hr => exact exec_mark HRZ.out rfl _); intro gn hgn w3 BK3 hb3; have HO := Aside0.mk (show OR w w3 gb (objCell a0_0 A0_1 l0_1.length c0_1 a0_2 A0_3 l0_3.length c0_3 A0_4 l0_4.length c0_4 A0_5 l0_5.length c0_5) gr gn (fun _ => false) from ⟨below_then HB.out HB.out.size hb3, blk_below BO.out hb3, blk_below BR.out hb3, Named.start HZ0.out BK3, by rw [hgn]; exact Nat.ne_of_lt (blk_lt BO.out), by rw [hgn]; exact Nat.ne_of_lt (blk_lt BR.out), G1.out, by rw [hgn]; exact HB.out.size⟩); clear HB BO BR hb3 BK3 hgn; have hco1 := blk_cell HO.out.obj 1; have hco4 := blk_cell HO.out.obj 4; have hco5 := blk_cell HO.out.obj 5))
 go_loopw [4, 16] (fun u4 u16 wr => ∃ i : Nat, u16 = .int .i64 (i : Int) ∧ u4 = .int .i64 (lastR l0_5 i) ∧ i ≤ l0_5.length ∧ Aside0 (∀ j, j < i → relE l0_1 (l0_4.length : Int) l0_5 j = 0) ∧ Aside0 (OR w wr gb (objCell a0_0 A0_1 l0_1.length c0_1 a0_2 A0_3 l0_3.length c0_3 A0_4 l0_4.length c0_4 A0_5 l0_5.length c0_5) gr gn (markB l0_5 i))) (fun _ u16 _ => l0_5.length - (intOf u16).toNat)
 case atStart => exact ⟨0, rfl, rfl, Nat.zero_le _, ⟨fun j hj => absurd hj (Nat.not_lt_zero _)⟩, HO⟩
 case round =>
  clear HO hco1 hco4 hco5
  obtain ⟨i, rfl, rfl, hile, HZ, HO⟩ := hrel
  have hco1 := blk_cell HO.out.obj 1; have hco4 := blk_cell HO.out.obj 4; have hco5 := blk_cell HO.out.obj 5
  by_cases hlt : i < l0_5.length
  ·
   have hse := relE_eq l0_1 (l0_4.length : Int) l0_5 i
   have HFirst := Aside0.mk (fun (hne : relE l0_1 (l0_4.length : Int) l0_5 i ≠ 0) => relocs_first (code := l0_1) (ns := (l0_4.length : Int)) HZ.out hlt hne)
   have hmk : markB l0_5 (i + 1) = fun k => decide (k = (rl l0_5 i).f0.toNat) || markB l0_5 i k := rfl
   have hla : lastR l0_5 (i + 1) = (rl l0_5 i).f0 := rfl
   have hlo := lastR_lo _ _ _ i HZ.out
   have p0 : (0 : Int) ≤ (i : Int) := by omega
   have q0 : (i : Int) < (l0_5.length : Int) := by omega
   obtain ⟨ad, eA, hx0, hx1⟩ := at_T68 HR.out (i : Int) p0 q0
   subst eA
   rw [show ((i : Int)).toNat = i by omega] at hx0 hx1
   have hy0 := (HO.out.low.cell (World.block_lt_of_cell? w _ hx0)).trans hx0
   have hy1 := (HO.out.low.cell (World.block_lt_of_cell? w _ hx1)).trans hx1
   clear hx0 hx1
   rw [show rd_T68 l0_5 (i : Int) = rl l0_5 i from rfl] at hy0 hy1
   have hre : relE l0_1 (l0_4.length : Int) l0_5 i = relE l0_1 (l0_4.length : Int) l0_5 i := rfl
   generalize hge : relE l0_1 (l0_4.length : Int) l0_5 i = ge at hse HFirst
   have HGE := Aside0.mk hge
   clear hge hre
   generalize rl l0_5 i = s at hy0 hy1 hse hmk hla
   obtain ⟨sa, sm⟩ := s
   simp only at hy0 hy1 hse hmk hla
   have HMK := Aside0.mk hmk
   have HLA := Aside0.mk hla
   clear hmk hla
   generalize hlr : lastR l0_5 i = la at hse hlo
   clear hlr
   have hwr : wrap64 ((i : Int) + 1) = ((i + 1 : Nat) : Int) := by rw [wrap64_id (by omega) (by omega)]; rfl
   replace p0 := eq_true p0
   replace q0 := eq_true q0
   have hltb : decide ((i : Int) < (l0_5.length : Int)) = true := decide_eq_true (by omega)
   by_cases c1 : sa ≤ la
   ·
    rw [if_pos c1] at hse
    have d1 : decide (sa ≤ la) = true := decide_eq_true c1
    clear c1 hlo
    subst hse
    have h := (HFirst.out (by decide)).symm.trans HH.out
    injection h with e1 e2
    subst e1 e2
    go_wp2_with (first | ((with_reducible refine gate_dst (N := 6) rfl ?_); refine box_event ?hg (N := 6) ?hd (cs := #[.int .i64 0, .int .i64 0]) (t := 68) ?hr ?_; (case hd => rfl); (case hg => rfl); (case hr => first | (go_simp; done) | (go_simp; rfl)); intro gs hgs w5 BK5 hb5; have LN := Aside0.mk (show gn < gs by rw [hgs]; obtain ⟨Z, hz, _⟩ := HO.out.nam; exact blk_lt hz); have LG := Aside0.mk (show gb < gs by rw [hgs]; exact blk_lt HO.out.obj); have LR := Aside0.mk (show gr < gs by rw [hgs]; exact blk_lt HO.out.res); replace HO := Aside0.mk (HO.out.below hb5); have BS := Aside0.mk BK5; clear BK5 hb5 hgs) | ((with_reducible refine gate_store (t := 68) rfl ?_); refine wpList_store_whole rfl rfl rfl gs _ #[.int .i64 sa, .int .i64 sm] _ rfl rfl BS.out (by kernel_rfl) rfl (rel_one _ _) ?_; intro w6 hp; replace HO := Aside0.mk (HO.out.grown (put_grownN hp) (by have := LG.out; have := LN.out; have := HO.out.g2; omega) (by have := LG.out; omega) (by have := LR.out; omega) (by have := LN.out; omega)); replace BS := Aside0.mk hp.blk; clear hp; have hco1 := blk_cell HO.out.obj 1; have hco4 := blk_cell HO.out.obj 4; have hco5 := blk_cell HO.out.obj 5; have hs0 := blk_cell BS.out 0; have hs1 := blk_cell BS.out 1) | ((with_reducible refine gate_store (t := 101) rfl ?_); refine wpList_store_whole rfl rfl rfl gr _ #[.int .i64 24, .int .i64 (i : Int)] _ rfl rfl HO.out.res (by kernel_rfl) rfl (two_one _ _) ?_; intro w9 hp; have HE := Aside0.mk (hp.below HO.out.low HO.out.g1); have HP := Aside0.mk hp.blk; clear hp))
    refine bodyPost_ret (results_cell_row rfl _ _ gr 101 #[.int .i64 24, .int .i64 (i : Int)] (0, 0) _ rfl HP.out Tryd.underlying101 rfl (by kernel_rfl)) rfl ?_
    exact ⟨rfl, HE.out⟩
   rw [if_neg c1] at hse
   have d1 : decide (sa ≤ la) = false := decide_eq_false c1
   by_cases c2 : sa ≥ (l0_1.length : Int)
   ·
    rw [if_pos c2] at hse
    have d2 : decide ((l0_1.length : Int) ≤ sa) = true := decide_eq_true c2
    clear c1 c2 hlo
    subst hse
    have h := (HFirst.out (by decide)).symm.trans HH.out
    injection h with e1 e2
    subst e1 e2
    go_wp2_with (first | ((with_reducible refine gate_dst (N := 6) rfl ?_); refine box_event ?hg (N := 6) ?hd (cs := #[.int .i64 0, .int .i64 0]) (t := 68) ?hr ?_; (case hd => rfl); (case hg => rfl); (case hr => first | (go_simp; done) | (go_simp; rfl)); intro gs hgs w5 BK5 hb5; have LN := Aside0.mk (show gn < gs by rw [hgs]; obtain ⟨Z, hz, _⟩ := HO.out.nam; exact blk_lt hz); have LG := Aside0.mk (show gb < gs by rw [hgs]; exact blk_lt HO.out.obj); have LR := Aside0.mk (show gr < gs by rw [hgs]; exact blk_lt HO.out.res); replace HO := Aside0.mk (HO.out.below hb5); have BS := Aside0.mk BK5; clear BK5 hb5 hgs) | ((with_reducible refine gate_store (t := 68) rfl ?_); refine wpList_store_whole rfl rfl rfl gs _ #[.int .i64 sa, .int .i64 sm] _ rfl rfl BS.out (by kernel_rfl) rfl (rel_one _ _) ?_; intro w6 hp; replace HO := Aside0.mk (HO.out.grown (put_grownN hp) (by have := LG.out; have := LN.out; have := HO.out.g2; omega) (by have := LG.out; omega) (by have := LR.out; omega) (by have := LN.out; omega)); replace BS := Aside0.mk hp.blk; clear hp; have hco1 := blk_cell HO.out.obj 1; have hco4 := blk_cell HO.out.obj 4; have hco5 := blk_cell HO.out.obj 5; have hs0 := blk_cell BS.out 0; have hs1 := blk_cell BS.out 1) | ((with_reducible refine gate_store (t := 101) rfl ?_); refine wpList_store_whole rfl rfl rfl gr _ #[.int .i64 24, .int .i64 (i : Int)] _ rfl rfl HO.out.res (by kernel_rfl) rfl (two_one _ _) ?_; intro w9 hp; have HE := Aside0.mk (hp.below HO.out.low HO.out.g1); have HP := Aside0.mk hp.blk; clear hp))
    refine bodyPost_ret (results_cell_row rfl _ _ gr 101 #[.int .i64 24, .int .i64 (i : Int)] (0, 0) _ rfl HP.out Tryd.underlying101 rfl (by kernel_rfl)) rfl ?_
    exact ⟨rfl, HE.out⟩
   rw [if_neg c2] at hse
   have d2 : decide ((l0_1.length : Int) ≤ sa) = false := decide_eq_false (by omega)
   by_cases c3 : sm < 0
   ·
    rw [if_pos c3] at hse
    have d3 : decide (sm < 0) = true := decide_eq_true c3
    clear c1 c2 c3 hlo
    subst hse
    have h := (HFirst.out (by decide)).symm.trans HH.out
    injection h with e1 e2
    subst e1 e2
    go_wp2_with (first | ((with_reducible refine gate_dst (N := 6) rfl ?_); refine box_event ?hg (N := 6) ?hd (cs := #[.int .i64 0, .int .i64 0]) (t := 68) ?hr ?_; (case hd => rfl); (case hg => rfl); (case hr => first | (go_simp; done) | (go_simp; rfl)); intro gs hgs w5 BK5 hb5; have LN := Aside0.mk (show gn < gs by rw [hgs]; obtain ⟨Z, hz, _⟩ := HO.out.nam; exact blk_lt hz); have LG := Aside0.mk (show gb < gs by rw [hgs]; exact blk_lt HO.out.obj); have LR := Aside0.mk (show gr < gs by rw [hgs]; exact blk_lt HO.out.res); replace HO := Aside0.mk (HO.out.below hb5); have BS := Aside0.mk BK5; clear BK5 hb5 hgs) | ((with_reducible refine gate_store (t := 68) rfl ?_); refine wpList_store_whole rfl rfl rfl gs _ #[.int .i64 sa, .int .i64 sm] _ rfl rfl BS.out (by kernel_rfl) rfl (rel_one _ _) ?_; intro w6 hp; replace HO := Aside0.mk (HO.out.grown (put_grownN hp) (by have := LG.out; have := LN.out; have := HO.out.g2; omega) (by have := LG.out; omega) (by have := LR.out; omega) (by have := LN.out; omega)); replace BS := Aside0.mk hp.blk; clear hp; have hco1 := blk_cell HO.out.obj 1; have hco4 := blk_cell HO.out.obj 4; have hco5 := blk_cell HO.out.obj 5; have hs0 := blk_cell BS.out 0; have hs1 := blk_cell BS.out 1) | ((with_reducible refine gate_store (t := 101) rfl ?_); refine wpList_store_whole rfl rfl rfl gr _ #[.int .i64 24, .int .i64 (i : Int)] _ rfl rfl HO.out.res (by kernel_rfl) rfl (two_one _ _) ?_; intro w9 hp; have HE := Aside0.mk (hp.below HO.out.low HO.out.g1); have HP := Aside0.mk hp.blk; clear hp))
    refine bodyPost_ret (results_cell_row rfl _ _ gr 101 #[.int .i64 24, .int .i64 (i : Int)] (0, 0) _ rfl HP.out Tryd.underlying101 rfl (by kernel_rfl)) rfl ?_
    exact ⟨rfl, HE.out⟩
   rw [if_neg c3] at hse
   have d3 : decide (sm < 0) = false := decide_eq_false c3
   by_cases c4 : sm ≥ (l0_4.length : Int)
   ·
    rw [if_pos c4] at hse
    have d4 : decide ((l0_4.length : Int) ≤ sm) = true := decide_eq_true c4
    clear c1 c2 c3 c4 hlo
    subst hse
    have h := (HFirst.out (by decide)).symm.trans HH.out
    injection h with e1 e2
    subst e1 e2
    go_wp2_with (first | ((with_reducible refine gate_dst (N := 6) rfl ?_); refine box_event ?hg (N := 6) ?hd (cs := #[.int .i64 0, .int .i64 0]) (t := 68) ?hr ?_; (case hd => rfl); (case hg => rfl); (case hr => first | (go_simp; done) | (go_simp; rfl)); intro gs hgs w5 BK5 hb5; have LN := Aside0.mk (show gn < gs by rw [hgs]; obtain ⟨Z, hz, _⟩ := HO.out.nam; exact blk_lt hz); have LG := Aside0.mk (show gb < gs by rw [hgs]; exact blk_lt HO.out.obj); have LR := Aside0.mk (show gr < gs by rw [hgs]; exact blk_lt HO.out.res); replace HO := Aside0.mk (HO.out.below hb5); have BS := Aside0.mk BK5; clear BK5 hb5 hgs) | ((with_reducible refine gate_store (t := 68) rfl ?_); refine wpList_store_whole rfl rfl rfl gs _ #[.int .i64 sa, .int .i64 sm] _ rfl rfl BS.out (by kernel_rfl) rfl (rel_one _ _) ?_; intro w6 hp; replace HO := Aside0.mk (HO.out.grown (put_grownN hp) (by have := LG.out; have := LN.out; have := HO.out.g2; omega) (by have := LG.out; omega) (by have := LR.out; omega) (by have := LN.out; omega)); replace BS := Aside0.mk hp.blk; clear hp; have hco1 := blk_cell HO.out.obj 1; have hco4 := blk_cell HO.out.obj 4; have hco5 := blk_cell HO.out.obj 5; have hs0 := blk_cell BS.out 0; have hs1 := blk_cell BS.out 1) | ((with_reducible refine gate_store (t := 101) rfl ?_); refine wpList_store_whole rfl rfl rfl gr _ #[.int .i64 24, .int .i64 (i : Int)] _ rfl rfl HO.out.res (by kernel_rfl) rfl (two_one _ _) ?_; intro w9 hp; have HE := Aside0.mk (hp.below HO.out.low HO.out.g1); have HP := Aside0.mk hp.blk; clear hp))
    refine bodyPost_ret (results_cell_row rfl _ _ gr 101 #[.int .i64 24, .int .i64 (i : Int)] (0, 0) _ rfl HP.out Tryd.underlying101 rfl (by kernel_rfl)) rfl ?_
    exact ⟨rfl, HE.out⟩
   rw [if_neg c4] at hse
   have d4 : decide ((l0_4.length : Int) ≤ sm) = false := decide_eq_false (by omega)
   have a0 : (0 : Int) ≤ sa := by omega
   have a1 : sa < (l0_1.length : Int) := by omega
   have a2 : sa.toNat < 16384 := by omega
   have a3 : sa < 16384 := by omega
   obtain ⟨ac, eC, hxc⟩ := Kd.at_int HC.out sa a0 a1
   subst eC
   have hxr : 0 ≤ rd l0_1 sa ∧ rd l0_1 sa < 4294967296 := by
    rw [show sa = ((sa.toNat : Nat) : Int) by omega, rd_get (by omega)]
    exact wordsO_at HW.out (List.getElem_mem _)
   generalize rd l0_1 sa = x at hxc hse hxr
   obtain ⟨kT, HT0⟩ := Ev.rounds (tgt1 hxr.1 hxr.2)
   have HT := Aside0.mk HT0
   clear HT0 hxr
   generalize tgtS x = t at HT hse
   obtain ⟨t1, t2⟩ := t
   simp only at hse
   have HA2 := Aside0.mk a2
   clear c1 c2 c3 c4 hlo a2
   replace a0 := eq_true a0
   replace a1 := eq_true a1
   replace a3 := eq_true a3
   have HX := Aside0.mk hxc
   clear hxc
   by_cases b : t2 = true
   ·
    rw [if_pos b] at hse
    subst b
    by_cases z : t1 = 0
    ·
     rw [if_pos z] at hse
     subst z
     subst hse
     go_wp2_with (first | ((with_reducible refine gate_dst (N := 6) rfl ?_); refine box_event ?hg (N := 6) ?hd (cs := #[.int .i64 0, .int .i64 0]) (t := 68) ?hr ?_; (case hd => rfl); (case hg => rfl); (case hr => first | (go_simp; done) | (go_simp; rfl)); intro gs hgs w5 BK5 hb5; have LN := Aside0.mk (show gn < gs by rw [hgs]; obtain ⟨Z, hz, _⟩ := HO.out.nam; exact blk_lt hz); have LG := Aside0.mk (show gb < gs by rw [hgs]; exact blk_lt HO.out.obj); have LR := Aside0.mk (show gr < gs by rw [hgs]; exact blk_lt HO.out.res); replace HO := Aside0.mk (HO.out.below hb5); have BS := Aside0.mk BK5; clear BK5 hb5 hgs) | ((with_reducible refine gate_store (t := 68) rfl ?_); refine wpList_store_whole rfl rfl rfl gs _ #[.int .i64 sa, .int .i64 sm] _ rfl rfl BS.out (by kernel_rfl) rfl (rel_one _ _) ?_; intro w6 hp; replace HO := Aside0.mk (HO.out.grown (put_grownN hp) (by have := LG.out; have := LN.out; have := HO.out.g2; omega) (by have := LG.out; omega) (by have := LR.out; omega) (by have := LN.out; omega)); replace BS := Aside0.mk hp.blk; clear hp; have hco1 := blk_cell HO.out.obj 1; have hco4 := blk_cell HO.out.obj 4; have hco5 := blk_cell HO.out.obj 5; have hs0 := blk_cell BS.out 0; have hs1 := blk_cell BS.out 1; have hyc := pw_cell_below HO.out.low HX.out) | (go_at_call 23; refine (isa_Target.calls kT x 0 _ _ HT.out).mono ?_; rintro e w7 ⟨rfl, hb⟩; replace HO := Aside0.mk (HO.out.below hb); replace BS := Aside0.mk (blk_below BS.out hb); clear hb; have hco1 := blk_cell HO.out.obj 1; have hco4 := blk_cell HO.out.obj 4; have hco5 := blk_cell HO.out.obj 5; have hs0 := blk_cell BS.out 0; have hs1 := blk_cell BS.out 1; obtain ⟨Z, hz1, hz2, hz3⟩ := HO.out.nam; have HZ1 := Aside0.mk hz1; have HZ2 := Aside0.mk hz2; have HZ3 := Aside0.mk hz3; clear hz1 hz2 hz3) | ((with_reducible refine gate_store (t := 4) rfl ?_); refine wpList_store_arr rfl rfl rfl gn sa.toNat Z 151 (.bool true) rfl rfl rfl rfl (bool_one _) HZ1.out (by rw [HZ2.out]; exact HA2.out) ?_; intro w8 hp; replace HO := Aside0.mk (HO.out.mark HZ2.out HZ3.out HA2.out hp); replace BS := Aside0.mk (blk_grown BS.out (put_grownN hp) (fun e => by have := LN.out; have := Option.some.inj e; omega)); clear hp HZ1 HZ2 HZ3; have hco1 := blk_cell HO.out.obj 1; have hco4 := blk_cell HO.out.obj 4; have hco5 := blk_cell HO.out.obj 5; have hs0 := blk_cell BS.out 0; have hs1 := blk_cell BS.out 1))
     go_roundw
     case measure => simp [intOf]; omega
     case rel => exact ⟨i + 1, by first | rfl | (simp; done) | (simp [*]; done), by rw [HLA.out], by omega, ⟨fun j hj => by
      by_cases e : j = i
      ·
       rw [e]; exact HGE.out
      ·
       exact HZ.out j (by omega)⟩, ⟨by rw [HMK.out]; exact HO.out⟩⟩
    ·
     rw [if_neg z] at hse
     have zb : (t1 != 0) = true := bne_iff_ne.mpr z
     clear z
     subst hse
     have h := (HFirst.out (by decide)).symm.trans HH.out
     injection h with e1 e2
     subst e1 e2
     go_wp2_with (first | ((with_reducible refine gate_dst (N := 6) rfl ?_); refine box_event ?hg (N := 6) ?hd (cs := #[.int .i64 0, .int .i64 0]) (t := 68) ?hr ?_; (case hd => rfl); (case hg => rfl); (case hr => first | (go_simp; done) | (go_simp; rfl)); intro gs hgs w5 BK5 hb5; have LN := Aside0.mk (show gn < gs by rw [hgs]; obtain ⟨Z, hz, _⟩ := HO.out.nam; exact blk_lt hz); have LG := Aside0.mk (show gb < gs by rw [hgs]; exact blk_lt HO.out.obj); have LR := Aside0.mk (show gr < gs by rw [hgs]; exact blk_lt HO.out.res); replace HO := Aside0.mk (HO.out.below hb5); have BS := Aside0.mk BK5; clear BK5 hb5 hgs) | ((with_reducible refine gate_store (t := 68) rfl ?_); refine wpList_store_whole rfl rfl rfl gs _ #[.int .i64 sa, .int .i64 sm] _ rfl rfl BS.out (by kernel_rfl) rfl (rel_one _ _) ?_; intro w6 hp; replace HO := Aside0.mk (HO.out.grown (put_grownN hp) (by have := LG.out; have := LN.out; have := HO.out.g2; omega) (by have := LG.out; omega) (by have := LR.out; omega) (by have := LN.out; omega)); replace BS := Aside0.mk hp.blk; clear hp; have hco1 := blk_cell HO.out.obj 1; have hco4 := blk_cell HO.out.obj 4; have hco5 := blk_cell HO.out.obj 5; have hs0 := blk_cell BS.out 0; have hs1 := blk_cell BS.out 1; have hyc := pw_cell_below HO.out.low HX.out) | (go_at_call 23; refine (isa_Target.calls kT x t1 _ _ HT.out).mono ?_; rintro e w7 ⟨rfl, hb⟩; replace HO := Aside0.mk (HO.out.below hb); replace BS := Aside0.mk (blk_below BS.out hb); clear hb; have hco1 := blk_cell HO.out.obj 1; have hco4 := blk_cell HO.out.obj 4; have hco5 := blk_cell HO.out.obj 5; have hs0 := blk_cell BS.out 0; have hs1 := blk_cell BS.out 1; have hyc := pw_cell_below HO.out.low HX.out) | ((with_reducible refine gate_store (t := 101) rfl ?_); refine wpList_store_whole rfl rfl rfl gr _ #[.int .i64 24, .int .i64 (i : Int)] _ rfl rfl HO.out.res (by kernel_rfl) rfl (two_one _ _) ?_; intro w9 hp; have HE := Aside0.mk (hp.below HO.out.low HO.out.g1); have HP := Aside0.mk hp.blk; clear hp))
     refine bodyPost_ret (results_cell_row rfl _ _ gr 101 #[.int .i64 24, .int .i64 (i : Int)] (0, 0) _ rfl HP.out Tryd.underlying101 rfl (by kernel_rfl)) rfl ?_
     exact ⟨rfl, HE.out⟩
   ·
    rw [if_neg b] at hse
    have b : t2 = false := by simpa using b
    subst b
    subst hse
    have h := (HFirst.out (by decide)).symm.trans HH.out
    injection h with e1 e2
    subst e1 e2
    go_wp2_with (first | ((with_reducible refine gate_dst (N := 6) rfl ?_); refine box_event ?hg (N := 6) ?hd (cs := #[.int .i64 0, .int .i64 0]) (t := 68) ?hr ?_; (case hd => rfl); (case hg => rfl); (case hr => first | (go_simp; done) | (go_simp; rfl)); intro gs hgs w5 BK5 hb5; have LN := Aside0.mk (show gn < gs by rw [hgs]; obtain ⟨Z, hz, _⟩ := HO.out.nam; exact blk_lt hz); have LG := Aside0.mk (show gb < gs by rw [hgs]; exact blk_lt HO.out.obj); have LR := Aside0.mk (show gr < gs by rw [hgs]; exact blk_lt HO.out.res); replace HO := Aside0.mk (HO.out.below hb5); have BS := Aside0.mk BK5; clear BK5 hb5 hgs) | ((with_reducible refine gate_store (t := 68) rfl ?_); refine wpList_store_whole rfl rfl rfl gs _ #[.int .i64 sa, .int .i64 sm] _ rfl rfl BS.out (by kernel_rfl) rfl (rel_one _ _) ?_; intro w6 hp; replace HO := Aside0.mk (HO.out.grown (put_grownN hp) (by have := LG.out; have := LN.out; have := HO.out.g2; omega) (by have := LG.out; omega) (by have := LR.out; omega) (by have := LN.out; omega)); replace BS := Aside0.mk hp.blk; clear hp; have hco1 := blk_cell HO.out.obj 1; have hco4 := blk_cell HO.out.obj 4; have hco5 := blk_cell HO.out.obj 5; have hs0 := blk_cell BS.out 0; have hs1 := blk_cell BS.out 1; have hyc := pw_cell_below HO.out.low HX.out) | (go_at_call 23; refine (isa_Target.calls kT x t1 _ _ HT.out).mono ?_; rintro e w7 ⟨rfl, hb⟩; replace HO := Aside0.mk (HO.out.below hb); replace BS := Aside0.mk (blk_below BS.out hb); clear hb; have hco1 := blk_cell HO.out.obj 1; have hco4 := blk_cell HO.out.obj 4; have hco5 := blk_cell HO.out.obj 5; have hs0 := blk_cell BS.out 0; have hs1 := blk_cell BS.out 1; have hyc := pw_cell_below HO.out.low HX.out) | ((with_reducible refine gate_store (t := 101) rfl ?_); refine wpList_store_whole rfl rfl rfl gr _ #[.int .i64 24, .int .i64 (i : Int)] _ rfl rfl HO.out.res (by kernel_rfl) rfl (two_one _ _) ?_; intro w9 hp; have HE := Aside0.mk (hp.below HO.out.low HO.out.g1); have HP := Aside0.mk hp.blk; clear hp))
    refine bodyPost_ret (results_cell_row rfl _ _ gr 101 #[.int .i64 24, .int .i64 (i : Int)] (0, 0) _ rfl HP.out Tryd.underlying101 rfl (by kernel_rfl)) rfl ?_
    exact ⟨rfl, HE.out⟩
  ·
   have hi0 : i = l0_5.length := by omega
   subst hi0
   have hltb : decide ((l0_5.length : Int) < (l0_5.length : Int)) = false := by simp
   have HS := Aside0.mk ((relocs_scan HZ.out).symm.trans HH.out)
   clear hlt hile HZ
   generalize lastR l0_5 l0_5.length = la
   generalize markB l0_5 l0_5.length = N at HO HS
   go_wp2
   go_loopw [75] (fun u75 wr => ∃ k : Nat, u75 = .int .i64 (k : Int) ∧ k ≤ l0_1.length ∧ Aside0 (∀ j, j < k → scanE l0_1 N j = 0) ∧ Aside0 (OR w wr gb (objCell a0_0 A0_1 l0_1.length c0_1 a0_2 A0_3 l0_3.length c0_3 A0_4 l0_4.length c0_4 A0_5 l0_5.length c0_5) gr gn N)) (fun u75 _ => l0_1.length - (intOf u75).toNat)
   case atStart => exact ⟨0, rfl, Nat.zero_le _, ⟨fun j hj => absurd hj (Nat.not_lt_zero _)⟩, HO⟩
   case round =>
    clear HO hco1 hco4 hco5
    obtain ⟨k, rfl, hkle, HZ, HO⟩ := hrel
    have hco1 := blk_cell HO.out.obj 1; have hco4 := blk_cell HO.out.obj 4; have hco5 := blk_cell HO.out.obj 5
    by_cases hlt : k < l0_1.length
    ·
     have hse := scanE_eq l0_1 N k
     have HFirst := Aside0.mk (fun (hne : scanE l0_1 N k ≠ 0) => scanS_at hlt HZ.out hne)
     have p0 : (0 : Int) ≤ (k : Int) := by omega
     have q0 : (k : Int) < (l0_1.length : Int) := by omega
     have q1 : (k : Int) < 16384 := by omega
     have HK := Aside0.mk (show k < 16384 by omega)
     obtain ⟨ac, eC, hxc⟩ := Kd.at_int HC.out (k : Int) p0 q0
     subst eC
     rw [show ((k : Int)).toNat = k by omega] at hxc
     have hxr : 0 ≤ rd l0_1 (k : Int) ∧ rd l0_1 (k : Int) < 4294967296 := by
      rw [rd_get hlt]
      exact wordsO_at HW.out (List.getElem_mem _)
     generalize rd l0_1 (k : Int) = x at hxc hse hxr
     have hyc := pw_cell_below HO.out.low hxc
     clear hxc
     obtain ⟨kT, HT0⟩ := Ev.rounds (tgt1 hxr.1 hxr.2)
     have HT := Aside0.mk HT0
     clear HT0 hxr
     generalize tgtS x = t at HT hse
     obtain ⟨t1, t2⟩ := t
     simp only at hse
     generalize hge : scanE l0_1 N k = ge at hse HFirst
     have HGE := Aside0.mk hge
     clear hge
     generalize hnk0 : N k = nk at hse
     have HNK := Aside0.mk hnk0
     clear hnk0
     have hnk := HO.out.nam.cell' HK.out HNK.out
     have hwr : wrap64 ((k : Int) + 1) = ((k + 1 : Nat) : Int) := by rw [wrap64_id (by omega) (by omega)]; rfl
     have hwm : wrap64 (-1 - (k : Int)) = -1 - (k : Int) := wrap64_id (by omega) (by omega)
     have hcn : ((k : Int)).toNat = k := by omega
     replace p0 := eq_true p0
     replace q0 := eq_true q0
     replace q1 := eq_true q1
     have hltb : decide ((k : Int) < (l0_1.length : Int)) = true := decide_eq_true (by omega)
     have HLT := Aside0.mk hlt
     clear hkle hlt
     cases t2
     ·
      simp only [Bool.false_eq_true, if_false] at hse
      subst hse
      go_wp2_with (first | (go_at_call 23; refine (isa_Target.calls kT x t1 _ _ HT.out).mono ?_; rintro e w7 ⟨rfl, hb⟩; replace HO := Aside0.mk (HO.out.below hb); clear hb hnk; have hco1 := blk_cell HO.out.obj 1; have hco4 := blk_cell HO.out.obj 4; have hco5 := blk_cell HO.out.obj 5; have hnk := HO.out.nam.cell' HK.out HNK.out))
      go_roundw
      case measure => have hq := HLT.out; clear hl hl5; rw [hwr]; simp only [intOf, Int.toNat_natCast]; omega
      case rel => exact ⟨k + 1, by first | rfl | (simp; done) | (simp [*]; done), by have := HLT.out; omega, ⟨fun j hj => by
       by_cases e : j = k
       ·
        rw [e]; exact HGE.out
       ·
        exact HZ.out j (by omega)⟩, HO⟩
     ·
      simp only [if_true] at hse
      cases nk
      ·
       simp only [Bool.false_eq_true, if_false] at hse
       by_cases g : t1 > (l0_1.length : Int)
       ·
        rw [if_pos g] at hse
        have gb1 : decide ((l0_1.length : Int) < t1) = true := decide_eq_true g
        subst hse
        clear g
        have h := (HFirst.out (by decide)).symm.trans HS.out
        injection h with e1 e2
        subst e1 e2
        go_wp2_with (first | (go_at_call 23; refine (isa_Target.calls kT x t1 _ _ HT.out).mono ?_; rintro e w7 ⟨rfl, hb⟩; replace HO := Aside0.mk (HO.out.below hb); clear hb hnk; have hco1 := blk_cell HO.out.obj 1; have hco4 := blk_cell HO.out.obj 4; have hco5 := blk_cell HO.out.obj 5; have hnk := HO.out.nam.cell' HK.out HNK.out) | ((with_reducible refine gate_store (t := 101) rfl ?_); refine wpList_store_whole rfl rfl rfl gr _ #[.int .i64 22, .int .i64 (-1 - (k : Int))] _ rfl rfl HO.out.res (by kernel_rfl) rfl (two_one _ _) ?_; intro w9 hp; have HE := Aside0.mk (hp.below HO.out.low HO.out.g1); have HP := Aside0.mk hp.blk; clear hp))
        refine bodyPost_ret (results_cell_row rfl _ _ gr 101 #[.int .i64 22, .int .i64 (-1 - (k : Int))] (0, 0) _ rfl HP.out Tryd.underlying101 rfl (by kernel_rfl)) rfl ?_
        exact ⟨rfl, HE.out⟩
       ·
        rw [if_neg g] at hse
        have gb1 : decide ((l0_1.length : Int) < t1) = false := decide_eq_false g
        subst hse
        clear g
        go_wp2_with (first | (go_at_call 23; refine (isa_Target.calls kT x t1 _ _ HT.out).mono ?_; rintro e w7 ⟨rfl, hb⟩; replace HO := Aside0.mk (HO.out.below hb); clear hb hnk; have hco1 := blk_cell HO.out.obj 1; have hco4 := blk_cell HO.out.obj 4; have hco5 := blk_cell HO.out.obj 5; have hnk := HO.out.nam.cell' HK.out HNK.out))
        go_roundw
        case measure => have hq := HLT.out; clear hl hl5; rw [hwr]; simp only [intOf, Int.toNat_natCast]; omega
        case rel => exact ⟨k + 1, by first | rfl | (simp; done) | (simp [*]; done), by have := HLT.out; omega, ⟨fun j hj => by
         by_cases e : j = k
         ·
          rw [e]; exact HGE.out
         ·
          exact HZ.out j (by omega)⟩, HO⟩
      ·
       simp only [if_true] at hse
       subst hse
       go_wp2_with (first | (go_at_call 23; refine (isa_Target.calls kT x t1 _ _ HT.out).mono ?_; rintro e w7 ⟨rfl, hb⟩; replace HO := Aside0.mk (HO.out.below hb); clear hb hnk; have hco1 := blk_cell HO.out.obj 1; have hco4 := blk_cell HO.out.obj 4; have hco5 := blk_cell HO.out.obj 5; have hnk := HO.out.nam.cell' HK.out HNK.out))
       go_roundw
       case measure => have hq := HLT.out; clear hl hl5; rw [hwr]; simp only [intOf, Int.toNat_natCast]; omega
       case rel => exact ⟨k + 1, by first | rfl | (simp; done) | (simp [*]; done), by have := HLT.out; omega, ⟨fun j hj => by
        by_cases e : j = k
        ·
         rw [e]; exact HGE.out
        ·
         exact HZ.out j (by omega)⟩, HO⟩
    ·
     have hk0 : k = l0_1.length := by omega
     subst hk0
     have hltb : decide ((l0_1.length : Int) < (l0_1.length : Int)) = false := by simp
     have h := (scanS_zero HZ.out).symm.trans HS.out
     injection h with e1 e2
     subst e1 e2
     clear hlt hkle
     go_wp2_with (first | ((with_reducible refine gate_store (t := 101) rfl ?_); refine wpList_store_whole rfl rfl rfl gr _ #[.int .i64 0, .int .i64 0] _ rfl rfl HO.out.res (by kernel_rfl) rfl (two_one _ _) ?_; intro w9 hp; have HE := Aside0.mk (hp.below HO.out.low HO.out.g1); have HP := Aside0.mk hp.blk; clear hp))
     refine bodyPost_ret (results_cell_row rfl _ _ gr 101 #[.int .i64 0, .int .i64 0] (0, 0) _ rfl HP.out Tryd.underlying101 rfl (by kernel_rfl)) rfl ?_
     exact ⟨rfl, HE.out⟩
 end Go.Proofs.YtiaohbbafaaibabDoor.P
