/- OWN TEXT and printed parts of this claim, laid together: P11, P15. -/
import Derived.Test.YtiaohbbafaaibabGreatDoorZrM0
import Derived.Test.YtiaohbbafaaibabGreatDoorZrM5
import Derived.Test.YtiaohbbafaaibabGreatDoorZrM3
/- What the Go functions named below come to, as plain functions, each with its proof; written by this session's prt.py over the kit's print. -/
namespace Go.Proofs.YtiaohbbafaaibabGreatDoor.P
open Go.RowKit Go.Proofs.YtiaohbbafaaibabGreatDoorW.PrintWords Go.Proofs.YtiaohbbafaaibabGreatDoorW.PrintLast Go.Proofs.YtiaohbbafaaibabGreatDoorW.PrintMore
attribute [local go_sem] max2_int min2_int max_two min_two max_three min_three max_four min_four   -- for this text's walks alone
set_option linter.unusedVariables false
set_option linter.unusedSimpArgs false
mutual
def pleatref03_symbols.l0 : Nat → Int → ByteArray → List Int → Int → List Int → List (S65) → List (S82) → Option (Int × Int)
 | 0, _, _, _, _, _, _, _ => none
 | k + 1, x4, x239000, x239001, x239002, x239003, x239004, x239005 => if x4 < (x239004.length : Int) then (if 0 ≤ x4 then ((pleatref03_Name.f k ((rd_T65 x239004 x4).f0)).bind fun t241 => (if t241 = true then ((pleatref03_Of.f k x239000 x239001 x239002 x239003 x239004 x239005 ((rd_T65 x239004 x4).f0)).bind fun t242 => (if t242 = x4 then (if ((rd_T65 x239004 x4).f1) < 0 then (pleatref03_symbols.j1 k x4 true x239000 x239001 x239002 x239003 x239004 x239005 ((rd_T65 x239004 x4).f0) ((rd_T65 x239004 x4).f1) ((rd_T65 x239004 x4).f2)) else (pleatref03_symbols.j1 k x4 (decide (((rd_T65 x239004 x4).f1) > 3)) x239000 x239001 x239002 x239003 x239004 x239005 ((rd_T65 x239004 x4).f0) ((rd_T65 x239004 x4).f1) ((rd_T65 x239004 x4).f2))) else (some (26, x4)))) else (some (20, x4)))) else (none)) else (some (0, 0))
def pleatref03_symbols.j1 : Nat → Int → Bool → ByteArray → List Int → Int → List Int → List (S65) → List (S82) → ByteArray → Int → Int → Option (Int × Int)
 | 0, _, _, _, _, _, _, _, _, _, _, _ => none
 | k + 1, x4, x37, x239000, x239001, x239002, x239003, x239004, x239005, x241000, x241001, x241002 => if x37 = true then (some (23, x4)) else (if x241002 < 0 then (some (22, x4)) else (if x241002 > (x239001.length : Int) then (some (22, x4)) else (if x241001 = 3 then (if x241002 = 0 then (pleatref03_symbols.l0 k (wrap64 (x4 + 1)) x239000 x239001 x239002 x239003 x239004 x239005) else (some (22, x4))) else (pleatref03_symbols.l0 k (wrap64 (x4 + 1)) x239000 x239001 x239002 x239003 x239004 x239005))))
end
def pleatref03_symbols.f (k : Nat) (a0_0 : ByteArray) (l0_1 : List Int) (a0_2 : Int) (l0_3 : List Int) (l0_4 : List (S65)) (l0_5 : List (S82)) : Option (Int × Int) := pleatref03_symbols.l0 k 0 a0_0 l0_1 a0_2 l0_3 l0_4 l0_5
theorem pleatref03_symbols.mono_l : ∀ k, (∀ y0 y1 y2 y3 y4 y5 y6, LeO (pleatref03_symbols.l0 k y0 y1 y2 y3 y4 y5 y6) (pleatref03_symbols.l0 (k + 1) y0 y1 y2 y3 y4 y5 y6)) ∧ (∀ y0 y1 y2 y3 y4 y5 y6 y7 y8 y9 y10, LeO (pleatref03_symbols.j1 k y0 y1 y2 y3 y4 y5 y6 y7 y8 y9 y10) (pleatref03_symbols.j1 (k + 1) y0 y1 y2 y3 y4 y5 y6 y7 y8 y9 y10))
 | 0 => ⟨fun _ _ _ _ _ _ _ r h => by simp [pleatref03_symbols.l0] at h, fun _ _ _ _ _ _ _ _ _ _ _ r h => by simp [pleatref03_symbols.j1] at h⟩
 | k + 1 => by
  obtain ⟨ih0, ih1⟩ := pleatref03_symbols.mono_l k
  refine ⟨?_, ?_⟩
  ·
   intro y0 y1 y2 y3 y4 y5 y6
   unfold pleatref03_symbols.l0
   repeat' first
   | (with_reducible first | exact ih0 _ _ _ _ _ _ _ | exact ih1 _ _ _ _ _ _ _ _ _ _ _ | exact pleatref03_Name.mono _ _ | exact pleatref03_Of.mono _ _ _ _ _ _ _ _ | exact LeO.refl _ | exact LeO.none _ | refine LeO.ite ?_ ?_ | refine LeO.bind ?_ (fun _ => ?_))
  ·
   intro y0 y1 y2 y3 y4 y5 y6 y7 y8 y9 y10
   unfold pleatref03_symbols.j1
   repeat' first
   | (with_reducible first | exact ih0 _ _ _ _ _ _ _ | exact ih1 _ _ _ _ _ _ _ _ _ _ _ | exact pleatref03_Name.mono _ _ | exact pleatref03_Of.mono _ _ _ _ _ _ _ _ | exact LeO.refl _ | exact LeO.none _ | refine LeO.ite ?_ ?_ | refine LeO.bind ?_ (fun _ => ?_))
theorem pleatref03_symbols.mono : ∀ a0 a1 a2 a3 a4 a5 k, LeO (pleatref03_symbols.f k a0 a1 a2 a3 a4 a5) (pleatref03_symbols.f (k + 1) a0 a1 a2 a3 a4 a5) := by
 intro a0 a1 a2 a3 a4 a5 k
 obtain ⟨ih0, ih1⟩ := pleatref03_symbols.mono_l k
 unfold pleatref03_symbols.f
 repeat' first
   | (with_reducible first | exact ih0 _ _ _ _ _ _ _ | exact ih1 _ _ _ _ _ _ _ _ _ _ _ | exact pleatref03_Name.mono _ _ | exact pleatref03_Of.mono _ _ _ _ _ _ _ _ | exact LeO.refl _ | exact LeO.none _ | refine LeO.ite ?_ ?_ | refine LeO.bind ?_ (fun _ => ?_))
set_option maxHeartbeats 8000000 in
set_option maxRecDepth 100000 in
theorem pleatref03_symbols.calls (k : Nat) (a0_0 : ByteArray) (A0_1 : Option Addr) (c0_1 : Nat) (l0_1 : List Int) (a0_2 : Int) (A0_3 : Option Addr) (c0_3 : Nat) (l0_3 : List Int) (A0_4 : Option Addr) (c0_4 : Nat) (l0_4 : List (S65)) (A0_5 : Option Addr) (c0_5 : Nat) (l0_5 : List (S82)) (r1 : Int) (r2 : Int) (w : World) (hr0_1 : Kd.C (Kd.int .u32) w A0_1 l0_1.length l0_1) (hc0_1 : l0_1.length ≤ c0_1) (hr0_3 : Kd.C (Kd.int .i64) w A0_3 l0_3.length l0_3) (hc0_3 : l0_3.length ≤ c0_3) (hr0_4 : Kd.C k65 w A0_4 l0_4.length l0_4) (hc0_4 : l0_4.length ≤ c0_4) (hr0_5 : Kd.C k82 w A0_5 l0_5.length l0_5) (hc0_5 : l0_5.length ≤ c0_5) (h : pleatref03_symbols.f k a0_0 l0_1 a0_2 l0_3 l0_4 l0_5 = some (r1, r2)) :
  Calls Tryz.prog 87 #[.agg #[.string a0_0, .slice A0_1 l0_1.length c0_1, .int .i64 a0_2, .slice A0_3 l0_3.length c0_3, .slice A0_4 l0_4.length c0_4, .slice A0_5 l0_5.length c0_5]] w fun e w' => e = .returned (.tuple #[.int .i64 r1, .int .i64 r2]) ∧ Below w.heap.size w w' := by
 have hu27 := Tryz.underlying27
 have hu65 := Tryz.underlying65
 have HR0_1 := Aside0.mk hr0_1
 have HC0_1 := Aside0.mk hc0_1
 clear hr0_1 hc0_1
 have HR0_3 := Aside0.mk hr0_3
 have HC0_3 := Aside0.mk hc0_3
 clear hr0_3 hc0_3
 have HR0_4 := Aside0.mk hr0_4
 have HC0_4 := Aside0.mk hc0_4
 clear hr0_4 hc0_4
 have HR0_5 := Aside0.mk hr0_5
 have HC0_5 := Aside0.mk hc0_5
 clear hr0_5 hc0_5
 have HB := Aside0.mk (Below.refl w.heap.size w)
 have H : (pleatref03_symbols.l0 k 0 a0_0 l0_1 a0_2 l0_3 l0_4 l0_5) = some (r1, r2) := h
 clear h
 have H' := Aside0.mk H
 clear H
 go_enter Tryz.func87, Tryz.ntmps87
 go_wp2_with (first | ((with_reducible refine gate_dst (N := 1) rfl ?_); (try (refine gate_guard (by rfl) ?_; dsimp only)); refine box_event ?hg (N := 1) ?hd (cs := #[.string a0_0, .slice A0_1 l0_1.length c0_1, .int .i64 a0_2, .slice A0_3 l0_3.length c0_3, .slice A0_4 l0_4.length c0_4, .slice A0_5 l0_5.length c0_5]) (t := 27) ?hr ?_; (case hd => rfl); (case hg => rfl); (case hr => go_simp; try rfl); intro gb238 hg w2 hbox hb; have BK238 := Aside0.mk (hbox); have GW238 := Aside0.mk (gwQ hg HB.out); have GE238 := Aside0.mk (gwQ hg HB.out); replace HB := Aside0.mk (bsQ hb HB.out); clear hb hbox hg))
 go_loopg [4] k (fun kq v4 w' => ∃ (x4_1 : Int), v4 = .int .i64 x4_1 ∧ Aside0 (pleatref03_symbols.l0 kq x4_1 a0_0 l0_1 a0_2 l0_3 l0_4 l0_5 = some (r1, r2)) ∧ Aside0 (kq ≤ k) ∧ Aside0 (w'.heap[gb238]? = some (.cells #[.string a0_0, (.slice A0_1 l0_1.length c0_1), .int .i64 a0_2, (.slice A0_3 l0_3.length c0_3), (.slice A0_4 l0_4.length c0_4), (.slice A0_5 l0_5.length c0_5)] 27 (0, 0))) ∧ Aside0 (Below w.heap.size w w'))
 case atStart => exact ⟨(0), (by first | rfl | (simp; done) | (simp [*]; done)), H', ⟨Nat.le_refl _⟩, ⟨by exact BK238.out⟩, ⟨by repeat with_reducible first | exact HB.out | apply pw_below_drewN | apply below_drew1 | refine below_set ?_ GE238.out⟩⟩
 case round =>
  clear H'
  try clear p2
  obtain ⟨x4_1, rfl, HA, HK1, BK238, HB⟩ := hrel
  cases gk with
  | zero => exact absurd HA.out (by simp [pleatref03_symbols.l0])
  | succ k1 =>
   have H := HA.out
   clear HA
   simp only [pleatref03_symbols.l0] at H
   by_cases c3 : x4_1 < (l0_4.length : Int)
   ·
    rw [if_pos c3] at H
    have c3b0 : decide (x4_1 < (l0_4.length : Int)) = true := decide_eq_true c3
    clear c3
    by_cases c4 : 0 ≤ x4_1
    ·
     rw [if_pos c4] at H
     have c4b0 : decide (0 ≤ x4_1) = true := decide_eq_true c4
     clear c4
     replace H := Option.bind_eq_some_iff.mp H
     obtain ⟨t241, A50, H⟩ := H
     try dsimp only at H
     have A5 := Aside0.mk A50
     clear A50
     by_cases c6 : t241 = true
     ·
      subst c6
      rw [if_pos rfl] at H
      replace H := Option.bind_eq_some_iff.mp H
      obtain ⟨t242, A70, H⟩ := H
      try dsimp only at H
      have A7 := Aside0.mk A70
      clear A70
      by_cases c8 : t242 = x4_1
      ·
       rw [if_pos c8] at H
       have c8b0 : (t242 == x4_1) = true := beq_iff_eq.mpr c8
       have c8b1 : (t242 != x4_1) = false := bne_eq_false_iff_eq.mpr c8
       clear c8
       have HC9 := Aside0.mk H
       clear H
       obtain ⟨hcz10_0, hcz10_1, hcz10_2, hcz10_3, hcz10_4, hcz10_5⟩ := bcQ6 BK238.out
       obtain ⟨hfz10_0, hfz10_1, hfz10_2, hfz10_3, hfz10_4, hfz10_5⟩ := fzQ6 BK238.out
       have p239 : 0 ≤ (x4_1 : Int) := of_decide_eq_true ‹_›
       have q239 : x4_1 < (l0_4.length : Int) := of_decide_eq_true ‹_›
       obtain ⟨ad239, e239, hx239_0, hx239_1, hx239_2⟩ := atQ65 HR0_4.out HB.out x4_1 p239 q239
       cases e239
       replace p239 := eq_true p239
       replace q239 := eq_true q239
       go_upto_region 9 with (first | ((with_reducible refine gate_dst (N := 5) rfl ?_); (try (refine gate_guard (by rfl) ?_; dsimp only)); refine box_event ?hg (N := 5) ?hd (cs := #[.string (⟨#[]⟩ : ByteArray), .int .i8 0, .int .i64 0]) (t := 65) ?hr ?_; (case hd => rfl); (case hg => rfl); (case hr => go_simp; try rfl); intro gb240 hg w11 hbox hb; have n0_ := Aside0.mk (bbQ hb BK238.out); have n1_ := Aside0.mk (bs1Q hb (by repeat with_reducible first | exact HB.out | apply pw_below_drewN | apply below_drew1 | refine below_set ?_ GE238.out)); have n2_ := Aside0.mk (hbox); have n3_ := Aside0.mk (gw1Q hg (by repeat with_reducible first | exact HB.out | apply pw_below_drewN | apply below_drew1 | refine below_set ?_ GE238.out)); have n4_ := Aside0.mk (gw1Q hg (by repeat with_reducible first | exact HB.out | apply pw_below_drewN | apply below_drew1 | refine below_set ?_ GE238.out)); have n5_ := Aside0.mk ((by rw [hg]; exact Nat.ne_of_lt (blk_lt (g := gb238) (o := .cells #[.string a0_0, .slice A0_1 l0_1.length c0_1, .int .i64 a0_2, .slice A0_3 l0_3.length c0_3, .slice (some ad239) l0_4.length c0_4, .slice A0_5 l0_5.length c0_5] 27 (0, 0)) (by exact BK238.out)) : gb238 ≠ gb240)); have n6_ := Aside0.mk ((by rw [hg]; exact Nat.ne_of_gt (blk_lt (g := gb238) (o := .cells #[.string a0_0, .slice A0_1 l0_1.length c0_1, .int .i64 a0_2, .slice A0_3 l0_3.length c0_3, .slice (some ad239) l0_4.length c0_4, .slice A0_5 l0_5.length c0_5] 27 (0, 0)) (by exact BK238.out)) : gb240 ≠ gb238)); clear BK238; clear HB; have BK238 := n0_; have HB := n1_; have BK240 := n2_; have GW240 := n3_; have GE240 := n4_; have NB238_240 := n5_; have NB240_238 := n6_; clear n0_ n1_ n2_ n3_ n4_ n5_ n6_; clear hb hbox hg; have hnb12 := NB240_238.out; have hnc12 := NB238_240.out; obtain ⟨hcz13_0, hcz13_1, hcz13_2⟩ := bcQ3 BK240.out; obtain ⟨hfz13_0, hfz13_1, hfz13_2⟩ := fzQ3 BK240.out) | ((with_reducible refine gate_callee (f := 105) rfl ?_); refine goesL_ (some 20) rfl rfl Tryz.func105 (by kernel_rfl) rfl #[.string ((rd_T65 l0_4 x4_1).f0)] rfl (by (try simp only [List.map_toArray, List.map_cons, List.map_nil]); try rfl) ?_; (with_reducible refine (pleatref03_Name.calls k1 ((rd_T65 l0_4 x4_1).f0) true _ A5.out).mono ?_); rintro e w' ⟨rfl, ⟨nd, rfl⟩⟩; refine ⟨_, rfl, ?_⟩; obtain ⟨hcz14_0, hcz14_1, hcz14_2, hcz14_3, hcz14_4, hcz14_5⟩ := bcQ6 BK238.out; obtain ⟨hfz14_0, hfz14_1, hfz14_2, hfz14_3, hfz14_4, hfz14_5⟩ := fzQ6 BK238.out) | ((with_reducible refine gate_callee (f := 106) rfl ?_); refine goesL_ (some 26) rfl rfl Tryz.func106 (by kernel_rfl) rfl #[.agg #[.string a0_0, .slice A0_1 l0_1.length c0_1, .int .i64 a0_2, .slice A0_3 l0_3.length c0_3, .slice (some ad239) l0_4.length c0_4, .slice A0_5 l0_5.length c0_5], .string ((rd_T65 l0_4 x4_1).f0)] rfl (by (try simp only [List.map_toArray, List.map_cons, List.map_nil]); try rfl) ?_; (with_reducible refine (pleatref03_Of.calls k1 a0_0 _ _ l0_1 a0_2 _ _ l0_3 _ _ l0_4 _ _ l0_5 ((rd_T65 l0_4 x4_1).f0) t242 _ ?side1 ?side2 ?side3 ?side4 ?side5 ?side6 ?side7 ?side8 A7.out).mono ?_); (case side1 => exact Kd.C_below HR0_1.out (by repeat with_reducible first | exact HB.out | apply pw_below_drewN | apply below_drew1 | refine below_set ?_ GE238.out | refine below_set ?_ GE240.out)); (case side2 => exact HC0_1.out); (case side3 => exact Kd.C_below HR0_3.out (by repeat with_reducible first | exact HB.out | apply pw_below_drewN | apply below_drew1 | refine below_set ?_ GE238.out | refine below_set ?_ GE240.out)); (case side4 => exact HC0_3.out); (case side5 => exact Kd.C_below HR0_4.out (by repeat with_reducible first | exact HB.out | apply pw_below_drewN | apply below_drew1 | refine below_set ?_ GE238.out | refine below_set ?_ GE240.out)); (case side6 => exact HC0_4.out); (case side7 => exact Kd.C_below HR0_5.out (by repeat with_reducible first | exact HB.out | apply pw_below_drewN | apply below_drew1 | refine below_set ?_ GE238.out | refine below_set ?_ GE240.out)); (case side8 => exact HC0_5.out); rintro e w15 ⟨rfl, hb⟩; refine ⟨_, rfl, ?_⟩; have n0_ := Aside0.mk (blk_below (g := gb238) (o := .cells #[.string a0_0, .slice A0_1 l0_1.length c0_1, .int .i64 a0_2, .slice A0_3 l0_3.length c0_3, .slice (some ad239) l0_4.length c0_4, .slice A0_5 l0_5.length c0_5] 27 (0, 0)) (by refine blk_far ?_ NB238_240.out _; refine blk_far ?_ NB238_240.out _; refine blk_far ?_ NB238_240.out _; exact BK238.out) hb); have n1_ := Aside0.mk (blk_below (g := gb240) (o := .cells #[.string ((rd_T65 l0_4 x4_1).f0), .int .i8 ((rd_T65 l0_4 x4_1).f1), .int .i64 ((rd_T65 l0_4 x4_1).f2)] 65 (0, 0)) (by refine blk_put (cs := #[.string ((rd_T65 l0_4 x4_1).f0), .int .i8 ((rd_T65 l0_4 x4_1).f1), .int .i64 0]) ?_ 2 _ rfl; refine blk_put (cs := #[.string ((rd_T65 l0_4 x4_1).f0), .int .i8 0, .int .i64 0]) ?_ 1 _ rfl; refine blk_put (cs := #[.string (⟨#[]⟩ : ByteArray), .int .i8 0, .int .i64 0]) ?_ 0 _ rfl; exact BK240.out) hb); have n2_ := Aside0.mk (bs1Q hb (by repeat with_reducible first | exact HB.out | apply pw_below_drewN | apply below_drew1 | refine below_set ?_ GE238.out | refine below_set ?_ GE240.out)); clear BK238; clear BK240; clear HB; have BK238 := n0_; have BK240 := n1_; have HB := n2_; clear n0_ n1_ n2_; (try clear hb); (try clear hb2); (try clear hk); (try clear hi)))
       (try simp only [Act.put, List.setIfInBounds_toArray, List.set_cons_zero, List.set_cons_succ])
       go_cut [37] (fun v37 wc => ∃ (kq : Nat) (x37_8 : Bool), v37 = .bool x37_8 ∧ Aside0 (pleatref03_symbols.j1 kq x4_1 x37_8 a0_0 l0_1 a0_2 l0_3 l0_4 l0_5 ((rd_T65 l0_4 x4_1).f0) ((rd_T65 l0_4 x4_1).f1) ((rd_T65 l0_4 x4_1).f2) = some (r1, r2)) ∧ Aside0 (kq ≤ k1) ∧ Aside0 (wc.heap[gb238]? = some (.cells #[.string a0_0, (.slice A0_1 l0_1.length c0_1), .int .i64 a0_2, (.slice A0_3 l0_3.length c0_3), (.slice (some ad239) l0_4.length c0_4), (.slice A0_5 l0_5.length c0_5)] 27 (0, 0))) ∧ Aside0 (wc.heap[gb240]? = some (.cells #[.string ((rd_T65 l0_4 x4_1).f0), .int .i8 ((rd_T65 l0_4 x4_1).f1), .int .i64 ((rd_T65 l0_4 x4_1).f2)] 65 (0, 0))) ∧ Aside0 (Below w.heap.size w wc))
       case first =>
        have H := HC9.out
        clear HC9
        by_cases c16 : ((rd_T65 l0_4 x4_1).f1) < 0
        ·
         rw [if_pos c16] at H
         have c16b0 : decide (((rd_T65 l0_4 x4_1).f1) < 0) = true := decide_eq_true c16
         clear c16
         (first | rw [c16b0] | (simp only [i64_w, i32_w]; rw [c16b0]) | skip)
         have H' := Aside0.mk H
         clear H
         have hnb17 := NB240_238.out
         have hnc17 := NB238_240.out
         obtain ⟨hcz18_0, hcz18_1, hcz18_2⟩ := bcQ3 BK240.out
         obtain ⟨hfz18_0, hfz18_1, hfz18_2⟩ := fzQ3 BK240.out
         go_wp2
         go_meet
         case rel => exact ⟨_, (true), (by first | rfl | (simp; done) | (simp [*]; done)), H', ⟨by have := HK1.out; first | omega | exact Nat.le_refl _⟩, ⟨by exact BK238.out⟩, ⟨by exact BK240.out⟩, ⟨by repeat with_reducible first | exact HB.out | apply pw_below_drewN | apply below_drew1 | refine below_set ?_ GE238.out | refine below_set ?_ GE240.out⟩⟩
        ·
         rw [if_neg c16] at H
         have c16b0 : decide (((rd_T65 l0_4 x4_1).f1) < 0) = false := decide_eq_false c16
         clear c16
         (first | rw [c16b0] | (simp only [i64_w, i32_w]; rw [c16b0]) | skip)
         have H' := Aside0.mk H
         clear H
         have hnb19 := NB240_238.out
         have hnc19 := NB238_240.out
         obtain ⟨hcz20_0, hcz20_1, hcz20_2⟩ := bcQ3 BK240.out
         obtain ⟨hfz20_0, hfz20_1, hfz20_2⟩ := fzQ3 BK240.out
         go_wp2
         go_meet
         case rel => exact ⟨_, (decide (((rd_T65 l0_4 x4_1).f1) > 3)), (by first | rfl | (simp; done) | (simp [*]; done)), H', ⟨by have := HK1.out; first | omega | exact Nat.le_refl _⟩, ⟨by exact BK238.out⟩, ⟨by exact BK240.out⟩, ⟨by repeat with_reducible first | exact HB.out | apply pw_below_drewN | apply below_drew1 | refine below_set ?_ GE238.out | refine below_set ?_ GE240.out⟩⟩
       case rest =>
        clear HC9
        try clear c1
        try clear p2
        try clear q2
        try clear hx2
        try clear c3
        try clear c3b0
        try clear c4
        try clear c4b0
        try clear c6
        try clear c8
        try clear c8b0
        try clear c8b1
        try clear c10
        try clear c12
        try clear c16
        try clear c16b0
        try clear c17
        try clear c19
        try clear hcz10_0 hcz10_1 hcz10_2 hcz10_3 hcz10_4 hcz10_5
        try clear hcz13_0 hcz13_1 hcz13_2
        try clear hcz14_0 hcz14_1 hcz14_2 hcz14_3 hcz14_4 hcz14_5
        try clear hcz18_0 hcz18_1 hcz18_2
        try clear hcz20_0 hcz20_1 hcz20_2
        try clear hfz10_0 hfz10_1 hfz10_2 hfz10_3 hfz10_4 hfz10_5
        try clear hfz13_0 hfz13_1 hfz13_2
        try clear hfz14_0 hfz14_1 hfz14_2 hfz14_3 hfz14_4 hfz14_5
        try clear hfz18_0 hfz18_1 hfz18_2
        try clear hfz20_0 hfz20_1 hfz20_2
        try clear hx239_0
        try clear hx239_1
        try clear hx239_2
        try clear p2
        try clear p239
        try clear q239
        obtain ⟨kq, x37_8, rfl, HA, HJ8, BK238, BK240, HB⟩ := hcut
        cases kq with
        | zero => exact absurd HA.out (by simp [pleatref03_symbols.j1])
        | succ kj8 =>
         have H := HA.out
         clear HA
         simp only [pleatref03_symbols.j1] at H
         by_cases c21 : x37_8 = true
         ·
          subst c21
          rw [if_pos rfl] at H
          simp only [Option.some.injEq, Prod.mk.injEq] at H
          obtain ⟨rfl, rfl⟩ := H
          go_wp2
          go_ret2
          exact ⟨by first | rfl | (simp [errW_none, errW_some] <;> rfl) | (simp [*, errW_none, errW_some] <;> rfl), by repeat with_reducible first | exact HB.out | apply pw_below_drewN | apply below_drew1 | refine below_set ?_ GE238.out | refine below_set ?_ GE240.out⟩
         ·
          replace c21 := Bool.eq_false_iff.mpr c21
          subst c21
          rw [if_neg Bool.false_ne_true] at H
          by_cases c22 : ((rd_T65 l0_4 x4_1).f2) < 0
          ·
           rw [if_pos c22] at H
           have c22b0 : decide (((rd_T65 l0_4 x4_1).f2) < 0) = true := decide_eq_true c22
           clear c22
           simp only [Option.some.injEq, Prod.mk.injEq] at H
           obtain ⟨rfl, rfl⟩ := H
           have hnb23 := NB240_238.out
           have hnc23 := NB238_240.out
           obtain ⟨hcz24_0, hcz24_1, hcz24_2⟩ := bcQ3 BK240.out
           obtain ⟨hfz24_0, hfz24_1, hfz24_2⟩ := fzQ3 BK240.out
           go_wp2
           go_ret2
           exact ⟨by first | rfl | (simp [errW_none, errW_some] <;> rfl) | (simp [*, errW_none, errW_some] <;> rfl), by repeat with_reducible first | exact HB.out | apply pw_below_drewN | apply below_drew1 | refine below_set ?_ GE238.out | refine below_set ?_ GE240.out⟩
          ·
           rw [if_neg c22] at H
           have c22b0 : decide (((rd_T65 l0_4 x4_1).f2) < 0) = false := decide_eq_false c22
           clear c22
           by_cases c25 : ((rd_T65 l0_4 x4_1).f2) > (l0_1.length : Int)
           ·
            rw [if_pos c25] at H
            have c25b0 : decide ((l0_1.length : Int) < ((rd_T65 l0_4 x4_1).f2)) = true := decide_eq_true c25
            clear c25
            simp only [Option.some.injEq, Prod.mk.injEq] at H
            obtain ⟨rfl, rfl⟩ := H
            have hnb26 := NB240_238.out
            have hnc26 := NB238_240.out
            obtain ⟨hcz27_0, hcz27_1, hcz27_2⟩ := bcQ3 BK240.out
            obtain ⟨hfz27_0, hfz27_1, hfz27_2⟩ := fzQ3 BK240.out
            obtain ⟨hcz28_0, hcz28_1, hcz28_2, hcz28_3, hcz28_4, hcz28_5⟩ := bcQ6 BK238.out
            obtain ⟨hfz28_0, hfz28_1, hfz28_2, hfz28_3, hfz28_4, hfz28_5⟩ := fzQ6 BK238.out
            go_wp2
            go_ret2
            exact ⟨by first | rfl | (simp [errW_none, errW_some] <;> rfl) | (simp [*, errW_none, errW_some] <;> rfl), by repeat with_reducible first | exact HB.out | apply pw_below_drewN | apply below_drew1 | refine below_set ?_ GE238.out | refine below_set ?_ GE240.out⟩
           ·
            rw [if_neg c25] at H
            have c25b0 : decide ((l0_1.length : Int) < ((rd_T65 l0_4 x4_1).f2)) = false := decide_eq_false c25
            clear c25
            by_cases c29 : ((rd_T65 l0_4 x4_1).f1) = 3
            ·
             rw [if_pos c29] at H
             have c29b0 : (((rd_T65 l0_4 x4_1).f1) == 3) = true := beq_iff_eq.mpr c29
             have c29b1 : (((rd_T65 l0_4 x4_1).f1) != 3) = false := bne_eq_false_iff_eq.mpr c29
             clear c29
             by_cases c30 : ((rd_T65 l0_4 x4_1).f2) = 0
             ·
              rw [if_pos c30] at H
              have c30b0 : (((rd_T65 l0_4 x4_1).f2) == 0) = true := beq_iff_eq.mpr c30
              have c30b1 : (((rd_T65 l0_4 x4_1).f2) != 0) = false := bne_eq_false_iff_eq.mpr c30
              clear c30
              have H' := Aside0.mk H
              clear H
              have hnb31 := NB240_238.out
              have hnc31 := NB238_240.out
              obtain ⟨hcz32_0, hcz32_1, hcz32_2⟩ := bcQ3 BK240.out
              obtain ⟨hfz32_0, hfz32_1, hfz32_2⟩ := fzQ3 BK240.out
              obtain ⟨hcz33_0, hcz33_1, hcz33_2, hcz33_3, hcz33_4, hcz33_5⟩ := bcQ6 BK238.out
              obtain ⟨hfz33_0, hfz33_1, hfz33_2, hfz33_3, hfz33_4, hfz33_5⟩ := fzQ6 BK238.out
              go_wp2
              go_roundg kj8
              case measure => have := HK1.out; have := HJ8.out; omega
              case rel => exact ⟨(wrap64 (x4_1 + 1)), (by first | rfl | (simp; done) | (simp [*]; done)), H', ⟨by have := HK1.out; have := HJ8.out; omega⟩, ⟨by exact BK238.out⟩, ⟨by repeat with_reducible first | exact HB.out | apply pw_below_drewN | apply below_drew1 | refine below_set ?_ GE238.out | refine below_set ?_ GE240.out⟩⟩
             ·
              rw [if_neg c30] at H
              have c30b0 : (((rd_T65 l0_4 x4_1).f2) == 0) = false := beq_eq_false_iff_ne.mpr c30
              have c30b1 : (((rd_T65 l0_4 x4_1).f2) != 0) = true := bne_iff_ne.mpr c30
              simp only [Option.some.injEq, Prod.mk.injEq] at H
              obtain ⟨rfl, rfl⟩ := H
              have hnb34 := NB240_238.out
              have hnc34 := NB238_240.out
              obtain ⟨hcz35_0, hcz35_1, hcz35_2⟩ := bcQ3 BK240.out
              obtain ⟨hfz35_0, hfz35_1, hfz35_2⟩ := fzQ3 BK240.out
              obtain ⟨hcz36_0, hcz36_1, hcz36_2, hcz36_3, hcz36_4, hcz36_5⟩ := bcQ6 BK238.out
              obtain ⟨hfz36_0, hfz36_1, hfz36_2, hfz36_3, hfz36_4, hfz36_5⟩ := fzQ6 BK238.out
              go_wp2
              go_ret2
              exact ⟨by first | rfl | (simp [errW_none, errW_some] <;> rfl) | (simp [*, errW_none, errW_some] <;> rfl), by repeat with_reducible first | exact HB.out | apply pw_below_drewN | apply below_drew1 | refine below_set ?_ GE238.out | refine below_set ?_ GE240.out⟩
            ·
             rw [if_neg c29] at H
             have c29b0 : (((rd_T65 l0_4 x4_1).f1) == 3) = false := beq_eq_false_iff_ne.mpr c29
             have c29b1 : (((rd_T65 l0_4 x4_1).f1) != 3) = true := bne_iff_ne.mpr c29
             have H' := Aside0.mk H
             clear H
             have hnb37 := NB240_238.out
             have hnc37 := NB238_240.out
             obtain ⟨hcz38_0, hcz38_1, hcz38_2⟩ := bcQ3 BK240.out
             obtain ⟨hfz38_0, hfz38_1, hfz38_2⟩ := fzQ3 BK240.out
             obtain ⟨hcz39_0, hcz39_1, hcz39_2, hcz39_3, hcz39_4, hcz39_5⟩ := bcQ6 BK238.out
             obtain ⟨hfz39_0, hfz39_1, hfz39_2, hfz39_3, hfz39_4, hfz39_5⟩ := fzQ6 BK238.out
             go_wp2
             go_roundg kj8
             case measure => have := HK1.out; have := HJ8.out; omega
             case rel => exact ⟨(wrap64 (x4_1 + 1)), (by first | rfl | (simp; done) | (simp [*]; done)), H', ⟨by have := HK1.out; have := HJ8.out; omega⟩, ⟨by exact BK238.out⟩, ⟨by repeat with_reducible first | exact HB.out | apply pw_below_drewN | apply below_drew1 | refine below_set ?_ GE238.out | refine below_set ?_ GE240.out⟩⟩
      ·
       rw [if_neg c8] at H
       have c8b0 : (t242 == x4_1) = false := beq_eq_false_iff_ne.mpr c8
       have c8b1 : (t242 != x4_1) = true := bne_iff_ne.mpr c8
       simp only [Option.some.injEq, Prod.mk.injEq] at H
       obtain ⟨rfl, rfl⟩ := H
       obtain ⟨hcz40_0, hcz40_1, hcz40_2, hcz40_3, hcz40_4, hcz40_5⟩ := bcQ6 BK238.out
       obtain ⟨hfz40_0, hfz40_1, hfz40_2, hfz40_3, hfz40_4, hfz40_5⟩ := fzQ6 BK238.out
       have p239 : 0 ≤ (x4_1 : Int) := of_decide_eq_true ‹_›
       have q239 : x4_1 < (l0_4.length : Int) := of_decide_eq_true ‹_›
       obtain ⟨ad239, e239, hx239_0, hx239_1, hx239_2⟩ := atQ65 HR0_4.out HB.out x4_1 p239 q239
       cases e239
       replace p239 := eq_true p239
       replace q239 := eq_true q239
       go_wp2_with (first | ((with_reducible refine gate_dst (N := 5) rfl ?_); (try (refine gate_guard (by rfl) ?_; dsimp only)); refine box_event ?hg (N := 5) ?hd (cs := #[.string (⟨#[]⟩ : ByteArray), .int .i8 0, .int .i64 0]) (t := 65) ?hr ?_; (case hd => rfl); (case hg => rfl); (case hr => go_simp; try rfl); intro gb240 hg w41 hbox hb; have n0_ := Aside0.mk (bbQ hb BK238.out); have n1_ := Aside0.mk (bs1Q hb (by repeat with_reducible first | exact HB.out | apply pw_below_drewN | apply below_drew1 | refine below_set ?_ GE238.out)); have n2_ := Aside0.mk (hbox); have n3_ := Aside0.mk (gw1Q hg (by repeat with_reducible first | exact HB.out | apply pw_below_drewN | apply below_drew1 | refine below_set ?_ GE238.out)); have n4_ := Aside0.mk (gw1Q hg (by repeat with_reducible first | exact HB.out | apply pw_below_drewN | apply below_drew1 | refine below_set ?_ GE238.out)); have n5_ := Aside0.mk ((by rw [hg]; exact Nat.ne_of_lt (blk_lt (g := gb238) (o := .cells #[.string a0_0, .slice A0_1 l0_1.length c0_1, .int .i64 a0_2, .slice A0_3 l0_3.length c0_3, .slice (some ad239) l0_4.length c0_4, .slice A0_5 l0_5.length c0_5] 27 (0, 0)) (by exact BK238.out)) : gb238 ≠ gb240)); have n6_ := Aside0.mk ((by rw [hg]; exact Nat.ne_of_gt (blk_lt (g := gb238) (o := .cells #[.string a0_0, .slice A0_1 l0_1.length c0_1, .int .i64 a0_2, .slice A0_3 l0_3.length c0_3, .slice (some ad239) l0_4.length c0_4, .slice A0_5 l0_5.length c0_5] 27 (0, 0)) (by exact BK238.out)) : gb240 ≠ gb238)); clear BK238; clear HB; have BK238 := n0_; have HB := n1_; have BK240 := n2_; have GW240 := n3_; have GE240 := n4_; have NB238_240 := n5_; have NB240_238 := n6_; clear n0_ n1_ n2_ n3_ n4_ n5_ n6_; clear hb hbox hg; have hnb42 := NB240_238.out; have hnc42 := NB238_240.out; obtain ⟨hcz43_0, hcz43_1, hcz43_2⟩ := bcQ3 BK240.out; obtain ⟨hfz43_0, hfz43_1, hfz43_2⟩ := fzQ3 BK240.out) | ((with_reducible refine gate_callee (f := 105) rfl ?_); refine goesL_ (some 20) rfl rfl Tryz.func105 (by kernel_rfl) rfl #[.string ((rd_T65 l0_4 x4_1).f0)] rfl (by (try simp only [List.map_toArray, List.map_cons, List.map_nil]); try rfl) ?_; (with_reducible refine (pleatref03_Name.calls k1 ((rd_T65 l0_4 x4_1).f0) true _ A5.out).mono ?_); rintro e w' ⟨rfl, ⟨nd, rfl⟩⟩; refine ⟨_, rfl, ?_⟩; obtain ⟨hcz44_0, hcz44_1, hcz44_2, hcz44_3, hcz44_4, hcz44_5⟩ := bcQ6 BK238.out; obtain ⟨hfz44_0, hfz44_1, hfz44_2, hfz44_3, hfz44_4, hfz44_5⟩ := fzQ6 BK238.out) | ((with_reducible refine gate_callee (f := 106) rfl ?_); refine goesL_ (some 26) rfl rfl Tryz.func106 (by kernel_rfl) rfl #[.agg #[.string a0_0, .slice A0_1 l0_1.length c0_1, .int .i64 a0_2, .slice A0_3 l0_3.length c0_3, .slice (some ad239) l0_4.length c0_4, .slice A0_5 l0_5.length c0_5], .string ((rd_T65 l0_4 x4_1).f0)] rfl (by (try simp only [List.map_toArray, List.map_cons, List.map_nil]); try rfl) ?_; (with_reducible refine (pleatref03_Of.calls k1 a0_0 _ _ l0_1 a0_2 _ _ l0_3 _ _ l0_4 _ _ l0_5 ((rd_T65 l0_4 x4_1).f0) t242 _ ?side1 ?side2 ?side3 ?side4 ?side5 ?side6 ?side7 ?side8 A7.out).mono ?_); (case side1 => exact Kd.C_below HR0_1.out (by repeat with_reducible first | exact HB.out | apply pw_below_drewN | apply below_drew1 | refine below_set ?_ GE238.out | refine below_set ?_ GE240.out)); (case side2 => exact HC0_1.out); (case side3 => exact Kd.C_below HR0_3.out (by repeat with_reducible first | exact HB.out | apply pw_below_drewN | apply below_drew1 | refine below_set ?_ GE238.out | refine below_set ?_ GE240.out)); (case side4 => exact HC0_3.out); (case side5 => exact Kd.C_below HR0_4.out (by repeat with_reducible first | exact HB.out | apply pw_below_drewN | apply below_drew1 | refine below_set ?_ GE238.out | refine below_set ?_ GE240.out)); (case side6 => exact HC0_4.out); (case side7 => exact Kd.C_below HR0_5.out (by repeat with_reducible first | exact HB.out | apply pw_below_drewN | apply below_drew1 | refine below_set ?_ GE238.out | refine below_set ?_ GE240.out)); (case side8 => exact HC0_5.out); rintro e w45 ⟨rfl, hb⟩; refine ⟨_, rfl, ?_⟩; have n0_ := Aside0.mk (blk_below (g := gb238) (o := .cells #[.string a0_0, .slice A0_1 l0_1.length c0_1, .int .i64 a0_2, .slice A0_3 l0_3.length c0_3, .slice (some ad239) l0_4.length c0_4, .slice A0_5 l0_5.length c0_5] 27 (0, 0)) (by refine blk_far ?_ NB238_240.out _; refine blk_far ?_ NB238_240.out _; refine blk_far ?_ NB238_240.out _; exact BK238.out) hb); have n1_ := Aside0.mk (blk_below (g := gb240) (o := .cells #[.string ((rd_T65 l0_4 x4_1).f0), .int .i8 ((rd_T65 l0_4 x4_1).f1), .int .i64 ((rd_T65 l0_4 x4_1).f2)] 65 (0, 0)) (by refine blk_put (cs := #[.string ((rd_T65 l0_4 x4_1).f0), .int .i8 ((rd_T65 l0_4 x4_1).f1), .int .i64 0]) ?_ 2 _ rfl; refine blk_put (cs := #[.string ((rd_T65 l0_4 x4_1).f0), .int .i8 0, .int .i64 0]) ?_ 1 _ rfl; refine blk_put (cs := #[.string (⟨#[]⟩ : ByteArray), .int .i8 0, .int .i64 0]) ?_ 0 _ rfl; exact BK240.out) hb); have n2_ := Aside0.mk (bs1Q hb (by repeat with_reducible first | exact HB.out | apply pw_below_drewN | apply below_drew1 | refine below_set ?_ GE238.out | refine below_set ?_ GE240.out)); clear BK238; clear BK240; clear HB; have BK238 := n0_; have BK240 := n1_; have HB := n2_; clear n0_ n1_ n2_; (try clear hb); (try clear hb2); (try clear hk); (try clear hi)))
       go_ret2
       exact ⟨by first | rfl | (simp [errW_none, errW_some] <;> rfl) | (simp [*, errW_none, errW_some] <;> rfl), by repeat with_reducible first | exact HB.out | apply pw_below_drewN | apply below_drew1 | refine below_set ?_ GE238.out | refine below_set ?_ GE240.out⟩
     ·
      replace c6 := Bool.eq_false_iff.mpr c6
      subst c6
      rw [if_neg Bool.false_ne_true] at H
      simp only [Option.some.injEq, Prod.mk.injEq] at H
      obtain ⟨rfl, rfl⟩ := H
      obtain ⟨hcz46_0, hcz46_1, hcz46_2, hcz46_3, hcz46_4, hcz46_5⟩ := bcQ6 BK238.out
      obtain ⟨hfz46_0, hfz46_1, hfz46_2, hfz46_3, hfz46_4, hfz46_5⟩ := fzQ6 BK238.out
      have p239 : 0 ≤ (x4_1 : Int) := of_decide_eq_true ‹_›
      have q239 : x4_1 < (l0_4.length : Int) := of_decide_eq_true ‹_›
      obtain ⟨ad239, e239, hx239_0, hx239_1, hx239_2⟩ := atQ65 HR0_4.out HB.out x4_1 p239 q239
      cases e239
      replace p239 := eq_true p239
      replace q239 := eq_true q239
      go_wp2_with (first | ((with_reducible refine gate_dst (N := 5) rfl ?_); (try (refine gate_guard (by rfl) ?_; dsimp only)); refine box_event ?hg (N := 5) ?hd (cs := #[.string (⟨#[]⟩ : ByteArray), .int .i8 0, .int .i64 0]) (t := 65) ?hr ?_; (case hd => rfl); (case hg => rfl); (case hr => go_simp; try rfl); intro gb240 hg w47 hbox hb; have n0_ := Aside0.mk (bbQ hb BK238.out); have n1_ := Aside0.mk (bs1Q hb (by repeat with_reducible first | exact HB.out | apply pw_below_drewN | apply below_drew1 | refine below_set ?_ GE238.out)); have n2_ := Aside0.mk (hbox); have n3_ := Aside0.mk (gw1Q hg (by repeat with_reducible first | exact HB.out | apply pw_below_drewN | apply below_drew1 | refine below_set ?_ GE238.out)); have n4_ := Aside0.mk (gw1Q hg (by repeat with_reducible first | exact HB.out | apply pw_below_drewN | apply below_drew1 | refine below_set ?_ GE238.out)); have n5_ := Aside0.mk ((by rw [hg]; exact Nat.ne_of_lt (blk_lt (g := gb238) (o := .cells #[.string a0_0, .slice A0_1 l0_1.length c0_1, .int .i64 a0_2, .slice A0_3 l0_3.length c0_3, .slice (some ad239) l0_4.length c0_4, .slice A0_5 l0_5.length c0_5] 27 (0, 0)) (by exact BK238.out)) : gb238 ≠ gb240)); have n6_ := Aside0.mk ((by rw [hg]; exact Nat.ne_of_gt (blk_lt (g := gb238) (o := .cells #[.string a0_0, .slice A0_1 l0_1.length c0_1, .int .i64 a0_2, .slice A0_3 l0_3.length c0_3, .slice (some ad239) l0_4.length c0_4, .slice A0_5 l0_5.length c0_5] 27 (0, 0)) (by exact BK238.out)) : gb240 ≠ gb238)); clear BK238; clear HB; have BK238 := n0_; have HB := n1_; have BK240 := n2_; have GW240 := n3_; have GE240 := n4_; have NB238_240 := n5_; have NB240_238 := n6_; clear n0_ n1_ n2_ n3_ n4_ n5_ n6_; clear hb hbox hg; have hnb48 := NB240_238.out; have hnc48 := NB238_240.out; obtain ⟨hcz49_0, hcz49_1, hcz49_2⟩ := bcQ3 BK240.out; obtain ⟨hfz49_0, hfz49_1, hfz49_2⟩ := fzQ3 BK240.out) | ((with_reducible refine gate_callee (f := 105) rfl ?_); refine goesL_ (some 20) rfl rfl Tryz.func105 (by kernel_rfl) rfl #[.string ((rd_T65 l0_4 x4_1).f0)] rfl (by (try simp only [List.map_toArray, List.map_cons, List.map_nil]); try rfl) ?_; (with_reducible refine (pleatref03_Name.calls k1 ((rd_T65 l0_4 x4_1).f0) false _ A5.out).mono ?_); rintro e w' ⟨rfl, ⟨nd, rfl⟩⟩; refine ⟨_, rfl, ?_⟩))
      go_ret2
      exact ⟨by first | rfl | (simp [errW_none, errW_some] <;> rfl) | (simp [*, errW_none, errW_some] <;> rfl), by repeat with_reducible first | exact HB.out | apply pw_below_drewN | apply below_drew1 | refine below_set ?_ GE238.out | refine below_set ?_ GE240.out⟩
    ·
     rw [if_neg c4] at H
     exact absurd H (by simp)
   ·
    rw [if_neg c3] at H
    have c3b0 : decide (x4_1 < (l0_4.length : Int)) = false := decide_eq_false c3
    clear c3
    simp only [Option.some.injEq, Prod.mk.injEq] at H
    obtain ⟨rfl, rfl⟩ := H
    obtain ⟨hcz50_0, hcz50_1, hcz50_2, hcz50_3, hcz50_4, hcz50_5⟩ := bcQ6 BK238.out
    obtain ⟨hfz50_0, hfz50_1, hfz50_2, hfz50_3, hfz50_4, hfz50_5⟩ := fzQ6 BK238.out
    go_wp2
    go_ret2
    exact ⟨by first | rfl | (simp [errW_none, errW_some] <;> rfl) | (simp [*, errW_none, errW_some] <;> rfl), by repeat with_reducible first | exact HB.out | apply pw_below_drewN | apply below_drew1 | refine below_set ?_ GE238.out⟩
end Go.Proofs.YtiaohbbafaaibabGreatDoor.P

/- What the Go functions named below come to, as plain functions, each with its proof; written by this session's prt.py over the kit's print. -/
namespace Go.Proofs.YtiaohbbafaaibabGreatDoor.P
open Go.RowKit Go.Proofs.YtiaohbbafaaibabGreatDoorW.PrintWords Go.Proofs.YtiaohbbafaaibabGreatDoorW.PrintLast Go.Proofs.YtiaohbbafaaibabGreatDoorW.PrintMore
attribute [local go_sem] max2_int min2_int max_two min_two max_three min_three max_four min_four   -- for this text's walks alone
set_option linter.unusedVariables false
set_option linter.unusedSimpArgs false
mutual
def pleatref03_relocs.l0 : Nat → Int → ByteArray → List Int → Int → List Int → List (S65) → List (S82) → Option (Int × Int)
 | 0, _, _, _, _, _, _, _ => none
 | k + 1, x4, x280000, x280001, x280002, x280003, x280004, x280005 => if x4 < (x280005.length : Int) then (if 0 ≤ x4 then (if ((rd_T82 x280005 x4).f0) < 0 then (pleatref03_relocs.j1 k x4 true x280000 x280001 x280002 x280003 x280004 x280005 ((rd_T82 x280005 x4).f0) ((rd_T82 x280005 x4).f1)) else (if ((rd_T82 x280005 x4).f0) ≥ (x280001.length : Int) then (pleatref03_relocs.j1 k x4 true x280000 x280001 x280002 x280003 x280004 x280005 ((rd_T82 x280005 x4).f0) ((rd_T82 x280005 x4).f1)) else (if x4 > 0 then (if 0 ≤ (wrap64 (x4 - 1)) then (if (wrap64 (x4 - 1)) < (x280005.length : Int) then (if ((rd_T82 x280005 x4).f0) ≤ ((rd_T82 x280005 (wrap64 (x4 - 1))).f0) then (pleatref03_relocs.j1 k x4 true x280000 x280001 x280002 x280003 x280004 x280005 ((rd_T82 x280005 x4).f0) ((rd_T82 x280005 x4).f1)) else (if ((rd_T82 x280005 x4).f1) < 0 then (pleatref03_relocs.j1 k x4 true x280000 x280001 x280002 x280003 x280004 x280005 ((rd_T82 x280005 x4).f0) ((rd_T82 x280005 x4).f1)) else (pleatref03_relocs.j1 k x4 (decide (((rd_T82 x280005 x4).f1) ≥ (x280004.length : Int))) x280000 x280001 x280002 x280003 x280004 x280005 ((rd_T82 x280005 x4).f0) ((rd_T82 x280005 x4).f1)))) else (none)) else (none)) else (if ((rd_T82 x280005 x4).f1) < 0 then (pleatref03_relocs.j1 k x4 true x280000 x280001 x280002 x280003 x280004 x280005 ((rd_T82 x280005 x4).f0) ((rd_T82 x280005 x4).f1)) else (pleatref03_relocs.j1 k x4 (decide (((rd_T82 x280005 x4).f1) ≥ (x280004.length : Int))) x280000 x280001 x280002 x280003 x280004 x280005 ((rd_T82 x280005 x4).f0) ((rd_T82 x280005 x4).f1)))))) else (none)) else (some (0, 0))
def pleatref03_relocs.j1 : Nat → Int → Bool → ByteArray → List Int → Int → List Int → List (S65) → List (S82) → Int → Int → Option (Int × Int)
 | 0, _, _, _, _, _, _, _, _, _, _ => none
 | k + 1, x4, x59, x280000, x280001, x280002, x280003, x280004, x280005, x282000, x282001 => if x59 = true then (some (24, x4)) else (if 0 ≤ x282000 then (if x282000 < (x280001.length : Int) then ((pleatref02_Target.f k (rd x280001 x282000)).bind fun bt284 => (if bt284.2 = true then (if bt284.1 = 0 then (pleatref03_relocs.l0 k (wrap64 (x4 + 1)) x280000 x280001 x280002 x280003 x280004 x280005) else (some (24, x4))) else (some (24, x4)))) else (none)) else (none))
end
def pleatref03_relocs.f (k : Nat) (a0_0 : ByteArray) (l0_1 : List Int) (a0_2 : Int) (l0_3 : List Int) (l0_4 : List (S65)) (l0_5 : List (S82)) : Option (Int × Int) := pleatref03_relocs.l0 k 0 a0_0 l0_1 a0_2 l0_3 l0_4 l0_5
theorem pleatref03_relocs.mono_l : ∀ k, (∀ y0 y1 y2 y3 y4 y5 y6, LeO (pleatref03_relocs.l0 k y0 y1 y2 y3 y4 y5 y6) (pleatref03_relocs.l0 (k + 1) y0 y1 y2 y3 y4 y5 y6)) ∧ (∀ y0 y1 y2 y3 y4 y5 y6 y7 y8 y9, LeO (pleatref03_relocs.j1 k y0 y1 y2 y3 y4 y5 y6 y7 y8 y9) (pleatref03_relocs.j1 (k + 1) y0 y1 y2 y3 y4 y5 y6 y7 y8 y9))
 | 0 => ⟨fun _ _ _ _ _ _ _ r h => by simp [pleatref03_relocs.l0] at h, fun _ _ _ _ _ _ _ _ _ _ r h => by simp [pleatref03_relocs.j1] at h⟩
 | k + 1 => by
  obtain ⟨ih0, ih1⟩ := pleatref03_relocs.mono_l k
  refine ⟨?_, ?_⟩
  ·
   intro y0 y1 y2 y3 y4 y5 y6
   unfold pleatref03_relocs.l0
   repeat' first
   | (with_reducible first | exact ih0 _ _ _ _ _ _ _ | exact ih1 _ _ _ _ _ _ _ _ _ _ | exact pleatref02_Target.mono _ _ | exact LeO.refl _ | exact LeO.none _ | refine LeO.ite ?_ ?_ | refine LeO.bind ?_ (fun _ => ?_))
  ·
   intro y0 y1 y2 y3 y4 y5 y6 y7 y8 y9
   unfold pleatref03_relocs.j1
   repeat' first
   | (with_reducible first | exact ih0 _ _ _ _ _ _ _ | exact ih1 _ _ _ _ _ _ _ _ _ _ | exact pleatref02_Target.mono _ _ | exact LeO.refl _ | exact LeO.none _ | refine LeO.ite ?_ ?_ | refine LeO.bind ?_ (fun _ => ?_))
theorem pleatref03_relocs.mono : ∀ a0 a1 a2 a3 a4 a5 k, LeO (pleatref03_relocs.f k a0 a1 a2 a3 a4 a5) (pleatref03_relocs.f (k + 1) a0 a1 a2 a3 a4 a5) := by
 intro a0 a1 a2 a3 a4 a5 k
 obtain ⟨ih0, ih1⟩ := pleatref03_relocs.mono_l k
 unfold pleatref03_relocs.f
 repeat' first
   | (with_reducible first | exact ih0 _ _ _ _ _ _ _ | exact ih1 _ _ _ _ _ _ _ _ _ _ | exact pleatref02_Target.mono _ _ | exact LeO.refl _ | exact LeO.none _ | refine LeO.ite ?_ ?_ | refine LeO.bind ?_ (fun _ => ?_))
set_option maxHeartbeats 8000000 in
set_option maxRecDepth 100000 in
theorem pleatref03_relocs.calls (k : Nat) (a0_0 : ByteArray) (A0_1 : Option Addr) (c0_1 : Nat) (l0_1 : List Int) (a0_2 : Int) (A0_3 : Option Addr) (c0_3 : Nat) (l0_3 : List Int) (A0_4 : Option Addr) (c0_4 : Nat) (l0_4 : List (S65)) (A0_5 : Option Addr) (c0_5 : Nat) (l0_5 : List (S82)) (r1 : Int) (r2 : Int) (w : World) (hr0_1 : Kd.C (Kd.int .u32) w A0_1 l0_1.length l0_1) (hc0_1 : l0_1.length ≤ c0_1) (hr0_3 : Kd.C (Kd.int .i64) w A0_3 l0_3.length l0_3) (hc0_3 : l0_3.length ≤ c0_3) (hr0_4 : Kd.C k65 w A0_4 l0_4.length l0_4) (hc0_4 : l0_4.length ≤ c0_4) (hr0_5 : Kd.C k82 w A0_5 l0_5.length l0_5) (hc0_5 : l0_5.length ≤ c0_5) (h : pleatref03_relocs.f k a0_0 l0_1 a0_2 l0_3 l0_4 l0_5 = some (r1, r2)) :
  Calls Tryz.prog 88 #[.agg #[.string a0_0, .slice A0_1 l0_1.length c0_1, .int .i64 a0_2, .slice A0_3 l0_3.length c0_3, .slice A0_4 l0_4.length c0_4, .slice A0_5 l0_5.length c0_5]] w fun e w' => e = .returned (.tuple #[.int .i64 r1, .int .i64 r2]) ∧ Below w.heap.size w w' := by
 have hu27 := Tryz.underlying27
 have hu82 := Tryz.underlying82
 have HR0_1 := Aside0.mk hr0_1
 have HC0_1 := Aside0.mk hc0_1
 clear hr0_1 hc0_1
 have HR0_3 := Aside0.mk hr0_3
 have HC0_3 := Aside0.mk hc0_3
 clear hr0_3 hc0_3
 have HR0_4 := Aside0.mk hr0_4
 have HC0_4 := Aside0.mk hc0_4
 clear hr0_4 hc0_4
 have HR0_5 := Aside0.mk hr0_5
 have HC0_5 := Aside0.mk hc0_5
 clear hr0_5 hc0_5
 have HB := Aside0.mk (Below.refl w.heap.size w)
 have H : (pleatref03_relocs.l0 k 0 a0_0 l0_1 a0_2 l0_3 l0_4 l0_5) = some (r1, r2) := h
 clear h
 have H' := Aside0.mk H
 clear H
 go_enter Tryz.func88, Tryz.ntmps88
 go_wp2_with (first | ((with_reducible refine gate_dst (N := 1) rfl ?_); (try (refine gate_guard (by rfl) ?_; dsimp only)); refine box_event ?hg (N := 1) ?hd (cs := #[.string a0_0, .slice A0_1 l0_1.length c0_1, .int .i64 a0_2, .slice A0_3 l0_3.length c0_3, .slice A0_4 l0_4.length c0_4, .slice A0_5 l0_5.length c0_5]) (t := 27) ?hr ?_; (case hd => rfl); (case hg => rfl); (case hr => go_simp; try rfl); intro gb279 hg w2 hbox hb; have BK279 := Aside0.mk (hbox); have GW279 := Aside0.mk (gwQ hg HB.out); have GE279 := Aside0.mk (gwQ hg HB.out); replace HB := Aside0.mk (bsQ hb HB.out); clear hb hbox hg))
 repeat (go_quiet (first | ((with_reducible refine gate_dst (N := 1) rfl ?_); (try (refine gate_guard (by rfl) ?_; dsimp only)); refine box_event ?hg (N := 1) ?hd (cs := #[.string a0_0, .slice A0_1 l0_1.length c0_1, .int .i64 a0_2, .slice A0_3 l0_3.length c0_3, .slice A0_4 l0_4.length c0_4, .slice A0_5 l0_5.length c0_5]) (t := 27) ?hr ?_; (case hd => rfl); (case hg => rfl); (case hr => go_simp; try rfl); intro gb279 hg w2 hbox hb; have BK279 := Aside0.mk (hbox); have GW279 := Aside0.mk (gwQ hg HB.out); have GE279 := Aside0.mk (gwQ hg HB.out); replace HB := Aside0.mk (bsQ hb HB.out); clear hb hbox hg)); try go_wp2_with (first | ((with_reducible refine gate_dst (N := 1) rfl ?_); (try (refine gate_guard (by rfl) ?_; dsimp only)); refine box_event ?hg (N := 1) ?hd (cs := #[.string a0_0, .slice A0_1 l0_1.length c0_1, .int .i64 a0_2, .slice A0_3 l0_3.length c0_3, .slice A0_4 l0_4.length c0_4, .slice A0_5 l0_5.length c0_5]) (t := 27) ?hr ?_; (case hd => rfl); (case hg => rfl); (case hr => go_simp; try rfl); intro gb279 hg w2 hbox hb; have BK279 := Aside0.mk (hbox); have GW279 := Aside0.mk (gwQ hg HB.out); have GE279 := Aside0.mk (gwQ hg HB.out); replace HB := Aside0.mk (bsQ hb HB.out); clear hb hbox hg)))
 go_loopg [4] k (fun kq v4 w' => ∃ (x4_1 : Int), v4 = .int .i64 x4_1 ∧ Aside0 (pleatref03_relocs.l0 kq x4_1 a0_0 l0_1 a0_2 l0_3 l0_4 l0_5 = some (r1, r2)) ∧ Aside0 (kq ≤ k) ∧ Aside0 (w'.heap[gb279]? = some (.cells #[.string a0_0, (.slice A0_1 l0_1.length c0_1), .int .i64 a0_2, (.slice A0_3 l0_3.length c0_3), (.slice A0_4 l0_4.length c0_4), (.slice A0_5 l0_5.length c0_5)] 27 (0, 0))) ∧ Aside0 (Below w.heap.size w w'))
 case atStart => exact ⟨(0), (by first | rfl | (simp; done) | (simp [*]; done)), H', ⟨Nat.le_refl _⟩, ⟨by exact BK279.out⟩, ⟨by repeat with_reducible first | exact HB.out | apply pw_below_drewN | apply below_drew1 | refine below_set ?_ GE279.out⟩⟩
 case round =>
  clear H'
  try clear p2
  obtain ⟨x4_1, rfl, HA, HK1, BK279, HB⟩ := hrel
  cases gk with
  | zero => exact absurd HA.out (by simp [pleatref03_relocs.l0])
  | succ k1 =>
   have H := HA.out
   clear HA
   simp only [pleatref03_relocs.l0] at H
   by_cases c3 : x4_1 < (l0_5.length : Int)
   ·
    rw [if_pos c3] at H
    have c3b0 : decide (x4_1 < (l0_5.length : Int)) = true := decide_eq_true c3
    clear c3
    by_cases c4 : 0 ≤ x4_1
    ·
     rw [if_pos c4] at H
     have c4b0 : decide (0 ≤ x4_1) = true := decide_eq_true c4
     clear c4
     have HC5 := Aside0.mk H
     clear H
     obtain ⟨hcz6_0, hcz6_1, hcz6_2, hcz6_3, hcz6_4, hcz6_5⟩ := bcQ6 BK279.out
     obtain ⟨hfz6_0, hfz6_1, hfz6_2, hfz6_3, hfz6_4, hfz6_5⟩ := fzQ6 BK279.out
     have p280 : 0 ≤ (x4_1 : Int) := of_decide_eq_true ‹_›
     have q280 : x4_1 < (l0_5.length : Int) := of_decide_eq_true ‹_›
     obtain ⟨ad280, e280, hx280_0, hx280_1⟩ := atQ82 HR0_5.out HB.out x4_1 p280 q280
     cases e280
     replace p280 := eq_true p280
     replace q280 := eq_true q280
     go_upto_region 5 with (first | ((with_reducible refine gate_dst (N := 5) rfl ?_); (try (refine gate_guard (by rfl) ?_; dsimp only)); refine box_event ?hg (N := 5) ?hd (cs := #[.int .i64 0, .int .i64 0]) (t := 82) ?hr ?_; (case hd => rfl); (case hg => rfl); (case hr => go_simp; try rfl); intro gb281 hg w7 hbox hb; have n0_ := Aside0.mk (bbQ hb BK279.out); have n1_ := Aside0.mk (bs1Q hb (by repeat with_reducible first | exact HB.out | apply pw_below_drewN | apply below_drew1 | refine below_set ?_ GE279.out)); have n2_ := Aside0.mk (hbox); have n3_ := Aside0.mk (gw1Q hg (by repeat with_reducible first | exact HB.out | apply pw_below_drewN | apply below_drew1 | refine below_set ?_ GE279.out)); have n4_ := Aside0.mk (gw1Q hg (by repeat with_reducible first | exact HB.out | apply pw_below_drewN | apply below_drew1 | refine below_set ?_ GE279.out)); have n5_ := Aside0.mk ((by rw [hg]; exact Nat.ne_of_lt (blk_lt (g := gb279) (o := .cells #[.string a0_0, .slice A0_1 l0_1.length c0_1, .int .i64 a0_2, .slice A0_3 l0_3.length c0_3, .slice A0_4 l0_4.length c0_4, .slice (some ad280) l0_5.length c0_5] 27 (0, 0)) (by exact BK279.out)) : gb279 ≠ gb281)); have n6_ := Aside0.mk ((by rw [hg]; exact Nat.ne_of_gt (blk_lt (g := gb279) (o := .cells #[.string a0_0, .slice A0_1 l0_1.length c0_1, .int .i64 a0_2, .slice A0_3 l0_3.length c0_3, .slice A0_4 l0_4.length c0_4, .slice (some ad280) l0_5.length c0_5] 27 (0, 0)) (by exact BK279.out)) : gb281 ≠ gb279)); clear BK279; clear HB; have BK279 := n0_; have HB := n1_; have BK281 := n2_; have GW281 := n3_; have GE281 := n4_; have NB279_281 := n5_; have NB281_279 := n6_; clear n0_ n1_ n2_ n3_ n4_ n5_ n6_; clear hb hbox hg; have hnb8 := NB281_279.out; have hnc8 := NB279_281.out; obtain ⟨hcz9_0, hcz9_1⟩ := bcQ2 BK281.out; obtain ⟨hfz9_0, hfz9_1⟩ := fzQ2 BK281.out))
     repeat (go_quiet (first | ((with_reducible refine gate_dst (N := 5) rfl ?_); (try (refine gate_guard (by rfl) ?_; dsimp only)); refine box_event ?hg (N := 5) ?hd (cs := #[.int .i64 0, .int .i64 0]) (t := 82) ?hr ?_; (case hd => rfl); (case hg => rfl); (case hr => go_simp; try rfl); intro gb281 hg w7 hbox hb; have n0_ := Aside0.mk (bbQ hb BK279.out); have n1_ := Aside0.mk (bs1Q hb (by repeat with_reducible first | exact HB.out | apply pw_below_drewN | apply below_drew1 | refine below_set ?_ GE279.out)); have n2_ := Aside0.mk (hbox); have n3_ := Aside0.mk (gw1Q hg (by repeat with_reducible first | exact HB.out | apply pw_below_drewN | apply below_drew1 | refine below_set ?_ GE279.out)); have n4_ := Aside0.mk (gw1Q hg (by repeat with_reducible first | exact HB.out | apply pw_below_drewN | apply below_drew1 | refine below_set ?_ GE279.out)); have n5_ := Aside0.mk ((by rw [hg]; exact Nat.ne_of_lt (blk_lt (g := gb279) (o := .cells #[.string a0_0, .slice A0_1 l0_1.length c0_1, .int .i64 a0_2, .slice A0_3 l0_3.length c0_3, .slice A0_4 l0_4.length c0_4, .slice (some ad280) l0_5.length c0_5] 27 (0, 0)) (by exact BK279.out)) : gb279 ≠ gb281)); have n6_ := Aside0.mk ((by rw [hg]; exact Nat.ne_of_gt (blk_lt (g := gb279) (o := .cells #[.string a0_0, .slice A0_1 l0_1.length c0_1, .int .i64 a0_2, .slice A0_3 l0_3.length c0_3, .slice A0_4 l0_4.length c0_4, .slice (some ad280) l0_5.length c0_5] 27 (0, 0)) (by exact BK279.out)) : gb281 ≠ gb279)); clear BK279; clear HB; have BK279 := n0_; have HB := n1_; have BK281 := n2_; have GW281 := n3_; have GE281 := n4_; have NB279_281 := n5_; have NB281_279 := n6_; clear n0_ n1_ n2_ n3_ n4_ n5_ n6_; clear hb hbox hg; have hnb8 := NB281_279.out; have hnc8 := NB279_281.out; obtain ⟨hcz9_0, hcz9_1⟩ := bcQ2 BK281.out; obtain ⟨hfz9_0, hfz9_1⟩ := fzQ2 BK281.out)); go_upto_region 5 with (first | ((with_reducible refine gate_dst (N := 5) rfl ?_); (try (refine gate_guard (by rfl) ?_; dsimp only)); refine box_event ?hg (N := 5) ?hd (cs := #[.int .i64 0, .int .i64 0]) (t := 82) ?hr ?_; (case hd => rfl); (case hg => rfl); (case hr => go_simp; try rfl); intro gb281 hg w7 hbox hb; have n0_ := Aside0.mk (bbQ hb BK279.out); have n1_ := Aside0.mk (bs1Q hb (by repeat with_reducible first | exact HB.out | apply pw_below_drewN | apply below_drew1 | refine below_set ?_ GE279.out)); have n2_ := Aside0.mk (hbox); have n3_ := Aside0.mk (gw1Q hg (by repeat with_reducible first | exact HB.out | apply pw_below_drewN | apply below_drew1 | refine below_set ?_ GE279.out)); have n4_ := Aside0.mk (gw1Q hg (by repeat with_reducible first | exact HB.out | apply pw_below_drewN | apply below_drew1 | refine below_set ?_ GE279.out)); have n5_ := Aside0.mk ((by rw [hg]; exact Nat.ne_of_lt (blk_lt (g := gb279) (o := .cells #[.string a0_0, .slice A0_1 l0_1.length c0_1, .int .i64 a0_2, .slice A0_3 l0_3.length c0_3, .slice A0_4 l0_4.length c0_4, .slice (some ad280) l0_5.length c0_5] 27 (0, 0)) (by exact BK279.out)) : gb279 ≠ gb281)); have n6_ := Aside0.mk ((by rw [hg]; exact Nat.ne_of_gt (blk_lt (g := gb279) (o := .cells #[.string a0_0, .slice A0_1 l0_1.length c0_1, .int .i64 a0_2, .slice A0_3 l0_3.length c0_3, .slice A0_4 l0_4.length c0_4, .slice (some ad280) l0_5.length c0_5] 27 (0, 0)) (by exact BK279.out)) : gb281 ≠ gb279)); clear BK279; clear HB; have BK279 := n0_; have HB := n1_; have BK281 := n2_; have GW281 := n3_; have GE281 := n4_; have NB279_281 := n5_; have NB281_279 := n6_; clear n0_ n1_ n2_ n3_ n4_ n5_ n6_; clear hb hbox hg; have hnb8 := NB281_279.out; have hnc8 := NB279_281.out; obtain ⟨hcz9_0, hcz9_1⟩ := bcQ2 BK281.out; obtain ⟨hfz9_0, hfz9_1⟩ := fzQ2 BK281.out)))
     (try simp only [Act.put, List.setIfInBounds_toArray, List.set_cons_zero, List.set_cons_succ])
     go_cut [59] (fun v59 wc => ∃ (kq : Nat) (x59_4 : Bool), v59 = .bool x59_4 ∧ Aside0 (pleatref03_relocs.j1 kq x4_1 x59_4 a0_0 l0_1 a0_2 l0_3 l0_4 l0_5 ((rd_T82 l0_5 x4_1).f0) ((rd_T82 l0_5 x4_1).f1) = some (r1, r2)) ∧ Aside0 (kq ≤ k1) ∧ Aside0 (wc.heap[gb279]? = some (.cells #[.string a0_0, (.slice A0_1 l0_1.length c0_1), .int .i64 a0_2, (.slice A0_3 l0_3.length c0_3), (.slice A0_4 l0_4.length c0_4), (.slice (some ad280) l0_5.length c0_5)] 27 (0, 0))) ∧ Aside0 (wc.heap[gb281]? = some (.cells #[.int .i64 ((rd_T82 l0_5 x4_1).f0), .int .i64 ((rd_T82 l0_5 x4_1).f1)] 82 (0, 0))) ∧ Aside0 (Below w.heap.size w wc))
     case first =>
      have H := HC5.out
      clear HC5
      by_cases c10 : ((rd_T82 l0_5 x4_1).f0) < 0
      ·
       rw [if_pos c10] at H
       have c10b0 : decide (((rd_T82 l0_5 x4_1).f0) < 0) = true := decide_eq_true c10
       clear c10
       (first | rw [c10b0] | (simp only [i64_w, i32_w]; rw [c10b0]) | skip)
       have H' := Aside0.mk H
       clear H
       have hnb11 := NB281_279.out
       have hnc11 := NB279_281.out
       obtain ⟨hcz12_0, hcz12_1⟩ := bcQ2 BK281.out
       obtain ⟨hfz12_0, hfz12_1⟩ := fzQ2 BK281.out
       go_wp2
       repeat (go_quiet (fail); try go_wp2)
       go_meet
       case rel => exact ⟨_, (true), (by first | rfl | (simp; done) | (simp [*]; done)), H', ⟨by have := HK1.out; first | omega | exact Nat.le_refl _⟩, ⟨by refine blk_far ?_ NB279_281.out _; refine blk_far ?_ NB279_281.out _; exact BK279.out⟩, ⟨by refine blk_put (cs := #[.int .i64 ((rd_T82 l0_5 x4_1).f0), .int .i64 0]) ?_ 1 _ rfl; refine blk_put (cs := #[.int .i64 0, .int .i64 0]) ?_ 0 _ rfl; exact BK281.out⟩, ⟨by repeat with_reducible first | exact HB.out | apply pw_below_drewN | apply below_drew1 | refine below_set ?_ GE279.out | refine below_set ?_ GE281.out⟩⟩
      ·
       rw [if_neg c10] at H
       have c10b0 : decide (((rd_T82 l0_5 x4_1).f0) < 0) = false := decide_eq_false c10
       clear c10
       (first | rw [c10b0] | (simp only [i64_w, i32_w]; rw [c10b0]) | skip)
       by_cases c13 : ((rd_T82 l0_5 x4_1).f0) ≥ (l0_1.length : Int)
       ·
        rw [if_pos c13] at H
        have c13b0 : decide ((l0_1.length : Int) ≤ ((rd_T82 l0_5 x4_1).f0)) = true := decide_eq_true c13
        clear c13
        have H' := Aside0.mk H
        clear H
        have hnb14 := NB281_279.out
        have hnc14 := NB279_281.out
        obtain ⟨hcz15_0, hcz15_1⟩ := bcQ2 BK281.out
        obtain ⟨hfz15_0, hfz15_1⟩ := fzQ2 BK281.out
        obtain ⟨hcz16_0, hcz16_1, hcz16_2, hcz16_3, hcz16_4, hcz16_5⟩ := bcQ6 BK279.out
        obtain ⟨hfz16_0, hfz16_1, hfz16_2, hfz16_3, hfz16_4, hfz16_5⟩ := fzQ6 BK279.out
        go_wp2
        repeat (go_quiet (fail); try go_wp2)
        go_meet
        case rel => exact ⟨_, (true), (by first | rfl | (simp; done) | (simp [*]; done)), H', ⟨by have := HK1.out; first | omega | exact Nat.le_refl _⟩, ⟨by refine blk_far ?_ NB279_281.out _; refine blk_far ?_ NB279_281.out _; exact BK279.out⟩, ⟨by refine blk_put (cs := #[.int .i64 ((rd_T82 l0_5 x4_1).f0), .int .i64 0]) ?_ 1 _ rfl; refine blk_put (cs := #[.int .i64 0, .int .i64 0]) ?_ 0 _ rfl; exact BK281.out⟩, ⟨by repeat with_reducible first | exact HB.out | apply pw_below_drewN | apply below_drew1 | refine below_set ?_ GE279.out | refine below_set ?_ GE281.out⟩⟩
       ·
        rw [if_neg c13] at H
        have c13b0 : decide ((l0_1.length : Int) ≤ ((rd_T82 l0_5 x4_1).f0)) = false := decide_eq_false c13
        clear c13
        by_cases c17 : x4_1 > 0
        ·
         rw [if_pos c17] at H
         have c17b0 : decide (0 < x4_1) = true := decide_eq_true c17
         clear c17
         obtain ⟨ji18, hji18⟩ : ∃ j_ : Int, (wrap64 (x4_1 - 1)) = j_ := ⟨_, rfl⟩
         replace H : (if 0 ≤ (ji18) then (if (ji18) < (l0_5.length : Int) then (if ((rd_T82 l0_5 x4_1).f0) ≤ ((rd_T82 l0_5 (ji18)).f0) then (pleatref03_relocs.j1 k1 x4_1 true a0_0 l0_1 a0_2 l0_3 l0_4 l0_5 ((rd_T82 l0_5 x4_1).f0) ((rd_T82 l0_5 x4_1).f1)) else (if ((rd_T82 l0_5 x4_1).f1) < 0 then (pleatref03_relocs.j1 k1 x4_1 true a0_0 l0_1 a0_2 l0_3 l0_4 l0_5 ((rd_T82 l0_5 x4_1).f0) ((rd_T82 l0_5 x4_1).f1)) else (pleatref03_relocs.j1 k1 x4_1 (decide (((rd_T82 l0_5 x4_1).f1) ≥ (l0_4.length : Int))) a0_0 l0_1 a0_2 l0_3 l0_4 l0_5 ((rd_T82 l0_5 x4_1).f0) ((rd_T82 l0_5 x4_1).f1)))) else (none)) else (none)) = some (r1, r2) := by first | (rw [hji18] at H; exact H) | (simp only [hji18] at H ⊢; exact H)
         have hji18w : (IntKind.i64.wrap (x4_1 - 1)) = ji18 := (i64_w _).trans hji18
         by_cases c19 : 0 ≤ (ji18)
         ·
          rw [if_pos c19] at H
          have c19b0 : decide (0 ≤ (ji18)) = true := decide_eq_true c19
          clear c19
          by_cases c20 : (ji18) < (l0_5.length : Int)
          ·
           rw [if_pos c20] at H
           have c20b0 : decide ((ji18) < (l0_5.length : Int)) = true := decide_eq_true c20
           clear c20
           by_cases c21 : ((rd_T82 l0_5 x4_1).f0) ≤ ((rd_T82 l0_5 (ji18)).f0)
           ·
            rw [if_pos c21] at H
            have c21b0 : decide (((rd_T82 l0_5 x4_1).f0) ≤ ((rd_T82 l0_5 (ji18)).f0)) = true := decide_eq_true c21
            clear c21
            have H' := Aside0.mk H
            clear H
            have hnb22 := NB281_279.out
            have hnc22 := NB279_281.out
            obtain ⟨hcz23_0, hcz23_1⟩ := bcQ2 BK281.out
            obtain ⟨hfz23_0, hfz23_1⟩ := fzQ2 BK281.out
            obtain ⟨hcz24_0, hcz24_1, hcz24_2, hcz24_3, hcz24_4, hcz24_5⟩ := bcQ6 BK279.out
            obtain ⟨hfz24_0, hfz24_1, hfz24_2, hfz24_3, hfz24_4, hfz24_5⟩ := fzQ6 BK279.out
            have p282 : 0 ≤ ((ji18) : Int) := of_decide_eq_true ‹_›
            have q282 : (ji18) < (l0_5.length : Int) := of_decide_eq_true ‹_›
            obtain ⟨ad282, e282, hx282_0, hx282_1⟩ := at_T82 HR0_5.out (ji18) p282 q282
            obtain rfl : ad280 = ad282 := (by injection e282)
            have hn282_0 : ad280.block ≠ gb281 := Nat.ne_of_lt (Nat.lt_of_lt_of_le (by have := World.block_lt_of_cell? _ _ hx282_0; first | rwa [add_block] at this | exact this) GW281.out)
            have hn282_1 : ad280.block ≠ gb281 := Nat.ne_of_lt (Nat.lt_of_lt_of_le (by have := World.block_lt_of_cell? _ _ hx282_0; first | rwa [add_block] at this | exact this) GW281.out)
            replace hx282_0 := pw_cell_below HB.out hx282_0
            replace hx282_1 := pw_cell_below HB.out hx282_1
            replace hx282_0 := (cell_far (p := ⟨gb281, 0, none⟩) (by first | (rw [add_block]; exact hn282_0) | (show (Addr.add _ _).block ≠ _; rw [add_block]; exact hn282_0) | exact hn282_0) (.int .i64 ((rd_T82 l0_5 x4_1).f0))).trans hx282_0
            replace hx282_1 := (cell_far (p := ⟨gb281, 0, none⟩) (by first | (rw [add_block]; exact hn282_0) | (show (Addr.add _ _).block ≠ _; rw [add_block]; exact hn282_0) | exact hn282_0) (.int .i64 ((rd_T82 l0_5 x4_1).f0))).trans hx282_1
            replace hx282_0 := (cell_far (p := ⟨gb281, 1, none⟩) (by first | (rw [add_block]; exact hn282_1) | (show (Addr.add _ _).block ≠ _; rw [add_block]; exact hn282_1) | exact hn282_1) (.int .i64 ((rd_T82 l0_5 x4_1).f1))).trans hx282_0
            replace hx282_1 := (cell_far (p := ⟨gb281, 1, none⟩) (by first | (rw [add_block]; exact hn282_1) | (show (Addr.add _ _).block ≠ _; rw [add_block]; exact hn282_1) | exact hn282_1) (.int .i64 ((rd_T82 l0_5 x4_1).f1))).trans hx282_1
            (try have hy282_0 := fun (n_ : Nat) => (show ((((w7.drewN n_).setCell ⟨gb281, 0, none⟩ (.int .i64 ((rd_T82 l0_5 x4_1).f0))).setCell ⟨gb281, 1, none⟩ (.int .i64 ((rd_T82 l0_5 x4_1).f1)))).cell? _ = some _ from hx282_0))
            (try have hy282_1 := fun (n_ : Nat) => (show ((((w7.drewN n_).setCell ⟨gb281, 0, none⟩ (.int .i64 ((rd_T82 l0_5 x4_1).f0))).setCell ⟨gb281, 1, none⟩ (.int .i64 ((rd_T82 l0_5 x4_1).f1)))).cell? _ = some _ from hx282_1))
            clear hn282_0
            clear hn282_1
            replace p282 := eq_true p282
            replace q282 := eq_true q282
            go_wp2
            repeat (go_quiet (fail); try go_wp2)
            go_meet
            case rel => exact ⟨_, (true), (by first | rfl | (simp; done) | (simp [*]; done)), H', ⟨by have := HK1.out; first | omega | exact Nat.le_refl _⟩, ⟨by refine blk_far ?_ NB279_281.out _; refine blk_far ?_ NB279_281.out _; exact BK279.out⟩, ⟨by refine blk_put (cs := #[.int .i64 ((rd_T82 l0_5 x4_1).f0), .int .i64 0]) ?_ 1 _ rfl; refine blk_put (cs := #[.int .i64 0, .int .i64 0]) ?_ 0 _ rfl; exact BK281.out⟩, ⟨by repeat with_reducible first | exact HB.out | apply pw_below_drewN | apply below_drew1 | refine below_set ?_ GE279.out | refine below_set ?_ GE281.out⟩⟩
           ·
            rw [if_neg c21] at H
            have c21b0 : decide (((rd_T82 l0_5 x4_1).f0) ≤ ((rd_T82 l0_5 (ji18)).f0)) = false := decide_eq_false c21
            clear c21
            by_cases c25 : ((rd_T82 l0_5 x4_1).f1) < 0
            ·
             rw [if_pos c25] at H
             have c25b0 : decide (((rd_T82 l0_5 x4_1).f1) < 0) = true := decide_eq_true c25
             clear c25
             have H' := Aside0.mk H
             clear H
             have hnb26 := NB281_279.out
             have hnc26 := NB279_281.out
             obtain ⟨hcz27_0, hcz27_1⟩ := bcQ2 BK281.out
             obtain ⟨hfz27_0, hfz27_1⟩ := fzQ2 BK281.out
             obtain ⟨hcz28_0, hcz28_1, hcz28_2, hcz28_3, hcz28_4, hcz28_5⟩ := bcQ6 BK279.out
             obtain ⟨hfz28_0, hfz28_1, hfz28_2, hfz28_3, hfz28_4, hfz28_5⟩ := fzQ6 BK279.out
             have p282 : 0 ≤ ((ji18) : Int) := of_decide_eq_true ‹_›
             have q282 : (ji18) < (l0_5.length : Int) := of_decide_eq_true ‹_›
             obtain ⟨ad282, e282, hx282_0, hx282_1⟩ := at_T82 HR0_5.out (ji18) p282 q282
             obtain rfl : ad280 = ad282 := (by injection e282)
             have hn282_0 : ad280.block ≠ gb281 := Nat.ne_of_lt (Nat.lt_of_lt_of_le (by have := World.block_lt_of_cell? _ _ hx282_0; first | rwa [add_block] at this | exact this) GW281.out)
             have hn282_1 : ad280.block ≠ gb281 := Nat.ne_of_lt (Nat.lt_of_lt_of_le (by have := World.block_lt_of_cell? _ _ hx282_0; first | rwa [add_block] at this | exact this) GW281.out)
             replace hx282_0 := pw_cell_below HB.out hx282_0
             replace hx282_1 := pw_cell_below HB.out hx282_1
             replace hx282_0 := (cell_far (p := ⟨gb281, 0, none⟩) (by first | (rw [add_block]; exact hn282_0) | (show (Addr.add _ _).block ≠ _; rw [add_block]; exact hn282_0) | exact hn282_0) (.int .i64 ((rd_T82 l0_5 x4_1).f0))).trans hx282_0
             replace hx282_1 := (cell_far (p := ⟨gb281, 0, none⟩) (by first | (rw [add_block]; exact hn282_0) | (show (Addr.add _ _).block ≠ _; rw [add_block]; exact hn282_0) | exact hn282_0) (.int .i64 ((rd_T82 l0_5 x4_1).f0))).trans hx282_1
             replace hx282_0 := (cell_far (p := ⟨gb281, 1, none⟩) (by first | (rw [add_block]; exact hn282_1) | (show (Addr.add _ _).block ≠ _; rw [add_block]; exact hn282_1) | exact hn282_1) (.int .i64 ((rd_T82 l0_5 x4_1).f1))).trans hx282_0
             replace hx282_1 := (cell_far (p := ⟨gb281, 1, none⟩) (by first | (rw [add_block]; exact hn282_1) | (show (Addr.add _ _).block ≠ _; rw [add_block]; exact hn282_1) | exact hn282_1) (.int .i64 ((rd_T82 l0_5 x4_1).f1))).trans hx282_1
             (try have hy282_0 := fun (n_ : Nat) => (show ((((w7.drewN n_).setCell ⟨gb281, 0, none⟩ (.int .i64 ((rd_T82 l0_5 x4_1).f0))).setCell ⟨gb281, 1, none⟩ (.int .i64 ((rd_T82 l0_5 x4_1).f1)))).cell? _ = some _ from hx282_0))
             (try have hy282_1 := fun (n_ : Nat) => (show ((((w7.drewN n_).setCell ⟨gb281, 0, none⟩ (.int .i64 ((rd_T82 l0_5 x4_1).f0))).setCell ⟨gb281, 1, none⟩ (.int .i64 ((rd_T82 l0_5 x4_1).f1)))).cell? _ = some _ from hx282_1))
             clear hn282_0
             clear hn282_1
             replace p282 := eq_true p282
             replace q282 := eq_true q282
             go_wp2
             repeat (go_quiet (fail); try go_wp2)
             go_meet
             case rel => exact ⟨_, (true), (by first | rfl | (simp; done) | (simp [*]; done)), H', ⟨by have := HK1.out; first | omega | exact Nat.le_refl _⟩, ⟨by refine blk_far ?_ NB279_281.out _; refine blk_far ?_ NB279_281.out _; exact BK279.out⟩, ⟨by refine blk_put (cs := #[.int .i64 ((rd_T82 l0_5 x4_1).f0), .int .i64 0]) ?_ 1 _ rfl; refine blk_put (cs := #[.int .i64 0, .int .i64 0]) ?_ 0 _ rfl; exact BK281.out⟩, ⟨by repeat with_reducible first | exact HB.out | apply pw_below_drewN | apply below_drew1 | refine below_set ?_ GE279.out | refine below_set ?_ GE281.out⟩⟩
            ·
             rw [if_neg c25] at H
             have c25b0 : decide (((rd_T82 l0_5 x4_1).f1) < 0) = false := decide_eq_false c25
             clear c25
             have H' := Aside0.mk H
             clear H
             have hnb29 := NB281_279.out
             have hnc29 := NB279_281.out
             obtain ⟨hcz30_0, hcz30_1⟩ := bcQ2 BK281.out
             obtain ⟨hfz30_0, hfz30_1⟩ := fzQ2 BK281.out
             obtain ⟨hcz31_0, hcz31_1, hcz31_2, hcz31_3, hcz31_4, hcz31_5⟩ := bcQ6 BK279.out
             obtain ⟨hfz31_0, hfz31_1, hfz31_2, hfz31_3, hfz31_4, hfz31_5⟩ := fzQ6 BK279.out
             have p282 : 0 ≤ ((ji18) : Int) := of_decide_eq_true ‹_›
             have q282 : (ji18) < (l0_5.length : Int) := of_decide_eq_true ‹_›
             obtain ⟨ad282, e282, hx282_0, hx282_1⟩ := at_T82 HR0_5.out (ji18) p282 q282
             obtain rfl : ad280 = ad282 := (by injection e282)
             have hn282_0 : ad280.block ≠ gb281 := Nat.ne_of_lt (Nat.lt_of_lt_of_le (by have := World.block_lt_of_cell? _ _ hx282_0; first | rwa [add_block] at this | exact this) GW281.out)
             have hn282_1 : ad280.block ≠ gb281 := Nat.ne_of_lt (Nat.lt_of_lt_of_le (by have := World.block_lt_of_cell? _ _ hx282_0; first | rwa [add_block] at this | exact this) GW281.out)
             replace hx282_0 := pw_cell_below HB.out hx282_0
             replace hx282_1 := pw_cell_below HB.out hx282_1
             replace hx282_0 := (cell_far (p := ⟨gb281, 0, none⟩) (by first | (rw [add_block]; exact hn282_0) | (show (Addr.add _ _).block ≠ _; rw [add_block]; exact hn282_0) | exact hn282_0) (.int .i64 ((rd_T82 l0_5 x4_1).f0))).trans hx282_0
             replace hx282_1 := (cell_far (p := ⟨gb281, 0, none⟩) (by first | (rw [add_block]; exact hn282_0) | (show (Addr.add _ _).block ≠ _; rw [add_block]; exact hn282_0) | exact hn282_0) (.int .i64 ((rd_T82 l0_5 x4_1).f0))).trans hx282_1
             replace hx282_0 := (cell_far (p := ⟨gb281, 1, none⟩) (by first | (rw [add_block]; exact hn282_1) | (show (Addr.add _ _).block ≠ _; rw [add_block]; exact hn282_1) | exact hn282_1) (.int .i64 ((rd_T82 l0_5 x4_1).f1))).trans hx282_0
             replace hx282_1 := (cell_far (p := ⟨gb281, 1, none⟩) (by first | (rw [add_block]; exact hn282_1) | (show (Addr.add _ _).block ≠ _; rw [add_block]; exact hn282_1) | exact hn282_1) (.int .i64 ((rd_T82 l0_5 x4_1).f1))).trans hx282_1
             (try have hy282_0 := fun (n_ : Nat) => (show ((((w7.drewN n_).setCell ⟨gb281, 0, none⟩ (.int .i64 ((rd_T82 l0_5 x4_1).f0))).setCell ⟨gb281, 1, none⟩ (.int .i64 ((rd_T82 l0_5 x4_1).f1)))).cell? _ = some _ from hx282_0))
             (try have hy282_1 := fun (n_ : Nat) => (show ((((w7.drewN n_).setCell ⟨gb281, 0, none⟩ (.int .i64 ((rd_T82 l0_5 x4_1).f0))).setCell ⟨gb281, 1, none⟩ (.int .i64 ((rd_T82 l0_5 x4_1).f1)))).cell? _ = some _ from hx282_1))
             clear hn282_0
             clear hn282_1
             replace p282 := eq_true p282
             replace q282 := eq_true q282
             go_wp2
             repeat (go_quiet (fail); try go_wp2)
             go_meet
             case rel => exact ⟨_, (decide (((rd_T82 l0_5 x4_1).f1) ≥ (l0_4.length : Int))), (by first | rfl | (simp; done) | (simp [*]; done)), H', ⟨by have := HK1.out; first | omega | exact Nat.le_refl _⟩, ⟨by refine blk_far ?_ NB279_281.out _; refine blk_far ?_ NB279_281.out _; exact BK279.out⟩, ⟨by refine blk_put (cs := #[.int .i64 ((rd_T82 l0_5 x4_1).f0), .int .i64 0]) ?_ 1 _ rfl; refine blk_put (cs := #[.int .i64 0, .int .i64 0]) ?_ 0 _ rfl; exact BK281.out⟩, ⟨by repeat with_reducible first | exact HB.out | apply pw_below_drewN | apply below_drew1 | refine below_set ?_ GE279.out | refine below_set ?_ GE281.out⟩⟩
          ·
           rw [if_neg c20] at H
           exact absurd H (by simp)
         ·
          rw [if_neg c19] at H
          exact absurd H (by simp)
        ·
         rw [if_neg c17] at H
         have c17b0 : decide (0 < x4_1) = false := decide_eq_false c17
         clear c17
         by_cases c32 : ((rd_T82 l0_5 x4_1).f1) < 0
         ·
          rw [if_pos c32] at H
          have c32b0 : decide (((rd_T82 l0_5 x4_1).f1) < 0) = true := decide_eq_true c32
          clear c32
          have H' := Aside0.mk H
          clear H
          have hnb33 := NB281_279.out
          have hnc33 := NB279_281.out
          obtain ⟨hcz34_0, hcz34_1⟩ := bcQ2 BK281.out
          obtain ⟨hfz34_0, hfz34_1⟩ := fzQ2 BK281.out
          obtain ⟨hcz35_0, hcz35_1, hcz35_2, hcz35_3, hcz35_4, hcz35_5⟩ := bcQ6 BK279.out
          obtain ⟨hfz35_0, hfz35_1, hfz35_2, hfz35_3, hfz35_4, hfz35_5⟩ := fzQ6 BK279.out
          go_wp2
          repeat (go_quiet (fail); try go_wp2)
          go_meet
          case rel => exact ⟨_, (true), (by first | rfl | (simp; done) | (simp [*]; done)), H', ⟨by have := HK1.out; first | omega | exact Nat.le_refl _⟩, ⟨by refine blk_far ?_ NB279_281.out _; refine blk_far ?_ NB279_281.out _; exact BK279.out⟩, ⟨by refine blk_put (cs := #[.int .i64 ((rd_T82 l0_5 x4_1).f0), .int .i64 0]) ?_ 1 _ rfl; refine blk_put (cs := #[.int .i64 0, .int .i64 0]) ?_ 0 _ rfl; exact BK281.out⟩, ⟨by repeat with_reducible first | exact HB.out | apply pw_below_drewN | apply below_drew1 | refine below_set ?_ GE279.out | refine below_set ?_ GE281.out⟩⟩
         ·
          rw [if_neg c32] at H
          have c32b0 : decide (((rd_T82 l0_5 x4_1).f1) < 0) = false := decide_eq_false c32
          clear c32
          have H' := Aside0.mk H
          clear H
          have hnb36 := NB281_279.out
          have hnc36 := NB279_281.out
          obtain ⟨hcz37_0, hcz37_1⟩ := bcQ2 BK281.out
          obtain ⟨hfz37_0, hfz37_1⟩ := fzQ2 BK281.out
          obtain ⟨hcz38_0, hcz38_1, hcz38_2, hcz38_3, hcz38_4, hcz38_5⟩ := bcQ6 BK279.out
          obtain ⟨hfz38_0, hfz38_1, hfz38_2, hfz38_3, hfz38_4, hfz38_5⟩ := fzQ6 BK279.out
          go_wp2
          repeat (go_quiet (fail); try go_wp2)
          go_meet
          case rel => exact ⟨_, (decide (((rd_T82 l0_5 x4_1).f1) ≥ (l0_4.length : Int))), (by first | rfl | (simp; done) | (simp [*]; done)), H', ⟨by have := HK1.out; first | omega | exact Nat.le_refl _⟩, ⟨by refine blk_far ?_ NB279_281.out _; refine blk_far ?_ NB279_281.out _; exact BK279.out⟩, ⟨by refine blk_put (cs := #[.int .i64 ((rd_T82 l0_5 x4_1).f0), .int .i64 0]) ?_ 1 _ rfl; refine blk_put (cs := #[.int .i64 0, .int .i64 0]) ?_ 0 _ rfl; exact BK281.out⟩, ⟨by repeat with_reducible first | exact HB.out | apply pw_below_drewN | apply below_drew1 | refine below_set ?_ GE279.out | refine below_set ?_ GE281.out⟩⟩
     case rest =>
      clear HC5
      try clear c1
      try clear c2
      try clear p2
      try clear q2
      try clear hx2
      try clear c3
      try clear c3b0
      try clear c4
      try clear c4b0
      try clear p6
      try clear c8
      try clear c10
      try clear c10b0
      try clear c11
      try clear c13
      try clear c13b0
      try clear c14
      try clear c17
      try clear c17b0
      try clear c19
      try clear c19b0
      try clear c20
      try clear c20b0
      try clear c21
      try clear c21b0
      try clear c22
      try clear c25
      try clear c25b0
      try clear c26
      try clear p28
      try clear q28
      try clear hx28
      try clear c29
      try clear c32
      try clear c32b0
      try clear c33
      try clear c36
      try clear hcz12_0 hcz12_1
      try clear hcz15_0 hcz15_1
      try clear hcz16_0 hcz16_1 hcz16_2 hcz16_3 hcz16_4 hcz16_5
      try clear hcz23_0 hcz23_1
      try clear hcz24_0 hcz24_1 hcz24_2 hcz24_3 hcz24_4 hcz24_5
      try clear hcz27_0 hcz27_1
      try clear hcz28_0 hcz28_1 hcz28_2 hcz28_3 hcz28_4 hcz28_5
      try clear hcz30_0 hcz30_1
      try clear hcz31_0 hcz31_1 hcz31_2 hcz31_3 hcz31_4 hcz31_5
      try clear hcz34_0 hcz34_1
      try clear hcz35_0 hcz35_1 hcz35_2 hcz35_3 hcz35_4 hcz35_5
      try clear hcz37_0 hcz37_1
      try clear hcz38_0 hcz38_1 hcz38_2 hcz38_3 hcz38_4 hcz38_5
      try clear hcz6_0 hcz6_1 hcz6_2 hcz6_3 hcz6_4 hcz6_5
      try clear hcz9_0 hcz9_1
      try clear hfz12_0 hfz12_1
      try clear hfz15_0 hfz15_1
      try clear hfz16_0 hfz16_1 hfz16_2 hfz16_3 hfz16_4 hfz16_5
      try clear hfz23_0 hfz23_1
      try clear hfz24_0 hfz24_1 hfz24_2 hfz24_3 hfz24_4 hfz24_5
      try clear hfz27_0 hfz27_1
      try clear hfz28_0 hfz28_1 hfz28_2 hfz28_3 hfz28_4 hfz28_5
      try clear hfz30_0 hfz30_1
      try clear hfz31_0 hfz31_1 hfz31_2 hfz31_3 hfz31_4 hfz31_5
      try clear hfz34_0 hfz34_1
      try clear hfz35_0 hfz35_1 hfz35_2 hfz35_3 hfz35_4 hfz35_5
      try clear hfz37_0 hfz37_1
      try clear hfz38_0 hfz38_1 hfz38_2 hfz38_3 hfz38_4 hfz38_5
      try clear hfz6_0 hfz6_1 hfz6_2 hfz6_3 hfz6_4 hfz6_5
      try clear hfz9_0 hfz9_1
      try clear hx280_0
      try clear hx280_1
      try clear hx282_0
      try clear hx282_1
      try clear p2
      try clear p280
      try clear p282
      try clear q280
      try clear q282
      obtain ⟨kq, x59_4, rfl, HA, HJ4, BK279, BK281, HB⟩ := hcut
      cases kq with
      | zero => exact absurd HA.out (by simp [pleatref03_relocs.j1])
      | succ kj4 =>
       have H := HA.out
       clear HA
       simp only [pleatref03_relocs.j1] at H
       by_cases c39 : x59_4 = true
       ·
        subst c39
        rw [if_pos rfl] at H
        simp only [Option.some.injEq, Prod.mk.injEq] at H
        obtain ⟨rfl, rfl⟩ := H
        go_wp2
        repeat (go_quiet (fail); try go_wp2)
        go_ret2
        exact ⟨by first | rfl | (simp [errW_none, errW_some] <;> rfl) | (simp [*, errW_none, errW_some] <;> rfl), by repeat with_reducible first | exact HB.out | apply pw_below_drewN | apply below_drew1 | refine below_set ?_ GE279.out | refine below_set ?_ GE281.out⟩
       ·
        replace c39 := Bool.eq_false_iff.mpr c39
        subst c39
        rw [if_neg Bool.false_ne_true] at H
        by_cases c40 : 0 ≤ ((rd_T82 l0_5 x4_1).f0)
        ·
         rw [if_pos c40] at H
         have c40b0 : decide (0 ≤ ((rd_T82 l0_5 x4_1).f0)) = true := decide_eq_true c40
         clear c40
         by_cases c41 : ((rd_T82 l0_5 x4_1).f0) < (l0_1.length : Int)
         ·
          rw [if_pos c41] at H
          have c41b0 : decide (((rd_T82 l0_5 x4_1).f0) < (l0_1.length : Int)) = true := decide_eq_true c41
          clear c41
          replace H := Option.bind_eq_some_iff.mp H
          obtain ⟨⟨t284, t285⟩, A420, H⟩ := H
          try dsimp only at H
          have A42 := Aside0.mk A420
          clear A420
          by_cases c43 : t285 = true
          ·
           subst c43
           rw [if_pos rfl] at H
           by_cases c44 : t284 = 0
           ·
            rw [if_pos c44] at H
            have c44b0 : (t284 == 0) = true := beq_iff_eq.mpr c44
            have c44b1 : (t284 != 0) = false := bne_eq_false_iff_eq.mpr c44
            clear c44
            have H' := Aside0.mk H
            clear H
            have hnb45 := NB279_281.out
            have hnc45 := NB281_279.out
            obtain ⟨hcz46_0, hcz46_1, hcz46_2, hcz46_3, hcz46_4, hcz46_5⟩ := bcQ6 BK279.out
            obtain ⟨hfz46_0, hfz46_1, hfz46_2, hfz46_3, hfz46_4, hfz46_5⟩ := fzQ6 BK279.out
            obtain ⟨hcz47_0, hcz47_1⟩ := bcQ2 BK281.out
            obtain ⟨hfz47_0, hfz47_1⟩ := fzQ2 BK281.out
            have p283 : 0 ≤ (((rd_T82 l0_5 x4_1).f0) : Int) := of_decide_eq_true ‹_›
            have q283 : ((rd_T82 l0_5 x4_1).f0) < (l0_1.length : Int) := of_decide_eq_true ‹_›
            obtain ⟨ad283, e283, hx283_0⟩ := Kd.at_int HR0_1.out ((rd_T82 l0_5 x4_1).f0) p283 q283
            cases e283
            replace hx283_0 := pw_cell_below HB.out hx283_0
            replace p283 := eq_true p283
            replace q283 := eq_true q283
            go_wp2_with (first | (go_at_call 89; (with_reducible refine (pleatref02_Target.calls kj4 (rd l0_1 ((rd_T82 l0_5 x4_1).f0)) t284 true _ A42.out).mono ?_); rintro e w48 ⟨rfl, hb⟩; replace BK279 := Aside0.mk (bbQ hb BK279.out); replace BK281 := Aside0.mk (bbQ hb BK281.out); replace HB := Aside0.mk (bs1Q hb (by repeat with_reducible first | exact HB.out | apply pw_below_drewN | apply below_drew1 | refine below_set ?_ GE279.out | refine below_set ?_ GE281.out)); (try clear hb); (try clear hb2); (try clear hk); (try clear hi)))
            repeat (go_quiet (first | (go_at_call 89; (with_reducible refine (pleatref02_Target.calls kj4 (rd l0_1 ((rd_T82 l0_5 x4_1).f0)) t284 true _ A42.out).mono ?_); rintro e w48 ⟨rfl, hb⟩; replace BK279 := Aside0.mk (bbQ hb BK279.out); replace BK281 := Aside0.mk (bbQ hb BK281.out); replace HB := Aside0.mk (bs1Q hb (by repeat with_reducible first | exact HB.out | apply pw_below_drewN | apply below_drew1 | refine below_set ?_ GE279.out | refine below_set ?_ GE281.out)); (try clear hb); (try clear hb2); (try clear hk); (try clear hi))); try go_wp2_with (first | (go_at_call 89; (with_reducible refine (pleatref02_Target.calls kj4 (rd l0_1 ((rd_T82 l0_5 x4_1).f0)) t284 true _ A42.out).mono ?_); rintro e w48 ⟨rfl, hb⟩; replace BK279 := Aside0.mk (bbQ hb BK279.out); replace BK281 := Aside0.mk (bbQ hb BK281.out); replace HB := Aside0.mk (bs1Q hb (by repeat with_reducible first | exact HB.out | apply pw_below_drewN | apply below_drew1 | refine below_set ?_ GE279.out | refine below_set ?_ GE281.out)); (try clear hb); (try clear hb2); (try clear hk); (try clear hi))))
            go_roundg kj4
            case measure => have := HK1.out; have := HJ4.out; omega
            case rel => exact ⟨(wrap64 (x4_1 + 1)), (by first | rfl | (simp; done) | (simp [*]; done)), H', ⟨by have := HK1.out; have := HJ4.out; omega⟩, ⟨by exact BK279.out⟩, ⟨by repeat with_reducible first | exact HB.out | apply pw_below_drewN | apply below_drew1 | refine below_set ?_ GE279.out | refine below_set ?_ GE281.out⟩⟩
           ·
            rw [if_neg c44] at H
            have c44b0 : (t284 == 0) = false := beq_eq_false_iff_ne.mpr c44
            have c44b1 : (t284 != 0) = true := bne_iff_ne.mpr c44
            simp only [Option.some.injEq, Prod.mk.injEq] at H
            obtain ⟨rfl, rfl⟩ := H
            have hnb49 := NB279_281.out
            have hnc49 := NB281_279.out
            obtain ⟨hcz50_0, hcz50_1, hcz50_2, hcz50_3, hcz50_4, hcz50_5⟩ := bcQ6 BK279.out
            obtain ⟨hfz50_0, hfz50_1, hfz50_2, hfz50_3, hfz50_4, hfz50_5⟩ := fzQ6 BK279.out
            obtain ⟨hcz51_0, hcz51_1⟩ := bcQ2 BK281.out
            obtain ⟨hfz51_0, hfz51_1⟩ := fzQ2 BK281.out
            have p283 : 0 ≤ (((rd_T82 l0_5 x4_1).f0) : Int) := of_decide_eq_true ‹_›
            have q283 : ((rd_T82 l0_5 x4_1).f0) < (l0_1.length : Int) := of_decide_eq_true ‹_›
            obtain ⟨ad283, e283, hx283_0⟩ := Kd.at_int HR0_1.out ((rd_T82 l0_5 x4_1).f0) p283 q283
            cases e283
            replace hx283_0 := pw_cell_below HB.out hx283_0
            replace p283 := eq_true p283
            replace q283 := eq_true q283
            go_wp2_with (first | (go_at_call 89; (with_reducible refine (pleatref02_Target.calls kj4 (rd l0_1 ((rd_T82 l0_5 x4_1).f0)) t284 true _ A42.out).mono ?_); rintro e w52 ⟨rfl, hb⟩; replace BK279 := Aside0.mk (bbQ hb BK279.out); replace BK281 := Aside0.mk (bbQ hb BK281.out); replace HB := Aside0.mk (bs1Q hb (by repeat with_reducible first | exact HB.out | apply pw_below_drewN | apply below_drew1 | refine below_set ?_ GE279.out | refine below_set ?_ GE281.out)); (try clear hb); (try clear hb2); (try clear hk); (try clear hi)))
            repeat (go_quiet (first | (go_at_call 89; (with_reducible refine (pleatref02_Target.calls kj4 (rd l0_1 ((rd_T82 l0_5 x4_1).f0)) t284 true _ A42.out).mono ?_); rintro e w52 ⟨rfl, hb⟩; replace BK279 := Aside0.mk (bbQ hb BK279.out); replace BK281 := Aside0.mk (bbQ hb BK281.out); replace HB := Aside0.mk (bs1Q hb (by repeat with_reducible first | exact HB.out | apply pw_below_drewN | apply below_drew1 | refine below_set ?_ GE279.out | refine below_set ?_ GE281.out)); (try clear hb); (try clear hb2); (try clear hk); (try clear hi))); try go_wp2_with (first | (go_at_call 89; (with_reducible refine (pleatref02_Target.calls kj4 (rd l0_1 ((rd_T82 l0_5 x4_1).f0)) t284 true _ A42.out).mono ?_); rintro e w52 ⟨rfl, hb⟩; replace BK279 := Aside0.mk (bbQ hb BK279.out); replace BK281 := Aside0.mk (bbQ hb BK281.out); replace HB := Aside0.mk (bs1Q hb (by repeat with_reducible first | exact HB.out | apply pw_below_drewN | apply below_drew1 | refine below_set ?_ GE279.out | refine below_set ?_ GE281.out)); (try clear hb); (try clear hb2); (try clear hk); (try clear hi))))
            go_ret2
            exact ⟨by first | rfl | (simp [errW_none, errW_some] <;> rfl) | (simp [*, errW_none, errW_some] <;> rfl), by repeat with_reducible first | exact HB.out | apply pw_below_drewN | apply below_drew1 | refine below_set ?_ GE279.out | refine below_set ?_ GE281.out⟩
          ·
           replace c43 := Bool.eq_false_iff.mpr c43
           subst c43
           rw [if_neg Bool.false_ne_true] at H
           simp only [Option.some.injEq, Prod.mk.injEq] at H
           obtain ⟨rfl, rfl⟩ := H
           have hnb53 := NB279_281.out
           have hnc53 := NB281_279.out
           obtain ⟨hcz54_0, hcz54_1, hcz54_2, hcz54_3, hcz54_4, hcz54_5⟩ := bcQ6 BK279.out
           obtain ⟨hfz54_0, hfz54_1, hfz54_2, hfz54_3, hfz54_4, hfz54_5⟩ := fzQ6 BK279.out
           obtain ⟨hcz55_0, hcz55_1⟩ := bcQ2 BK281.out
           obtain ⟨hfz55_0, hfz55_1⟩ := fzQ2 BK281.out
           have p283 : 0 ≤ (((rd_T82 l0_5 x4_1).f0) : Int) := of_decide_eq_true ‹_›
           have q283 : ((rd_T82 l0_5 x4_1).f0) < (l0_1.length : Int) := of_decide_eq_true ‹_›
           obtain ⟨ad283, e283, hx283_0⟩ := Kd.at_int HR0_1.out ((rd_T82 l0_5 x4_1).f0) p283 q283
           cases e283
           replace hx283_0 := pw_cell_below HB.out hx283_0
           replace p283 := eq_true p283
           replace q283 := eq_true q283
           go_wp2_with (first | (go_at_call 89; (with_reducible refine (pleatref02_Target.calls kj4 (rd l0_1 ((rd_T82 l0_5 x4_1).f0)) t284 false _ A42.out).mono ?_); rintro e w56 ⟨rfl, hb⟩; replace BK279 := Aside0.mk (bbQ hb BK279.out); replace BK281 := Aside0.mk (bbQ hb BK281.out); replace HB := Aside0.mk (bs1Q hb (by repeat with_reducible first | exact HB.out | apply pw_below_drewN | apply below_drew1 | refine below_set ?_ GE279.out | refine below_set ?_ GE281.out)); (try clear hb); (try clear hb2); (try clear hk); (try clear hi)))
           repeat (go_quiet (first | (go_at_call 89; (with_reducible refine (pleatref02_Target.calls kj4 (rd l0_1 ((rd_T82 l0_5 x4_1).f0)) t284 false _ A42.out).mono ?_); rintro e w56 ⟨rfl, hb⟩; replace BK279 := Aside0.mk (bbQ hb BK279.out); replace BK281 := Aside0.mk (bbQ hb BK281.out); replace HB := Aside0.mk (bs1Q hb (by repeat with_reducible first | exact HB.out | apply pw_below_drewN | apply below_drew1 | refine below_set ?_ GE279.out | refine below_set ?_ GE281.out)); (try clear hb); (try clear hb2); (try clear hk); (try clear hi))); try go_wp2_with (first | (go_at_call 89; (with_reducible refine (pleatref02_Target.calls kj4 (rd l0_1 ((rd_T82 l0_5 x4_1).f0)) t284 false _ A42.out).mono ?_); rintro e w56 ⟨rfl, hb⟩; replace BK279 := Aside0.mk (bbQ hb BK279.out); replace BK281 := Aside0.mk (bbQ hb BK281.out); replace HB := Aside0.mk (bs1Q hb (by repeat with_reducible first | exact HB.out | apply pw_below_drewN | apply below_drew1 | refine below_set ?_ GE279.out | refine below_set ?_ GE281.out)); (try clear hb); (try clear hb2); (try clear hk); (try clear hi))))
           go_ret2
           exact ⟨by first | rfl | (simp [errW_none, errW_some] <;> rfl) | (simp [*, errW_none, errW_some] <;> rfl), by repeat with_reducible first | exact HB.out | apply pw_below_drewN | apply below_drew1 | refine below_set ?_ GE279.out | refine below_set ?_ GE281.out⟩
         ·
          rw [if_neg c41] at H
          exact absurd H (by simp)
        ·
         rw [if_neg c40] at H
         exact absurd H (by simp)
    ·
     rw [if_neg c4] at H
     exact absurd H (by simp)
   ·
    rw [if_neg c3] at H
    have c3b0 : decide (x4_1 < (l0_5.length : Int)) = false := decide_eq_false c3
    clear c3
    simp only [Option.some.injEq, Prod.mk.injEq] at H
    obtain ⟨rfl, rfl⟩ := H
    obtain ⟨hcz57_0, hcz57_1, hcz57_2, hcz57_3, hcz57_4, hcz57_5⟩ := bcQ6 BK279.out
    obtain ⟨hfz57_0, hfz57_1, hfz57_2, hfz57_3, hfz57_4, hfz57_5⟩ := fzQ6 BK279.out
    go_wp2
    repeat (go_quiet (fail); try go_wp2)
    go_ret2
    exact ⟨by first | rfl | (simp [errW_none, errW_some] <;> rfl) | (simp [*, errW_none, errW_some] <;> rfl), by repeat with_reducible first | exact HB.out | apply pw_below_drewN | apply below_drew1 | refine below_set ?_ GE279.out⟩
end Go.Proofs.YtiaohbbafaaibabGreatDoor.P
