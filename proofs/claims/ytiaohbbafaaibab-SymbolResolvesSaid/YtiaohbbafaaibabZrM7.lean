/- OWN TEXT and printed parts of this claim, laid together: P18, P19, ObjM. -/
import Derived.Test.YtiaohbbafaaibabZrM0
import Derived.Test.YtiaohbbafaaibabZrM3
import Derived.Test.YtiaohbbafaaibabZrM1
import Derived.Test.YtiaohbbafaaibabZrM6
import Derived.Test.YtiaohbbafaaibabZrM5
import Derived.Test.YtiaohbbafaaibabZrM4
/- What the Go functions named below come to, as plain functions, each with its proof; written by this session's prt.py over the kit's print. -/
namespace Go.Proofs.Ytiaohbbafaaibab.P
open Go.RowKit Go.Proofs.YtiaohbbafaaibabW.PrintWords Go.Proofs.YtiaohbbafaaibabW.PrintLast Go.Proofs.YtiaohbbafaaibabW.PrintMore
attribute [local go_sem] max2_int min2_int max_two min_two max_three min_three max_four min_four   -- for this text's walks alone
set_option linter.unusedVariables false
set_option linter.unusedSimpArgs false
/-! ### pleatref03_relocs: function 68 -/
mutual
def pleatref03_relocs.l0 : Nat → Int → ByteArray → List Int → Int → List Int → List (S37) → List (S41) → Option (Int × Int)
 | 0, _, _, _, _, _, _, _ => none
 | k + 1, x4, x500000, x500001, x500002, x500003, x500004, x500005 => if x4 < (x500005.length : Int) then (if 0 ≤ x4 then (if ((rd_T41 x500005 x4).f0) < 0 then (pleatref03_relocs.j1 k x4 true x500000 x500001 x500002 x500003 x500004 x500005 ((rd_T41 x500005 x4).f0) ((rd_T41 x500005 x4).f1)) else (if ((rd_T41 x500005 x4).f0) ≥ (x500001.length : Int) then (pleatref03_relocs.j1 k x4 true x500000 x500001 x500002 x500003 x500004 x500005 ((rd_T41 x500005 x4).f0) ((rd_T41 x500005 x4).f1)) else (if x4 > 0 then (if 0 ≤ (wrap64 (x4 - 1)) then (if (wrap64 (x4 - 1)) < (x500005.length : Int) then (if ((rd_T41 x500005 x4).f0) ≤ ((rd_T41 x500005 (wrap64 (x4 - 1))).f0) then (pleatref03_relocs.j1 k x4 true x500000 x500001 x500002 x500003 x500004 x500005 ((rd_T41 x500005 x4).f0) ((rd_T41 x500005 x4).f1)) else (if ((rd_T41 x500005 x4).f1) < 0 then (pleatref03_relocs.j1 k x4 true x500000 x500001 x500002 x500003 x500004 x500005 ((rd_T41 x500005 x4).f0) ((rd_T41 x500005 x4).f1)) else (pleatref03_relocs.j1 k x4 (decide (((rd_T41 x500005 x4).f1) ≥ (x500004.length : Int))) x500000 x500001 x500002 x500003 x500004 x500005 ((rd_T41 x500005 x4).f0) ((rd_T41 x500005 x4).f1)))) else (none)) else (none)) else (if ((rd_T41 x500005 x4).f1) < 0 then (pleatref03_relocs.j1 k x4 true x500000 x500001 x500002 x500003 x500004 x500005 ((rd_T41 x500005 x4).f0) ((rd_T41 x500005 x4).f1)) else (pleatref03_relocs.j1 k x4 (decide (((rd_T41 x500005 x4).f1) ≥ (x500004.length : Int))) x500000 x500001 x500002 x500003 x500004 x500005 ((rd_T41 x500005 x4).f0) ((rd_T41 x500005 x4).f1)))))) else (none)) else (some (0, 0))
def pleatref03_relocs.j1 : Nat → Int → Bool → ByteArray → List Int → Int → List Int → List (S37) → List (S41) → Int → Int → Option (Int × Int)
 | 0, _, _, _, _, _, _, _, _, _, _ => none
 | k + 1, x4, x59, x500000, x500001, x500002, x500003, x500004, x500005, x502000, x502001 => if x59 = true then (some (24, x4)) else (if 0 ≤ x502000 then (if x502000 < (x500001.length : Int) then ((pleatref02_Target.f k (rd x500001 x502000)).bind fun bt504 => (if bt504.2 = true then (if bt504.1 = 0 then (pleatref03_relocs.l0 k (wrap64 (x4 + 1)) x500000 x500001 x500002 x500003 x500004 x500005) else (some (24, x4))) else (some (24, x4)))) else (none)) else (none))
end
def pleatref03_relocs.f (k : Nat) (a0_0 : ByteArray) (l0_1 : List Int) (a0_2 : Int) (l0_3 : List Int) (l0_4 : List (S37)) (l0_5 : List (S41)) : Option (Int × Int) := pleatref03_relocs.l0 k 0 a0_0 l0_1 a0_2 l0_3 l0_4 l0_5
theorem pleatref03_relocs.mono_l : ∀ k, (∀ y0 y1 y2 y3 y4 y5 y6, LeO (pleatref03_relocs.l0 k y0 y1 y2 y3 y4 y5 y6) (pleatref03_relocs.l0 (k + 1) y0 y1 y2 y3 y4 y5 y6)) ∧ (∀ y0 y1 y2 y3 y4 y5 y6 y7 y8 y9, LeO (pleatref03_relocs.j1 k y0 y1 y2 y3 y4 y5 y6 y7 y8 y9) (pleatref03_relocs.j1 (k + 1) y0 y1 y2 y3 y4 y5 y6 y7 y8 y9))
 | 0 => ⟨fun _ _ _ _ _ _ _ r h => by simp [pleatref03_relocs.l0] at h, fun _ _ _ _ _ _ _ _ _ _ r h => by simp [pleatref03_relocs.j1] at h⟩
 | k + 1 => by
  obtain ⟨ih0, ih1⟩ := pleatref03_relocs.mono_l k
  refine ⟨?_, ?_⟩
  ·
   intro y0 y1 y2 y3 y4 y5 y6
   unfold pleatref03_relocs.l0
   repeat' first
   | (with_reducible first | exact ih0 _ _ _ _ _ _ _ | exact ih1 _ _ _ _ _ _ _ _ _ _ | exact pleatref02_Target.mono _ _ | exact LeO.refl _ | exact LeO.none _ | refine LeO.ite ?_ ?_ | refine LeO.bind ?_ (fun _ => ?_))
  ·
   intro y0 y1 y2 y3 y4 y5 y6 y7 y8 y9
   unfold pleatref03_relocs.j1
   repeat' first
   | (with_reducible first | exact ih0 _ _ _ _ _ _ _ | exact ih1 _ _ _ _ _ _ _ _ _ _ | exact pleatref02_Target.mono _ _ | exact LeO.refl _ | exact LeO.none _ | refine LeO.ite ?_ ?_ | refine LeO.bind ?_ (fun _ => ?_))
theorem pleatref03_relocs.mono : ∀ a0 a1 a2 a3 a4 a5 k, LeO (pleatref03_relocs.f k a0 a1 a2 a3 a4 a5) (pleatref03_relocs.f (k + 1) a0 a1 a2 a3 a4 a5) := by
 intro a0 a1 a2 a3 a4 a5 k
 obtain ⟨ih0, ih1⟩ := pleatref03_relocs.mono_l k
 unfold pleatref03_relocs.f
 repeat' first
   | (with_reducible first | exact ih0 _ _ _ _ _ _ _ | exact ih1 _ _ _ _ _ _ _ _ _ _ | exact pleatref02_Target.mono _ _ | exact LeO.refl _ | exact LeO.none _ | refine LeO.ite ?_ ?_ | refine LeO.bind ?_ (fun _ => ?_))
set_option maxHeartbeats 8000000 in
set_option maxRecDepth 100000 in
theorem pleatref03_relocs.calls (k : Nat) (a0_0 : ByteArray) (A0_1 : Option Addr) (c0_1 : Nat) (l0_1 : List Int) (a0_2 : Int) (A0_3 : Option Addr) (c0_3 : Nat) (l0_3 : List Int) (A0_4 : Option Addr) (c0_4 : Nat) (l0_4 : List (S37)) (A0_5 : Option Addr) (c0_5 : Nat) (l0_5 : List (S41)) (r1 : Int) (r2 : Int) (w : World) (hr0_1 : Kd.C (Kd.int .u32) w A0_1 l0_1.length l0_1) (hc0_1 : l0_1.length ≤ c0_1) (hr0_3 : Kd.C (Kd.int .i64) w A0_3 l0_3.length l0_3) (hc0_3 : l0_3.length ≤ c0_3) (hr0_4 : Kd.C k37 w A0_4 l0_4.length l0_4) (hc0_4 : l0_4.length ≤ c0_4) (hr0_5 : Kd.C k41 w A0_5 l0_5.length l0_5) (hc0_5 : l0_5.length ≤ c0_5) (h : pleatref03_relocs.f k a0_0 l0_1 a0_2 l0_3 l0_4 l0_5 = some (r1, r2)) :
  Calls Try.prog 68 #[.agg #[.string a0_0, .slice A0_1 l0_1.length c0_1, .int .i64 a0_2, .slice A0_3 l0_3.length c0_3, .slice A0_4 l0_4.length c0_4, .slice A0_5 l0_5.length c0_5]] w fun e w' => e = .returned (.tuple #[.int .i64 r1, .int .i64 r2]) ∧ Below w.heap.size w w' := by
 have hu27 := Try.underlying27
 have hu41 := Try.underlying41
 have HR0_1 := Aside0.mk hr0_1
 have HC0_1 := Aside0.mk hc0_1
 clear hr0_1 hc0_1
 have HR0_3 := Aside0.mk hr0_3
 have HC0_3 := Aside0.mk hc0_3
 clear hr0_3 hc0_3
 have HR0_4 := Aside0.mk hr0_4
 have HC0_4 := Aside0.mk hc0_4
 clear hr0_4 hc0_4
 have HR0_5 := Aside0.mk hr0_5
 have HC0_5 := Aside0.mk hc0_5
 clear hr0_5 hc0_5
 have HB := Aside0.mk (Below.refl w.heap.size w)
 have H : (pleatref03_relocs.l0 k 0 a0_0 l0_1 a0_2 l0_3 l0_4 l0_5) = some (r1, r2) := h
 clear h
 have H' := Aside0.mk H
 clear H
 go_enter Try.func68, Try.ntmps68
 go_wp2_with (first | ((with_reducible refine gate_dst (N := 1) rfl ?_); (try (refine gate_guard (by rfl) ?_; dsimp only)); refine box_event ?hg (N := 1) ?hd (cs := #[.string a0_0, .slice A0_1 l0_1.length c0_1, .int .i64 a0_2, .slice A0_3 l0_3.length c0_3, .slice A0_4 l0_4.length c0_4, .slice A0_5 l0_5.length c0_5]) (t := 27) ?hr ?_; (case hd => rfl); (case hg => rfl); (case hr => go_simp; try rfl); intro gb499 hg w2 hbox hb; have BK499 := Aside0.mk (hbox); have GW499 := Aside0.mk (gwQ hg HB.out); have GE499 := Aside0.mk (gwQ hg HB.out); replace HB := Aside0.mk (bsQ hb HB.out); clear hb hbox hg))
 repeat (go_quiet (first | ((with_reducible refine gate_dst (N := 1) rfl ?_); (try (refine gate_guard (by rfl) ?_; dsimp only)); refine box_event ?hg (N := 1) ?hd (cs := #[.string a0_0, .slice A0_1 l0_1.length c0_1, .int .i64 a0_2, .slice A0_3 l0_3.length c0_3, .slice A0_4 l0_4.length c0_4, .slice A0_5 l0_5.length c0_5]) (t := 27) ?hr ?_; (case hd => rfl); (case hg => rfl); (case hr => go_simp; try rfl); intro gb499 hg w2 hbox hb; have BK499 := Aside0.mk (hbox); have GW499 := Aside0.mk (gwQ hg HB.out); have GE499 := Aside0.mk (gwQ hg HB.out); replace HB := Aside0.mk (bsQ hb HB.out); clear hb hbox hg)); try go_wp2_with (first | ((with_reducible refine gate_dst (N := 1) rfl ?_); (try (refine gate_guard (by rfl) ?_; dsimp only)); refine box_event ?hg (N := 1) ?hd (cs := #[.string a0_0, .slice A0_1 l0_1.length c0_1, .int .i64 a0_2, .slice A0_3 l0_3.length c0_3, .slice A0_4 l0_4.length c0_4, .slice A0_5 l0_5.length c0_5]) (t := 27) ?hr ?_; (case hd => rfl); (case hg => rfl); (case hr => go_simp; try rfl); intro gb499 hg w2 hbox hb; have BK499 := Aside0.mk (hbox); have GW499 := Aside0.mk (gwQ hg HB.out); have GE499 := Aside0.mk (gwQ hg HB.out); replace HB := Aside0.mk (bsQ hb HB.out); clear hb hbox hg)))
 go_loopg [4] k (fun kq v4 w' => ∃ (x4_1 : Int), v4 = .int .i64 x4_1 ∧ Aside0 (pleatref03_relocs.l0 kq x4_1 a0_0 l0_1 a0_2 l0_3 l0_4 l0_5 = some (r1, r2)) ∧ Aside0 (kq ≤ k) ∧ Aside0 (w'.heap[gb499]? = some (.cells #[.string a0_0, (.slice A0_1 l0_1.length c0_1), .int .i64 a0_2, (.slice A0_3 l0_3.length c0_3), (.slice A0_4 l0_4.length c0_4), (.slice A0_5 l0_5.length c0_5)] 27 (0, 0))) ∧ Aside0 (Below w.heap.size w w'))
 case atStart => exact ⟨(0), (by first | rfl | (simp; done) | (simp [*]; done)), H', ⟨Nat.le_refl _⟩, ⟨by exact BK499.out⟩, ⟨by repeat with_reducible first | exact HB.out | apply pw_below_drewN | apply below_drew1 | refine below_set ?_ GE499.out⟩⟩
 case round =>
  clear H'
  try clear p2
  obtain ⟨x4_1, rfl, HA, HK1, BK499, HB⟩ := hrel
  cases gk with
  | zero => exact absurd HA.out (by simp [pleatref03_relocs.l0])
  | succ k1 =>
   have H := HA.out
   clear HA
   simp only [pleatref03_relocs.l0] at H
   by_cases c3 : x4_1 < (l0_5.length : Int)
   ·
    rw [if_pos c3] at H
    have c3b0 : decide (x4_1 < (l0_5.length : Int)) = true := decide_eq_true c3
    clear c3
    by_cases c4 : 0 ≤ x4_1
    ·
     rw [if_pos c4] at H
     have c4b0 : decide (0 ≤ x4_1) = true := decide_eq_true c4
     clear c4
     have HC5 := Aside0.mk H
     clear H
     obtain ⟨hcz6_0, hcz6_1, hcz6_2, hcz6_3, hcz6_4, hcz6_5⟩ := bcQ6 BK499.out
     obtain ⟨hfz6_0, hfz6_1, hfz6_2, hfz6_3, hfz6_4, hfz6_5⟩ := fzQ6 BK499.out
     have p500 : 0 ≤ (x4_1 : Int) := of_decide_eq_true ‹_›
     have q500 : x4_1 < (l0_5.length : Int) := of_decide_eq_true ‹_›
     obtain ⟨ad500, e500, hx500_0, hx500_1⟩ := atQ41 HR0_5.out HB.out x4_1 p500 q500
     cases e500
     replace p500 := eq_true p500
     replace q500 := eq_true q500
     go_upto_region 5 with (first | ((with_reducible refine gate_dst (N := 5) rfl ?_); (try (refine gate_guard (by rfl) ?_; dsimp only)); refine box_event ?hg (N := 5) ?hd (cs := #[.int .i64 0, .int .i64 0]) (t := 41) ?hr ?_; (case hd => rfl); (case hg => rfl); (case hr => go_simp; try rfl); intro gb501 hg w7 hbox hb; have n0_ := Aside0.mk (bbQ hb BK499.out); have n1_ := Aside0.mk (bs1Q hb (by repeat with_reducible first | exact HB.out | apply pw_below_drewN | apply below_drew1 | refine below_set ?_ GE499.out)); have n2_ := Aside0.mk (hbox); have n3_ := Aside0.mk (gw1Q hg (by repeat with_reducible first | exact HB.out | apply pw_below_drewN | apply below_drew1 | refine below_set ?_ GE499.out)); have n4_ := Aside0.mk (gw1Q hg (by repeat with_reducible first | exact HB.out | apply pw_below_drewN | apply below_drew1 | refine below_set ?_ GE499.out)); have n5_ := Aside0.mk ((by rw [hg]; exact Nat.ne_of_lt (blk_lt (g := gb499) (o := .cells #[.string a0_0, .slice A0_1 l0_1.length c0_1, .int .i64 a0_2, .slice A0_3 l0_3.length c0_3, .slice A0_4 l0_4.length c0_4, .slice (some ad500) l0_5.length c0_5] 27 (0, 0)) (by exact BK499.out)) : gb499 ≠ gb501)); have n6_ := Aside0.mk ((by rw [hg]; exact Nat.ne_of_gt (blk_lt (g := gb499) (o := .cells #[.string a0_0, .slice A0_1 l0_1.length c0_1, .int .i64 a0_2, .slice A0_3 l0_3.length c0_3, .slice A0_4 l0_4.length c0_4, .slice (some ad500) l0_5.length c0_5] 27 (0, 0)) (by exact BK499.out)) : gb501 ≠ gb499)); clear BK499; clear HB; have BK499 := n0_; have HB := n1_; have BK501 := n2_; have GW501 := n3_; have GE501 := n4_; have NB499_501 := n5_; have NB501_499 := n6_; clear n0_ n1_ n2_ n3_ n4_ n5_ n6_; clear hb hbox hg; have hnb8 := NB501_499.out; have hnc8 := NB499_501.out; obtain ⟨hcz9_0, hcz9_1⟩ := bcQ2 BK501.out; obtain ⟨hfz9_0, hfz9_1⟩ := fzQ2 BK501.out))
     repeat (go_quiet (first | ((with_reducible refine gate_dst (N := 5) rfl ?_); (try (refine gate_guard (by rfl) ?_; dsimp only)); refine box_event ?hg (N := 5) ?hd (cs := #[.int .i64 0, .int .i64 0]) (t := 41) ?hr ?_; (case hd => rfl); (case hg => rfl); (case hr => go_simp; try rfl); intro gb501 hg w7 hbox hb; have n0_ := Aside0.mk (bbQ hb BK499.out); have n1_ := Aside0.mk (bs1Q hb (by repeat with_reducible first | exact HB.out | apply pw_below_drewN | apply below_drew1 | refine below_set ?_ GE499.out)); have n2_ := Aside0.mk (hbox); have n3_ := Aside0.mk (gw1Q hg (by repeat with_reducible first | exact HB.out | apply pw_below_drewN | apply below_drew1 | refine below_set ?_ GE499.out)); have n4_ := Aside0.mk (gw1Q hg (by repeat with_reducible first | exact HB.out | apply pw_below_drewN | apply below_drew1 | refine below_set ?_ GE499.out)); have n5_ := Aside0.mk ((by rw [hg]; exact Nat.ne_of_lt (blk_lt (g := gb499) (o := .cells #[.string a0_0, .slice A0_1 l0_1.length c0_1, .int .i64 a0_2, .slice A0_3 l0_3.length c0_3, .slice A0_4 l0_4.length c0_4, .slice (some ad500) l0_5.length c0_5] 27 (0, 0)) (by exact BK499.out)) : gb499 ≠ gb501)); have n6_ := Aside0.mk ((by rw [hg]; exact Nat.ne_of_gt (blk_lt (g := gb499) (o := .cells #[.string a0_0, .slice A0_1 l0_1.length c0_1, .int .i64 a0_2, .slice A0_3 l0_3.length c0_3, .slice A0_4 l0_4.length c0_4, .slice (some ad500) l0_5.length c0_5] 27 (0, 0)) (by exact BK499.out)) : gb501 ≠ gb499)); clear BK499; clear HB; have BK499 := n0_; have HB := n1_; have BK501 := n2_; have GW501 := n3_; have GE501 := n4_; have NB499_501 := n5_; have NB501_499 := n6_; clear n0_ n1_ n2_ n3_ n4_ n5_ n6_; clear hb hbox hg; have hnb8 := NB501_499.out; have hnc8 := NB499_501.out; obtain ⟨hcz9_0, hcz9_1⟩ := bcQ2 BK501.out; obtain ⟨hfz9_0, hfz9_1⟩ := fzQ2 BK501.out)); go_upto_region 5 with (first | ((with_reducible refine gate_dst (N := 5) rfl ?_); (try (refine gate_guard (by rfl) ?_; dsimp only)); refine box_event ?hg (N := 5) ?hd (cs := #[.int .i64 0, .int .i64 0]) (t := 41) ?hr ?_; (case hd => rfl); (case hg => rfl); (case hr => go_simp; try rfl); intro gb501 hg w7 hbox hb; have n0_ := Aside0.mk (bbQ hb BK499.out); have n1_ := Aside0.mk (bs1Q hb (by repeat with_reducible first | exact HB.out | apply pw_below_drewN | apply below_drew1 | refine below_set ?_ GE499.out)); have n2_ := Aside0.mk (hbox); have n3_ := Aside0.mk (gw1Q hg (by repeat with_reducible first | exact HB.out | apply pw_below_drewN | apply below_drew1 | refine below_set ?_ GE499.out)); have n4_ := Aside0.mk (gw1Q hg (by repeat with_reducible first | exact HB.out | apply pw_below_drewN | apply below_drew1 | refine below_set ?_ GE499.out)); have n5_ := Aside0.mk ((by rw [hg]; exact Nat.ne_of_lt (blk_lt (g := gb499) (o := .cells #[.string a0_0, .slice A0_1 l0_1.length c0_1, .int .i64 a0_2, .slice A0_3 l0_3.length c0_3, .slice A0_4 l0_4.length c0_4, .slice (some ad500) l0_5.length c0_5] 27 (0, 0)) (by exact BK499.out)) : gb499 ≠ gb501)); have n6_ := Aside0.mk ((by rw [hg]; exact Nat.ne_of_gt (blk_lt (g := gb499) (o := .cells #[.string a0_0, .slice A0_1 l0_1.length c0_1, .int .i64 a0_2, .slice A0_3 l0_3.length c0_3, .slice A0_4 l0_4.length c0_4, .slice (some ad500) l0_5.length c0_5] 27 (0, 0)) (by exact BK499.out)) : gb501 ≠ gb499)); clear BK499; clear HB; have BK499 := n0_; have HB := n1_; have BK501 := n2_; have GW501 := n3_; have GE501 := n4_; have NB499_501 := n5_; have NB501_499 := n6_; clear n0_ n1_ n2_ n3_ n4_ n5_ n6_; clear hb hbox hg; have hnb8 := NB501_499.out; have hnc8 := NB499_501.out; obtain ⟨hcz9_0, hcz9_1⟩ := bcQ2 BK501.out; obtain ⟨hfz9_0, hfz9_1⟩ := fzQ2 BK501.out)))
     (try simp only [Act.put, List.setIfInBounds_toArray, List.set_cons_zero, List.set_cons_succ])
     go_cut [59] (fun v59 wc => ∃ (kq : Nat) (x59_4 : Bool), v59 = .bool x59_4 ∧ Aside0 (pleatref03_relocs.j1 kq x4_1 x59_4 a0_0 l0_1 a0_2 l0_3 l0_4 l0_5 ((rd_T41 l0_5 x4_1).f0) ((rd_T41 l0_5 x4_1).f1) = some (r1, r2)) ∧ Aside0 (kq ≤ k1) ∧ Aside0 (wc.heap[gb499]? = some (.cells #[.string a0_0, (.slice A0_1 l0_1.length c0_1), .int .i64 a0_2, (.slice A0_3 l0_3.length c0_3), (.slice A0_4 l0_4.length c0_4), (.slice (some ad500) l0_5.length c0_5)] 27 (0, 0))) ∧ Aside0 (wc.heap[gb501]? = some (.cells #[.int .i64 ((rd_T41 l0_5 x4_1).f0), .int .i64 ((rd_T41 l0_5 x4_1).f1)] 41 (0, 0))) ∧ Aside0 (Below w.heap.size w wc))
     case first =>
      have H := HC5.out
      clear HC5
      by_cases c10 : ((rd_T41 l0_5 x4_1).f0) < 0
      ·
       rw [if_pos c10] at H
       have c10b0 : decide (((rd_T41 l0_5 x4_1).f0) < 0) = true := decide_eq_true c10
       clear c10
       (first | rw [c10b0] | (simp only [i64_w, i32_w]; rw [c10b0]) | skip)
       have H' := Aside0.mk H
       clear H
       have hnb11 := NB501_499.out
       have hnc11 := NB499_501.out
       obtain ⟨hcz12_0, hcz12_1⟩ := bcQ2 BK501.out
       obtain ⟨hfz12_0, hfz12_1⟩ := fzQ2 BK501.out
       go_wp2
       repeat (go_quiet (fail); try go_wp2)
       go_meet
       case rel => exact ⟨_, (true), (by first | rfl | (simp; done) | (simp [*]; done)), H', ⟨by have := HK1.out; first | omega | exact Nat.le_refl _⟩, ⟨by refine blk_far ?_ NB499_501.out _; refine blk_far ?_ NB499_501.out _; exact BK499.out⟩, ⟨by refine blk_put (cs := #[.int .i64 ((rd_T41 l0_5 x4_1).f0), .int .i64 0]) ?_ 1 _ rfl; refine blk_put (cs := #[.int .i64 0, .int .i64 0]) ?_ 0 _ rfl; exact BK501.out⟩, ⟨by repeat with_reducible first | exact HB.out | apply pw_below_drewN | apply below_drew1 | refine below_set ?_ GE499.out | refine below_set ?_ GE501.out⟩⟩
      ·
       rw [if_neg c10] at H
       have c10b0 : decide (((rd_T41 l0_5 x4_1).f0) < 0) = false := decide_eq_false c10
       clear c10
       (first | rw [c10b0] | (simp only [i64_w, i32_w]; rw [c10b0]) | skip)
       by_cases c13 : ((rd_T41 l0_5 x4_1).f0) ≥ (l0_1.length : Int)
       ·
        rw [if_pos c13] at H
        have c13b0 : decide ((l0_1.length : Int) ≤ ((rd_T41 l0_5 x4_1).f0)) = true := decide_eq_true c13
        clear c13
        have H' := Aside0.mk H
        clear H
        have hnb14 := NB501_499.out
        have hnc14 := NB499_501.out
        obtain ⟨hcz15_0, hcz15_1⟩ := bcQ2 BK501.out
        obtain ⟨hfz15_0, hfz15_1⟩ := fzQ2 BK501.out
        obtain ⟨hcz16_0, hcz16_1, hcz16_2, hcz16_3, hcz16_4, hcz16_5⟩ := bcQ6 BK499.out
        obtain ⟨hfz16_0, hfz16_1, hfz16_2, hfz16_3, hfz16_4, hfz16_5⟩ := fzQ6 BK499.out
        go_wp2
        repeat (go_quiet (fail); try go_wp2)
        go_meet
        case rel => exact ⟨_, (true), (by first | rfl | (simp; done) | (simp [*]; done)), H', ⟨by have := HK1.out; first | omega | exact Nat.le_refl _⟩, ⟨by refine blk_far ?_ NB499_501.out _; refine blk_far ?_ NB499_501.out _; exact BK499.out⟩, ⟨by refine blk_put (cs := #[.int .i64 ((rd_T41 l0_5 x4_1).f0), .int .i64 0]) ?_ 1 _ rfl; refine blk_put (cs := #[.int .i64 0, .int .i64 0]) ?_ 0 _ rfl; exact BK501.out⟩, ⟨by repeat with_reducible first | exact HB.out | apply pw_below_drewN | apply below_drew1 | refine below_set ?_ GE499.out | refine below_set ?_ GE501.out⟩⟩
       ·
        rw [if_neg c13] at H
        have c13b0 : decide ((l0_1.length : Int) ≤ ((rd_T41 l0_5 x4_1).f0)) = false := decide_eq_false c13
        clear c13
        by_cases c17 : x4_1 > 0
        ·
         rw [if_pos c17] at H
         have c17b0 : decide (0 < x4_1) = true := decide_eq_true c17
         clear c17
         obtain ⟨ji18, hji18⟩ : ∃ j_ : Int, (wrap64 (x4_1 - 1)) = j_ := ⟨_, rfl⟩
         replace H : (if 0 ≤ (ji18) then (if (ji18) < (l0_5.length : Int) then (if ((rd_T41 l0_5 x4_1).f0) ≤ ((rd_T41 l0_5 (ji18)).f0) then (pleatref03_relocs.j1 k1 x4_1 true a0_0 l0_1 a0_2 l0_3 l0_4 l0_5 ((rd_T41 l0_5 x4_1).f0) ((rd_T41 l0_5 x4_1).f1)) else (if ((rd_T41 l0_5 x4_1).f1) < 0 then (pleatref03_relocs.j1 k1 x4_1 true a0_0 l0_1 a0_2 l0_3 l0_4 l0_5 ((rd_T41 l0_5 x4_1).f0) ((rd_T41 l0_5 x4_1).f1)) else (pleatref03_relocs.j1 k1 x4_1 (decide (((rd_T41 l0_5 x4_1).f1) ≥ (l0_4.length : Int))) a0_0 l0_1 a0_2 l0_3 l0_4 l0_5 ((rd_T41 l0_5 x4_1).f0) ((rd_T41 l0_5 x4_1).f1)))) else (none)) else (none)) = some (r1, r2) := by first | (rw [hji18] at H; exact H) | (simp only [hji18] at H ⊢; exact H)
         have hji18w : (IntKind.i64.wrap (x4_1 - 1)) = ji18 := (i64_w _).trans hji18
         by_cases c19 : 0 ≤ (ji18)
         ·
          rw [if_pos c19] at H
          have c19b0 : decide (0 ≤ (ji18)) = true := decide_eq_true c19
          clear c19
          by_cases c20 : (ji18) < (l0_5.length : Int)
          ·
           rw [if_pos c20] at H
           have c20b0 : decide ((ji18) < (l0_5.length : Int)) = true := decide_eq_true c20
           clear c20
           by_cases c21 : ((rd_T41 l0_5 x4_1).f0) ≤ ((rd_T41 l0_5 (ji18)).f0)
           ·
            rw [if_pos c21] at H
            have c21b0 : decide (((rd_T41 l0_5 x4_1).f0) ≤ ((rd_T41 l0_5 (ji18)).f0)) = true := decide_eq_true c21
            clear c21
            have H' := Aside0.mk H
            clear H
            have hnb22 := NB501_499.out
            have hnc22 := NB499_501.out
            obtain ⟨hcz23_0, hcz23_1⟩ := bcQ2 BK501.out
            obtain ⟨hfz23_0, hfz23_1⟩ := fzQ2 BK501.out
            obtain ⟨hcz24_0, hcz24_1, hcz24_2, hcz24_3, hcz24_4, hcz24_5⟩ := bcQ6 BK499.out
            obtain ⟨hfz24_0, hfz24_1, hfz24_2, hfz24_3, hfz24_4, hfz24_5⟩ := fzQ6 BK499.out
            have p502 : 0 ≤ ((ji18) : Int) := of_decide_eq_true ‹_›
            have q502 : (ji18) < (l0_5.length : Int) := of_decide_eq_true ‹_›
            obtain ⟨ad502, e502, hx502_0, hx502_1⟩ := at_T41 HR0_5.out (ji18) p502 q502
            obtain rfl : ad500 = ad502 := (by injection e502)
            have hn502_0 : ad500.block ≠ gb501 := Nat.ne_of_lt (Nat.lt_of_lt_of_le (by have := World.block_lt_of_cell? _ _ hx502_0; first | rwa [add_block] at this | exact this) GW501.out)
            have hn502_1 : ad500.block ≠ gb501 := Nat.ne_of_lt (Nat.lt_of_lt_of_le (by have := World.block_lt_of_cell? _ _ hx502_0; first | rwa [add_block] at this | exact this) GW501.out)
            replace hx502_0 := pw_cell_below HB.out hx502_0
            replace hx502_1 := pw_cell_below HB.out hx502_1
            replace hx502_0 := (cell_far (p := ⟨gb501, 0, none⟩) (by first | (rw [add_block]; exact hn502_0) | (show (Addr.add _ _).block ≠ _; rw [add_block]; exact hn502_0) | exact hn502_0) (.int .i64 ((rd_T41 l0_5 x4_1).f0))).trans hx502_0
            replace hx502_1 := (cell_far (p := ⟨gb501, 0, none⟩) (by first | (rw [add_block]; exact hn502_0) | (show (Addr.add _ _).block ≠ _; rw [add_block]; exact hn502_0) | exact hn502_0) (.int .i64 ((rd_T41 l0_5 x4_1).f0))).trans hx502_1
            replace hx502_0 := (cell_far (p := ⟨gb501, 1, none⟩) (by first | (rw [add_block]; exact hn502_1) | (show (Addr.add _ _).block ≠ _; rw [add_block]; exact hn502_1) | exact hn502_1) (.int .i64 ((rd_T41 l0_5 x4_1).f1))).trans hx502_0
            replace hx502_1 := (cell_far (p := ⟨gb501, 1, none⟩) (by first | (rw [add_block]; exact hn502_1) | (show (Addr.add _ _).block ≠ _; rw [add_block]; exact hn502_1) | exact hn502_1) (.int .i64 ((rd_T41 l0_5 x4_1).f1))).trans hx502_1
            (try have hy502_0 := fun (n_ : Nat) => (show ((((w7.drewN n_).setCell ⟨gb501, 0, none⟩ (.int .i64 ((rd_T41 l0_5 x4_1).f0))).setCell ⟨gb501, 1, none⟩ (.int .i64 ((rd_T41 l0_5 x4_1).f1)))).cell? _ = some _ from hx502_0))
            (try have hy502_1 := fun (n_ : Nat) => (show ((((w7.drewN n_).setCell ⟨gb501, 0, none⟩ (.int .i64 ((rd_T41 l0_5 x4_1).f0))).setCell ⟨gb501, 1, none⟩ (.int .i64 ((rd_T41 l0_5 x4_1).f1)))).cell? _ = some _ from hx502_1))
            clear hn502_0
            clear hn502_1
            replace p502 := eq_true p502
            replace q502 := eq_true q502
            go_wp2
            repeat (go_quiet (fail); try go_wp2)
            go_meet
            case rel => exact ⟨_, (true), (by first | rfl | (simp; done) | (simp [*]; done)), H', ⟨by have := HK1.out; first | omega | exact Nat.le_refl _⟩, ⟨by refine blk_far ?_ NB499_501.out _; refine blk_far ?_ NB499_501.out _; exact BK499.out⟩, ⟨by refine blk_put (cs := #[.int .i64 ((rd_T41 l0_5 x4_1).f0), .int .i64 0]) ?_ 1 _ rfl; refine blk_put (cs := #[.int .i64 0, .int .i64 0]) ?_ 0 _ rfl; exact BK501.out⟩, ⟨by repeat with_reducible first | exact HB.out | apply pw_below_drewN | apply below_drew1 | refine below_set ?_ GE499.out | refine below_set ?_ GE501.out⟩⟩
           ·
            rw [if_neg c21] at H
            have c21b0 : decide (((rd_T41 l0_5 x4_1).f0) ≤ ((rd_T41 l0_5 (ji18)).f0)) = false := decide_eq_false c21
            clear c21
            by_cases c25 : ((rd_T41 l0_5 x4_1).f1) < 0
            ·
             rw [if_pos c25] at H
             have c25b0 : decide (((rd_T41 l0_5 x4_1).f1) < 0) = true := decide_eq_true c25
             clear c25
             have H' := Aside0.mk H
             clear H
             have hnb26 := NB501_499.out
             have hnc26 := NB499_501.out
             obtain ⟨hcz27_0, hcz27_1⟩ := bcQ2 BK501.out
             obtain ⟨hfz27_0, hfz27_1⟩ := fzQ2 BK501.out
             obtain ⟨hcz28_0, hcz28_1, hcz28_2, hcz28_3, hcz28_4, hcz28_5⟩ := bcQ6 BK499.out
             obtain ⟨hfz28_0, hfz28_1, hfz28_2, hfz28_3, hfz28_4, hfz28_5⟩ := fzQ6 BK499.out
             have p502 : 0 ≤ ((ji18) : Int) := of_decide_eq_true ‹_›
             have q502 : (ji18) < (l0_5.length : Int) := of_decide_eq_true ‹_›
             obtain ⟨ad502, e502, hx502_0, hx502_1⟩ := at_T41 HR0_5.out (ji18) p502 q502
             obtain rfl : ad500 = ad502 := (by injection e502)
             have hn502_0 : ad500.block ≠ gb501 := Nat.ne_of_lt (Nat.lt_of_lt_of_le (by have := World.block_lt_of_cell? _ _ hx502_0; first | rwa [add_block] at this | exact this) GW501.out)
             have hn502_1 : ad500.block ≠ gb501 := Nat.ne_of_lt (Nat.lt_of_lt_of_le (by have := World.block_lt_of_cell? _ _ hx502_0; first | rwa [add_block] at this | exact this) GW501.out)
             replace hx502_0 := pw_cell_below HB.out hx502_0
             replace hx502_1 := pw_cell_below HB.out hx502_1
             replace hx502_0 := (cell_far (p := ⟨gb501, 0, none⟩) (by first | (rw [add_block]; exact hn502_0) | (show (Addr.add _ _).block ≠ _; rw [add_block]; exact hn502_0) | exact hn502_0) (.int .i64 ((rd_T41 l0_5 x4_1).f0))).trans hx502_0
             replace hx502_1 := (cell_far (p := ⟨gb501, 0, none⟩) (by first | (rw [add_block]; exact hn502_0) | (show (Addr.add _ _).block ≠ _; rw [add_block]; exact hn502_0) | exact hn502_0) (.int .i64 ((rd_T41 l0_5 x4_1).f0))).trans hx502_1
             replace hx502_0 := (cell_far (p := ⟨gb501, 1, none⟩) (by first | (rw [add_block]; exact hn502_1) | (show (Addr.add _ _).block ≠ _; rw [add_block]; exact hn502_1) | exact hn502_1) (.int .i64 ((rd_T41 l0_5 x4_1).f1))).trans hx502_0
             replace hx502_1 := (cell_far (p := ⟨gb501, 1, none⟩) (by first | (rw [add_block]; exact hn502_1) | (show (Addr.add _ _).block ≠ _; rw [add_block]; exact hn502_1) | exact hn502_1) (.int .i64 ((rd_T41 l0_5 x4_1).f1))).trans hx502_1
             (try have hy502_0 := fun (n_ : Nat) => (show ((((w7.drewN n_).setCell ⟨gb501, 0, none⟩ (.int .i64 ((rd_T41 l0_5 x4_1).f0))).setCell ⟨gb501, 1, none⟩ (.int .i64 ((rd_T41 l0_5 x4_1).f1)))).cell? _ = some _ from hx502_0))
             (try have hy502_1 := fun (n_ : Nat) => (show ((((w7.drewN n_).setCell ⟨gb501, 0, none⟩ (.int .i64 ((rd_T41 l0_5 x4_1).f0))).setCell ⟨gb501, 1, none⟩ (.int .i64 ((rd_T41 l0_5 x4_1).f1)))).cell? _ = some _ from hx502_1))
             clear hn502_0
             clear hn502_1
             replace p502 := eq_true p502
             replace q502 := eq_true q502
             go_wp2
             repeat (go_quiet (fail); try go_wp2)
             go_meet
             case rel => exact ⟨_, (true), (by first | rfl | (simp; done) | (simp [*]; done)), H', ⟨by have := HK1.out; first | omega | exact Nat.le_refl _⟩, ⟨by refine blk_far ?_ NB499_501.out _; refine blk_far ?_ NB499_501.out _; exact BK499.out⟩, ⟨by refine blk_put (cs := #[.int .i64 ((rd_T41 l0_5 x4_1).f0), .int .i64 0]) ?_ 1 _ rfl; refine blk_put (cs := #[.int .i64 0, .int .i64 0]) ?_ 0 _ rfl; exact BK501.out⟩, ⟨by repeat with_reducible first | exact HB.out | apply pw_below_drewN | apply below_drew1 | refine below_set ?_ GE499.out | refine below_set ?_ GE501.out⟩⟩
            ·
             rw [if_neg c25] at H
             have c25b0 : decide (((rd_T41 l0_5 x4_1).f1) < 0) = false := decide_eq_false c25
             clear c25
             have H' := Aside0.mk H
             clear H
             have hnb29 := NB501_499.out
             have hnc29 := NB499_501.out
             obtain ⟨hcz30_0, hcz30_1⟩ := bcQ2 BK501.out
             obtain ⟨hfz30_0, hfz30_1⟩ := fzQ2 BK501.out
             obtain ⟨hcz31_0, hcz31_1, hcz31_2, hcz31_3, hcz31_4, hcz31_5⟩ := bcQ6 BK499.out
             obtain ⟨hfz31_0, hfz31_1, hfz31_2, hfz31_3, hfz31_4, hfz31_5⟩ := fzQ6 BK499.out
             have p502 : 0 ≤ ((ji18) : Int) := of_decide_eq_true ‹_›
             have q502 : (ji18) < (l0_5.length : Int) := of_decide_eq_true ‹_›
             obtain ⟨ad502, e502, hx502_0, hx502_1⟩ := at_T41 HR0_5.out (ji18) p502 q502
             obtain rfl : ad500 = ad502 := (by injection e502)
             have hn502_0 : ad500.block ≠ gb501 := Nat.ne_of_lt (Nat.lt_of_lt_of_le (by have := World.block_lt_of_cell? _ _ hx502_0; first | rwa [add_block] at this | exact this) GW501.out)
             have hn502_1 : ad500.block ≠ gb501 := Nat.ne_of_lt (Nat.lt_of_lt_of_le (by have := World.block_lt_of_cell? _ _ hx502_0; first | rwa [add_block] at this | exact this) GW501.out)
             replace hx502_0 := pw_cell_below HB.out hx502_0
             replace hx502_1 := pw_cell_below HB.out hx502_1
             replace hx502_0 := (cell_far (p := ⟨gb501, 0, none⟩) (by first | (rw [add_block]; exact hn502_0) | (show (Addr.add _ _).block ≠ _; rw [add_block]; exact hn502_0) | exact hn502_0) (.int .i64 ((rd_T41 l0_5 x4_1).f0))).trans hx502_0
             replace hx502_1 := (cell_far (p := ⟨gb501, 0, none⟩) (by first | (rw [add_block]; exact hn502_0) | (show (Addr.add _ _).block ≠ _; rw [add_block]; exact hn502_0) | exact hn502_0) (.int .i64 ((rd_T41 l0_5 x4_1).f0))).trans hx502_1
             replace hx502_0 := (cell_far (p := ⟨gb501, 1, none⟩) (by first | (rw [add_block]; exact hn502_1) | (show (Addr.add _ _).block ≠ _; rw [add_block]; exact hn502_1) | exact hn502_1) (.int .i64 ((rd_T41 l0_5 x4_1).f1))).trans hx502_0
             replace hx502_1 := (cell_far (p := ⟨gb501, 1, none⟩) (by first | (rw [add_block]; exact hn502_1) | (show (Addr.add _ _).block ≠ _; rw [add_block]; exact hn502_1) | exact hn502_1) (.int .i64 ((rd_T41 l0_5 x4_1).f1))).trans hx502_1
             (try have hy502_0 := fun (n_ : Nat) => (show ((((w7.drewN n_).setCell ⟨gb501, 0, none⟩ (.int .i64 ((rd_T41 l0_5 x4_1).f0))).setCell ⟨gb501, 1, none⟩ (.int .i64 ((rd_T41 l0_5 x4_1).f1)))).cell? _ = some _ from hx502_0))
             (try have hy502_1 := fun (n_ : Nat) => (show ((((w7.drewN n_).setCell ⟨gb501, 0, none⟩ (.int .i64 ((rd_T41 l0_5 x4_1).f0))).setCell ⟨gb501, 1, none⟩ (.int .i64 ((rd_T41 l0_5 x4_1).f1)))).cell? _ = some _ from hx502_1))
             clear hn502_0
             clear hn502_1
             replace p502 := eq_true p502
             replace q502 := eq_true q502
             go_wp2
             repeat (go_quiet (fail); try go_wp2)
             go_meet
             case rel => exact ⟨_, (decide (((rd_T41 l0_5 x4_1).f1) ≥ (l0_4.length : Int))), (by first | rfl | (simp; done) | (simp [*]; done)), H', ⟨by have := HK1.out; first | omega | exact Nat.le_refl _⟩, ⟨by refine blk_far ?_ NB499_501.out _; refine blk_far ?_ NB499_501.out _; exact BK499.out⟩, ⟨by refine blk_put (cs := #[.int .i64 ((rd_T41 l0_5 x4_1).f0), .int .i64 0]) ?_ 1 _ rfl; refine blk_put (cs := #[.int .i64 0, .int .i64 0]) ?_ 0 _ rfl; exact BK501.out⟩, ⟨by repeat with_reducible first | exact HB.out | apply pw_below_drewN | apply below_drew1 | refine below_set ?_ GE499.out | refine below_set ?_ GE501.out⟩⟩
          ·
           rw [if_neg c20] at H
           exact absurd H (by simp)
         ·
          rw [if_neg c19] at H
          exact absurd H (by simp)
        ·
         rw [if_neg c17] at H
         have c17b0 : decide (0 < x4_1) = false := decide_eq_false c17
         clear c17
         by_cases c32 : ((rd_T41 l0_5 x4_1).f1) < 0
         ·
          rw [if_pos c32] at H
          have c32b0 : decide (((rd_T41 l0_5 x4_1).f1) < 0) = true := decide_eq_true c32
          clear c32
          have H' := Aside0.mk H
          clear H
          have hnb33 := NB501_499.out
          have hnc33 := NB499_501.out
          obtain ⟨hcz34_0, hcz34_1⟩ := bcQ2 BK501.out
          obtain ⟨hfz34_0, hfz34_1⟩ := fzQ2 BK501.out
          obtain ⟨hcz35_0, hcz35_1, hcz35_2, hcz35_3, hcz35_4, hcz35_5⟩ := bcQ6 BK499.out
          obtain ⟨hfz35_0, hfz35_1, hfz35_2, hfz35_3, hfz35_4, hfz35_5⟩ := fzQ6 BK499.out
          go_wp2
          repeat (go_quiet (fail); try go_wp2)
          go_meet
          case rel => exact ⟨_, (true), (by first | rfl | (simp; done) | (simp [*]; done)), H', ⟨by have := HK1.out; first | omega | exact Nat.le_refl _⟩, ⟨by refine blk_far ?_ NB499_501.out _; refine blk_far ?_ NB499_501.out _; exact BK499.out⟩, ⟨by refine blk_put (cs := #[.int .i64 ((rd_T41 l0_5 x4_1).f0), .int .i64 0]) ?_ 1 _ rfl; refine blk_put (cs := #[.int .i64 0, .int .i64 0]) ?_ 0 _ rfl; exact BK501.out⟩, ⟨by repeat with_reducible first | exact HB.out | apply pw_below_drewN | apply below_drew1 | refine below_set ?_ GE499.out | refine below_set ?_ GE501.out⟩⟩
         ·
          rw [if_neg c32] at H
          have c32b0 : decide (((rd_T41 l0_5 x4_1).f1) < 0) = false := decide_eq_false c32
          clear c32
          have H' := Aside0.mk H
          clear H
          have hnb36 := NB501_499.out
          have hnc36 := NB499_501.out
          obtain ⟨hcz37_0, hcz37_1⟩ := bcQ2 BK501.out
          obtain ⟨hfz37_0, hfz37_1⟩ := fzQ2 BK501.out
          obtain ⟨hcz38_0, hcz38_1, hcz38_2, hcz38_3, hcz38_4, hcz38_5⟩ := bcQ6 BK499.out
          obtain ⟨hfz38_0, hfz38_1, hfz38_2, hfz38_3, hfz38_4, hfz38_5⟩ := fzQ6 BK499.out
          go_wp2
          repeat (go_quiet (fail); try go_wp2)
          go_meet
          case rel => exact ⟨_, (decide (((rd_T41 l0_5 x4_1).f1) ≥ (l0_4.length : Int))), (by first | rfl | (simp; done) | (simp [*]; done)), H', ⟨by have := HK1.out; first | omega | exact Nat.le_refl _⟩, ⟨by refine blk_far ?_ NB499_501.out _; refine blk_far ?_ NB499_501.out _; exact BK499.out⟩, ⟨by refine blk_put (cs := #[.int .i64 ((rd_T41 l0_5 x4_1).f0), .int .i64 0]) ?_ 1 _ rfl; refine blk_put (cs := #[.int .i64 0, .int .i64 0]) ?_ 0 _ rfl; exact BK501.out⟩, ⟨by repeat with_reducible first | exact HB.out | apply pw_below_drewN | apply below_drew1 | refine below_set ?_ GE499.out | refine below_set ?_ GE501.out⟩⟩
     case rest =>
      clear HC5
      try clear c1
      try clear c2
      try clear p2
      try clear c3
      try clear c3b0
      try clear c4
      try clear c4b0
      try clear p5
      try clear q5
      try clear hx5
      try clear c6
      try clear p6
      try clear c8
      try clear c10
      try clear c10b0
      try clear c11
      try clear c13
      try clear c13b0
      try clear c14
      try clear c17
      try clear c17b0
      try clear c19
      try clear c19b0
      try clear c20
      try clear c20b0
      try clear c21
      try clear c21b0
      try clear c22
      try clear c25
      try clear c25b0
      try clear c26
      try clear c29
      try clear c32
      try clear c32b0
      try clear c33
      try clear c36
      try clear hcz12_0 hcz12_1
      try clear hcz15_0 hcz15_1
      try clear hcz16_0 hcz16_1 hcz16_2 hcz16_3 hcz16_4 hcz16_5
      try clear hcz23_0 hcz23_1
      try clear hcz24_0 hcz24_1 hcz24_2 hcz24_3 hcz24_4 hcz24_5
      try clear hcz27_0 hcz27_1
      try clear hcz28_0 hcz28_1 hcz28_2 hcz28_3 hcz28_4 hcz28_5
      try clear hcz30_0 hcz30_1
      try clear hcz31_0 hcz31_1 hcz31_2 hcz31_3 hcz31_4 hcz31_5
      try clear hcz34_0 hcz34_1
      try clear hcz35_0 hcz35_1 hcz35_2 hcz35_3 hcz35_4 hcz35_5
      try clear hcz37_0 hcz37_1
      try clear hcz38_0 hcz38_1 hcz38_2 hcz38_3 hcz38_4 hcz38_5
      try clear hcz6_0 hcz6_1 hcz6_2 hcz6_3 hcz6_4 hcz6_5
      try clear hcz9_0 hcz9_1
      try clear hfz12_0 hfz12_1
      try clear hfz15_0 hfz15_1
      try clear hfz16_0 hfz16_1 hfz16_2 hfz16_3 hfz16_4 hfz16_5
      try clear hfz23_0 hfz23_1
      try clear hfz24_0 hfz24_1 hfz24_2 hfz24_3 hfz24_4 hfz24_5
      try clear hfz27_0 hfz27_1
      try clear hfz28_0 hfz28_1 hfz28_2 hfz28_3 hfz28_4 hfz28_5
      try clear hfz30_0 hfz30_1
      try clear hfz31_0 hfz31_1 hfz31_2 hfz31_3 hfz31_4 hfz31_5
      try clear hfz34_0 hfz34_1
      try clear hfz35_0 hfz35_1 hfz35_2 hfz35_3 hfz35_4 hfz35_5
      try clear hfz37_0 hfz37_1
      try clear hfz38_0 hfz38_1 hfz38_2 hfz38_3 hfz38_4 hfz38_5
      try clear hfz6_0 hfz6_1 hfz6_2 hfz6_3 hfz6_4 hfz6_5
      try clear hfz9_0 hfz9_1
      try clear hx500_0
      try clear hx500_1
      try clear hx502_0
      try clear hx502_1
      try clear p2
      try clear p500
      try clear p502
      try clear q500
      try clear q502
      obtain ⟨kq, x59_4, rfl, HA, HJ4, BK499, BK501, HB⟩ := hcut
      cases kq with
      | zero => exact absurd HA.out (by simp [pleatref03_relocs.j1])
      | succ kj4 =>
       have H := HA.out
       clear HA
       simp only [pleatref03_relocs.j1] at H
       by_cases c39 : x59_4 = true
       ·
        subst c39
        rw [if_pos rfl] at H
        simp only [Option.some.injEq, Prod.mk.injEq] at H
        obtain ⟨rfl, rfl⟩ := H
        go_wp2
        repeat (go_quiet (fail); try go_wp2)
        go_ret2
        exact ⟨by first | rfl | (simp [errW_none, errW_some] <;> rfl) | (simp [*, errW_none, errW_some] <;> rfl), by repeat with_reducible first | exact HB.out | apply pw_below_drewN | apply below_drew1 | refine below_set ?_ GE499.out | refine below_set ?_ GE501.out⟩
       ·
        replace c39 := Bool.eq_false_iff.mpr c39
        subst c39
        rw [if_neg Bool.false_ne_true] at H
        by_cases c40 : 0 ≤ ((rd_T41 l0_5 x4_1).f0)
        ·
         rw [if_pos c40] at H
         have c40b0 : decide (0 ≤ ((rd_T41 l0_5 x4_1).f0)) = true := decide_eq_true c40
         clear c40
         by_cases c41 : ((rd_T41 l0_5 x4_1).f0) < (l0_1.length : Int)
         ·
          rw [if_pos c41] at H
          have c41b0 : decide (((rd_T41 l0_5 x4_1).f0) < (l0_1.length : Int)) = true := decide_eq_true c41
          clear c41
          replace H := Option.bind_eq_some_iff.mp H
          obtain ⟨⟨t504, t505⟩, A420, H⟩ := H
          try dsimp only at H
          have A42 := Aside0.mk A420
          clear A420
          by_cases c43 : t505 = true
          ·
           subst c43
           rw [if_pos rfl] at H
           by_cases c44 : t504 = 0
           ·
            rw [if_pos c44] at H
            have c44b0 : (t504 == 0) = true := beq_iff_eq.mpr c44
            have c44b1 : (t504 != 0) = false := bne_eq_false_iff_eq.mpr c44
            clear c44
            have H' := Aside0.mk H
            clear H
            have hnb45 := NB499_501.out
            have hnc45 := NB501_499.out
            obtain ⟨hcz46_0, hcz46_1, hcz46_2, hcz46_3, hcz46_4, hcz46_5⟩ := bcQ6 BK499.out
            obtain ⟨hfz46_0, hfz46_1, hfz46_2, hfz46_3, hfz46_4, hfz46_5⟩ := fzQ6 BK499.out
            obtain ⟨hcz47_0, hcz47_1⟩ := bcQ2 BK501.out
            obtain ⟨hfz47_0, hfz47_1⟩ := fzQ2 BK501.out
            have p503 : 0 ≤ (((rd_T41 l0_5 x4_1).f0) : Int) := of_decide_eq_true ‹_›
            have q503 : ((rd_T41 l0_5 x4_1).f0) < (l0_1.length : Int) := of_decide_eq_true ‹_›
            obtain ⟨ad503, e503, hx503_0⟩ := Kd.at_int HR0_1.out ((rd_T41 l0_5 x4_1).f0) p503 q503
            cases e503
            replace hx503_0 := pw_cell_below HB.out hx503_0
            replace p503 := eq_true p503
            replace q503 := eq_true q503
            go_wp2_with (first | (go_at_call 69; (with_reducible refine (pleatref02_Target.calls kj4 (rd l0_1 ((rd_T41 l0_5 x4_1).f0)) t504 true _ A42.out).mono ?_); rintro e w48 ⟨rfl, hb⟩; replace BK499 := Aside0.mk (bbQ hb BK499.out); replace BK501 := Aside0.mk (bbQ hb BK501.out); replace HB := Aside0.mk (bs1Q hb (by repeat with_reducible first | exact HB.out | apply pw_below_drewN | apply below_drew1 | refine below_set ?_ GE499.out | refine below_set ?_ GE501.out)); (try clear hb); (try clear hb2); (try clear hk); (try clear hi)))
            repeat (go_quiet (first | (go_at_call 69; (with_reducible refine (pleatref02_Target.calls kj4 (rd l0_1 ((rd_T41 l0_5 x4_1).f0)) t504 true _ A42.out).mono ?_); rintro e w48 ⟨rfl, hb⟩; replace BK499 := Aside0.mk (bbQ hb BK499.out); replace BK501 := Aside0.mk (bbQ hb BK501.out); replace HB := Aside0.mk (bs1Q hb (by repeat with_reducible first | exact HB.out | apply pw_below_drewN | apply below_drew1 | refine below_set ?_ GE499.out | refine below_set ?_ GE501.out)); (try clear hb); (try clear hb2); (try clear hk); (try clear hi))); try go_wp2_with (first | (go_at_call 69; (with_reducible refine (pleatref02_Target.calls kj4 (rd l0_1 ((rd_T41 l0_5 x4_1).f0)) t504 true _ A42.out).mono ?_); rintro e w48 ⟨rfl, hb⟩; replace BK499 := Aside0.mk (bbQ hb BK499.out); replace BK501 := Aside0.mk (bbQ hb BK501.out); replace HB := Aside0.mk (bs1Q hb (by repeat with_reducible first | exact HB.out | apply pw_below_drewN | apply below_drew1 | refine below_set ?_ GE499.out | refine below_set ?_ GE501.out)); (try clear hb); (try clear hb2); (try clear hk); (try clear hi))))
            go_roundg kj4
            case measure => have := HK1.out; have := HJ4.out; omega
            case rel => exact ⟨(wrap64 (x4_1 + 1)), (by first | rfl | (simp; done) | (simp [*]; done)), H', ⟨by have := HK1.out; have := HJ4.out; omega⟩, ⟨by exact BK499.out⟩, ⟨by repeat with_reducible first | exact HB.out | apply pw_below_drewN | apply below_drew1 | refine below_set ?_ GE499.out | refine below_set ?_ GE501.out⟩⟩
           ·
            rw [if_neg c44] at H
            have c44b0 : (t504 == 0) = false := beq_eq_false_iff_ne.mpr c44
            have c44b1 : (t504 != 0) = true := bne_iff_ne.mpr c44
            simp only [Option.some.injEq, Prod.mk.injEq] at H
            obtain ⟨rfl, rfl⟩ := H
            have hnb49 := NB499_501.out
            have hnc49 := NB501_499.out
            obtain ⟨hcz50_0, hcz50_1, hcz50_2, hcz50_3, hcz50_4, hcz50_5⟩ := bcQ6 BK499.out
            obtain ⟨hfz50_0, hfz50_1, hfz50_2, hfz50_3, hfz50_4, hfz50_5⟩ := fzQ6 BK499.out
            obtain ⟨hcz51_0, hcz51_1⟩ := bcQ2 BK501.out
            obtain ⟨hfz51_0, hfz51_1⟩ := fzQ2 BK501.out
            have p503 : 0 ≤ (((rd_T41 l0_5 x4_1).f0) : Int) := of_decide_eq_true ‹_›
            have q503 : ((rd_T41 l0_5 x4_1).f0) < (l0_1.length : Int) := of_decide_eq_true ‹_›
            obtain ⟨ad503, e503, hx503_0⟩ := Kd.at_int HR0_1.out ((rd_T41 l0_5 x4_1).f0) p503 q503
            cases e503
            replace hx503_0 := pw_cell_below HB.out hx503_0
            replace p503 := eq_true p503
            replace q503 := eq_true q503
            go_wp2_with (first | (go_at_call 69; (with_reducible refine (pleatref02_Target.calls kj4 (rd l0_1 ((rd_T41 l0_5 x4_1).f0)) t504 true _ A42.out).mono ?_); rintro e w52 ⟨rfl, hb⟩; replace BK499 := Aside0.mk (bbQ hb BK499.out); replace BK501 := Aside0.mk (bbQ hb BK501.out); replace HB := Aside0.mk (bs1Q hb (by repeat with_reducible first | exact HB.out | apply pw_below_drewN | apply below_drew1 | refine below_set ?_ GE499.out | refine below_set ?_ GE501.out)); (try clear hb); (try clear hb2); (try clear hk); (try clear hi)))
            repeat (go_quiet (first | (go_at_call 69; (with_reducible refine (pleatref02_Target.calls kj4 (rd l0_1 ((rd_T41 l0_5 x4_1).f0)) t504 true _ A42.out).mono ?_); rintro e w52 ⟨rfl, hb⟩; replace BK499 := Aside0.mk (bbQ hb BK499.out); replace BK501 := Aside0.mk (bbQ hb BK501.out); replace HB := Aside0.mk (bs1Q hb (by repeat with_reducible first | exact HB.out | apply pw_below_drewN | apply below_drew1 | refine below_set ?_ GE499.out | refine below_set ?_ GE501.out)); (try clear hb); (try clear hb2); (try clear hk); (try clear hi))); try go_wp2_with (first | (go_at_call 69; (with_reducible refine (pleatref02_Target.calls kj4 (rd l0_1 ((rd_T41 l0_5 x4_1).f0)) t504 true _ A42.out).mono ?_); rintro e w52 ⟨rfl, hb⟩; replace BK499 := Aside0.mk (bbQ hb BK499.out); replace BK501 := Aside0.mk (bbQ hb BK501.out); replace HB := Aside0.mk (bs1Q hb (by repeat with_reducible first | exact HB.out | apply pw_below_drewN | apply below_drew1 | refine below_set ?_ GE499.out | refine below_set ?_ GE501.out)); (try clear hb); (try clear hb2); (try clear hk); (try clear hi))))
            go_ret2
            exact ⟨by first | rfl | (simp [errW_none, errW_some] <;> rfl) | (simp [*, errW_none, errW_some] <;> rfl), by repeat with_reducible first | exact HB.out | apply pw_below_drewN | apply below_drew1 | refine below_set ?_ GE499.out | refine below_set ?_ GE501.out⟩
          ·
           replace c43 := Bool.eq_false_iff.mpr c43
           subst c43
           rw [if_neg Bool.false_ne_true] at H
           simp only [Option.some.injEq, Prod.mk.injEq] at H
           obtain ⟨rfl, rfl⟩ := H
           have hnb53 := NB499_501.out
           have hnc53 := NB501_499.out
           obtain ⟨hcz54_0, hcz54_1, hcz54_2, hcz54_3, hcz54_4, hcz54_5⟩ := bcQ6 BK499.out
           obtain ⟨hfz54_0, hfz54_1, hfz54_2, hfz54_3, hfz54_4, hfz54_5⟩ := fzQ6 BK499.out
           obtain ⟨hcz55_0, hcz55_1⟩ := bcQ2 BK501.out
           obtain ⟨hfz55_0, hfz55_1⟩ := fzQ2 BK501.out
           have p503 : 0 ≤ (((rd_T41 l0_5 x4_1).f0) : Int) := of_decide_eq_true ‹_›
           have q503 : ((rd_T41 l0_5 x4_1).f0) < (l0_1.length : Int) := of_decide_eq_true ‹_›
           obtain ⟨ad503, e503, hx503_0⟩ := Kd.at_int HR0_1.out ((rd_T41 l0_5 x4_1).f0) p503 q503
           cases e503
           replace hx503_0 := pw_cell_below HB.out hx503_0
           replace p503 := eq_true p503
           replace q503 := eq_true q503
           go_wp2_with (first | (go_at_call 69; (with_reducible refine (pleatref02_Target.calls kj4 (rd l0_1 ((rd_T41 l0_5 x4_1).f0)) t504 false _ A42.out).mono ?_); rintro e w56 ⟨rfl, hb⟩; replace BK499 := Aside0.mk (bbQ hb BK499.out); replace BK501 := Aside0.mk (bbQ hb BK501.out); replace HB := Aside0.mk (bs1Q hb (by repeat with_reducible first | exact HB.out | apply pw_below_drewN | apply below_drew1 | refine below_set ?_ GE499.out | refine below_set ?_ GE501.out)); (try clear hb); (try clear hb2); (try clear hk); (try clear hi)))
           repeat (go_quiet (first | (go_at_call 69; (with_reducible refine (pleatref02_Target.calls kj4 (rd l0_1 ((rd_T41 l0_5 x4_1).f0)) t504 false _ A42.out).mono ?_); rintro e w56 ⟨rfl, hb⟩; replace BK499 := Aside0.mk (bbQ hb BK499.out); replace BK501 := Aside0.mk (bbQ hb BK501.out); replace HB := Aside0.mk (bs1Q hb (by repeat with_reducible first | exact HB.out | apply pw_below_drewN | apply below_drew1 | refine below_set ?_ GE499.out | refine below_set ?_ GE501.out)); (try clear hb); (try clear hb2); (try clear hk); (try clear hi))); try go_wp2_with (first | (go_at_call 69; (with_reducible refine (pleatref02_Target.calls kj4 (rd l0_1 ((rd_T41 l0_5 x4_1).f0)) t504 false _ A42.out).mono ?_); rintro e w56 ⟨rfl, hb⟩; replace BK499 := Aside0.mk (bbQ hb BK499.out); replace BK501 := Aside0.mk (bbQ hb BK501.out); replace HB := Aside0.mk (bs1Q hb (by repeat with_reducible first | exact HB.out | apply pw_below_drewN | apply below_drew1 | refine below_set ?_ GE499.out | refine below_set ?_ GE501.out)); (try clear hb); (try clear hb2); (try clear hk); (try clear hi))))
           go_ret2
           exact ⟨by first | rfl | (simp [errW_none, errW_some] <;> rfl) | (simp [*, errW_none, errW_some] <;> rfl), by repeat with_reducible first | exact HB.out | apply pw_below_drewN | apply below_drew1 | refine below_set ?_ GE499.out | refine below_set ?_ GE501.out⟩
         ·
          rw [if_neg c41] at H
          exact absurd H (by simp)
        ·
         rw [if_neg c40] at H
         exact absurd H (by simp)
    ·
     rw [if_neg c4] at H
     exact absurd H (by simp)
   ·
    rw [if_neg c3] at H
    have c3b0 : decide (x4_1 < (l0_5.length : Int)) = false := decide_eq_false c3
    clear c3
    simp only [Option.some.injEq, Prod.mk.injEq] at H
    obtain ⟨rfl, rfl⟩ := H
    obtain ⟨hcz57_0, hcz57_1, hcz57_2, hcz57_3, hcz57_4, hcz57_5⟩ := bcQ6 BK499.out
    obtain ⟨hfz57_0, hfz57_1, hfz57_2, hfz57_3, hfz57_4, hfz57_5⟩ := fzQ6 BK499.out
    go_wp2
    repeat (go_quiet (fail); try go_wp2)
    go_ret2
    exact ⟨by first | rfl | (simp [errW_none, errW_some] <;> rfl) | (simp [*, errW_none, errW_some] <;> rfl), by repeat with_reducible first | exact HB.out | apply pw_below_drewN | apply below_drew1 | refine below_set ?_ GE499.out⟩
end Go.Proofs.Ytiaohbbafaaibab.P

/- What the Go functions named below come to, as plain functions, each with its proof; written by this session's prt.py over the kit's print. -/
namespace Go.Proofs.Ytiaohbbafaaibab.P
open Go.RowKit Go.Proofs.YtiaohbbafaaibabW.PrintWords Go.Proofs.YtiaohbbafaaibabW.PrintLast Go.Proofs.YtiaohbbafaaibabW.PrintMore
attribute [local go_sem] max2_int min2_int max_two min_two max_three min_three max_four min_four   -- for this text's walks alone
set_option linter.unusedVariables false
set_option linter.unusedSimpArgs false
/-! ### pleatref03_Check: function 55 -/
def pleatref03_Check.l0 : Nat → Int → ByteArray → List Int → Int → List Int → List (S37) → List (S41) → Option (Int × Int)
 | 0, _, _, _, _, _, _, _ => none
 | k + 1, x6, x507000, x507001, x507002, x507003, x507004, x507005 => if x6 < (x507001.length : Int) then (if 0 ≤ x6 then ((pleatref02_Target.f k (rd x507001 x6)).bind fun bt514 => (if bt514.2 = true then (if bt514.1 > (x507001.length : Int) then (some (22, wrap64 ((-1) - x6))) else (pleatref03_Check.l0 k (wrap64 (x6 + 1)) x507000 x507001 x507002 x507003 x507004 x507005)) else (pleatref03_Check.l0 k (wrap64 (x6 + 1)) x507000 x507001 x507002 x507003 x507004 x507005))) else (none)) else (some (0, 0))
def pleatref03_Check.f (k : Nat) (a0_0 : ByteArray) (l0_1 : List Int) (a0_2 : Int) (l0_3 : List Int) (l0_4 : List (S37)) (l0_5 : List (S41)) : Option (Int × Int) := (pleatref03_size.f k a0_0 l0_1 a0_2 l0_3 l0_4 l0_5).bind fun bt507 => (if bt507.1 = 0 then ((pleatref03_symbols.f k a0_0 l0_1 a0_2 l0_3 l0_4 l0_5).bind fun bt509 => (if bt509.1 = 0 then ((pleatref03_relocs.f k a0_0 l0_1 a0_2 l0_3 l0_4 l0_5).bind fun bt511 => (if bt511.1 = 0 then (pleatref03_Check.l0 k 0 a0_0 l0_1 a0_2 l0_3 l0_4 l0_5) else (some (bt511.1, bt511.2)))) else (some (bt509.1, bt509.2)))) else (some (bt507.1, bt507.2)))
theorem pleatref03_Check.mono_l : ∀ k, (∀ y0 y1 y2 y3 y4 y5 y6, LeO (pleatref03_Check.l0 k y0 y1 y2 y3 y4 y5 y6) (pleatref03_Check.l0 (k + 1) y0 y1 y2 y3 y4 y5 y6))
 | 0 => fun _ _ _ _ _ _ _ r h => by simp [pleatref03_Check.l0] at h
 | k + 1 => by
  have ih0 := pleatref03_Check.mono_l k
  ·
   intro y0 y1 y2 y3 y4 y5 y6
   unfold pleatref03_Check.l0
   repeat' first
   | (with_reducible first | exact ih0 _ _ _ _ _ _ _ | exact pleatref02_Target.mono _ _ | exact pleatref03_relocs.mono _ _ _ _ _ _ _ | exact pleatref03_size.mono _ _ _ _ _ _ _ | exact pleatref03_symbols.mono _ _ _ _ _ _ _ | exact LeO.refl _ | exact LeO.none _ | refine LeO.ite ?_ ?_ | refine LeO.bind ?_ (fun _ => ?_))
theorem pleatref03_Check.mono : ∀ a0 a1 a2 a3 a4 a5 k, LeO (pleatref03_Check.f k a0 a1 a2 a3 a4 a5) (pleatref03_Check.f (k + 1) a0 a1 a2 a3 a4 a5) := by
 intro a0 a1 a2 a3 a4 a5 k
 have ih0 := pleatref03_Check.mono_l k
 unfold pleatref03_Check.f
 repeat' first
   | (with_reducible first | exact ih0 _ _ _ _ _ _ _ | exact pleatref02_Target.mono _ _ | exact pleatref03_relocs.mono _ _ _ _ _ _ _ | exact pleatref03_size.mono _ _ _ _ _ _ _ | exact pleatref03_symbols.mono _ _ _ _ _ _ _ | exact LeO.refl _ | exact LeO.none _ | refine LeO.ite ?_ ?_ | refine LeO.bind ?_ (fun _ => ?_))
set_option maxHeartbeats 8000000 in
set_option maxRecDepth 100000 in
theorem pleatref03_Check.calls (k : Nat) (a0_0 : ByteArray) (A0_1 : Option Addr) (c0_1 : Nat) (l0_1 : List Int) (a0_2 : Int) (A0_3 : Option Addr) (c0_3 : Nat) (l0_3 : List Int) (A0_4 : Option Addr) (c0_4 : Nat) (l0_4 : List (S37)) (A0_5 : Option Addr) (c0_5 : Nat) (l0_5 : List (S41)) (r1 : Int) (r2 : Int) (w : World) (hr0_1 : Kd.C (Kd.int .u32) w A0_1 l0_1.length l0_1) (hc0_1 : l0_1.length ≤ c0_1) (hr0_3 : Kd.C (Kd.int .i64) w A0_3 l0_3.length l0_3) (hc0_3 : l0_3.length ≤ c0_3) (hr0_4 : Kd.C k37 w A0_4 l0_4.length l0_4) (hc0_4 : l0_4.length ≤ c0_4) (hr0_5 : Kd.C k41 w A0_5 l0_5.length l0_5) (hc0_5 : l0_5.length ≤ c0_5) (h : pleatref03_Check.f k a0_0 l0_1 a0_2 l0_3 l0_4 l0_5 = some (r1, r2)) :
  Calls Try.prog 55 #[.agg #[.string a0_0, .slice A0_1 l0_1.length c0_1, .int .i64 a0_2, .slice A0_3 l0_3.length c0_3, .slice A0_4 l0_4.length c0_4, .slice A0_5 l0_5.length c0_5]] w fun e w' => e = .returned (.tuple #[.int .i64 r1, .int .i64 r2]) ∧ Below w.heap.size w w' := by
 have hu27 := Try.underlying27
 have HR0_1 := Aside0.mk hr0_1
 have HC0_1 := Aside0.mk hc0_1
 clear hr0_1 hc0_1
 have HR0_3 := Aside0.mk hr0_3
 have HC0_3 := Aside0.mk hc0_3
 clear hr0_3 hc0_3
 have HR0_4 := Aside0.mk hr0_4
 have HC0_4 := Aside0.mk hc0_4
 clear hr0_4 hc0_4
 have HR0_5 := Aside0.mk hr0_5
 have HC0_5 := Aside0.mk hc0_5
 clear hr0_5 hc0_5
 have HB := Aside0.mk (Below.refl w.heap.size w)
 have H : ((pleatref03_size.f k a0_0 l0_1 a0_2 l0_3 l0_4 l0_5).bind fun bt507 => (if bt507.1 = 0 then ((pleatref03_symbols.f k a0_0 l0_1 a0_2 l0_3 l0_4 l0_5).bind fun bt509 => (if bt509.1 = 0 then ((pleatref03_relocs.f k a0_0 l0_1 a0_2 l0_3 l0_4 l0_5).bind fun bt511 => (if bt511.1 = 0 then (pleatref03_Check.l0 k 0 a0_0 l0_1 a0_2 l0_3 l0_4 l0_5) else (some (bt511.1, bt511.2)))) else (some (bt509.1, bt509.2)))) else (some (bt507.1, bt507.2)))) = some (r1, r2) := h
 clear h
 replace H := Option.bind_eq_some_iff.mp H
 obtain ⟨⟨t507, t508⟩, A20, H⟩ := H
 try dsimp only at H
 have A2 := Aside0.mk A20
 clear A20
 by_cases c3 : t507 = 0
 ·
  rw [if_pos c3] at H
  have c3b0 : (t507 == 0) = true := beq_iff_eq.mpr c3
  have c3b1 : (t507 != 0) = false := bne_eq_false_iff_eq.mpr c3
  clear c3
  replace H := Option.bind_eq_some_iff.mp H
  obtain ⟨⟨t509, t510⟩, A40, H⟩ := H
  try dsimp only at H
  have A4 := Aside0.mk A40
  clear A40
  by_cases c5 : t509 = 0
  ·
   rw [if_pos c5] at H
   have c5b0 : (t509 == 0) = true := beq_iff_eq.mpr c5
   have c5b1 : (t509 != 0) = false := bne_eq_false_iff_eq.mpr c5
   clear c5
   replace H := Option.bind_eq_some_iff.mp H
   obtain ⟨⟨t511, t512⟩, A60, H⟩ := H
   try dsimp only at H
   have A6 := Aside0.mk A60
   clear A60
   by_cases c7 : t511 = 0
   ·
    rw [if_pos c7] at H
    have c7b0 : (t511 == 0) = true := beq_iff_eq.mpr c7
    have c7b1 : (t511 != 0) = false := bne_eq_false_iff_eq.mpr c7
    clear c7
    have H' := Aside0.mk H
    clear H
    go_enter Try.func55, Try.ntmps55
    go_wp2_with (first | ((with_reducible refine gate_dst (N := 1) rfl ?_); (try (refine gate_guard (by rfl) ?_; dsimp only)); refine box_event ?hg (N := 1) ?hd (cs := #[.string a0_0, .slice A0_1 l0_1.length c0_1, .int .i64 a0_2, .slice A0_3 l0_3.length c0_3, .slice A0_4 l0_4.length c0_4, .slice A0_5 l0_5.length c0_5]) (t := 27) ?hr ?_; (case hd => rfl); (case hg => rfl); (case hr => go_simp; try rfl); intro gb506 hg w8 hbox hb; have BK506 := Aside0.mk (hbox); have GW506 := Aside0.mk (gwQ hg HB.out); have GE506 := Aside0.mk (gwQ hg HB.out); replace HB := Aside0.mk (bsQ hb HB.out); clear hb hbox hg; obtain ⟨hcz9_0, hcz9_1, hcz9_2, hcz9_3, hcz9_4, hcz9_5⟩ := bcQ6 BK506.out; obtain ⟨hfz9_0, hfz9_1, hfz9_2, hfz9_3, hfz9_4, hfz9_5⟩ := fzQ6 BK506.out) | ((with_reducible refine gate_callee (f := 66) rfl ?_); refine goesL_ (some 11) rfl rfl Try.func66 (by kernel_rfl) rfl #[.agg #[.string a0_0, .slice A0_1 l0_1.length c0_1, .int .i64 a0_2, .slice A0_3 l0_3.length c0_3, .slice A0_4 l0_4.length c0_4, .slice A0_5 l0_5.length c0_5]] rfl (by (try simp only [List.map_toArray, List.map_cons, List.map_nil]); try rfl) ?_; (with_reducible refine (pleatref03_size.calls k a0_0 _ _ l0_1 a0_2 _ _ l0_3 _ _ l0_4 _ _ l0_5 t507 t508 _ ?side1 ?side2 ?side3 ?side4 ?side5 ?side6 ?side7 ?side8 A2.out).mono ?_); (case side1 => exact cbQ HB.out HR0_1.out); (case side2 => exact HC0_1.out); (case side3 => exact cbQ HB.out HR0_3.out); (case side4 => exact HC0_3.out); (case side5 => exact cbQ HB.out HR0_4.out); (case side6 => exact HC0_4.out); (case side7 => exact cbQ HB.out HR0_5.out); (case side8 => exact HC0_5.out); rintro e w10 ⟨rfl, hb⟩; refine ⟨_, rfl, ?_⟩; replace BK506 := Aside0.mk (bbQ hb BK506.out); replace HB := Aside0.mk (bs1Q hb (by repeat with_reducible first | exact HB.out | apply pw_below_drewN | apply below_drew1 | refine below_set ?_ GE506.out)); (try clear hb); (try clear hb2); (try clear hk); (try clear hi); obtain ⟨hcz11_0, hcz11_1, hcz11_2, hcz11_3, hcz11_4, hcz11_5⟩ := bcQ6 BK506.out; obtain ⟨hfz11_0, hfz11_1, hfz11_2, hfz11_3, hfz11_4, hfz11_5⟩ := fzQ6 BK506.out) | ((with_reducible refine gate_callee (f := 67) rfl ?_); refine goesL_ (some 20) rfl rfl Try.func67 (by kernel_rfl) rfl #[.agg #[.string a0_0, .slice A0_1 l0_1.length c0_1, .int .i64 a0_2, .slice A0_3 l0_3.length c0_3, .slice A0_4 l0_4.length c0_4, .slice A0_5 l0_5.length c0_5]] rfl (by (try simp only [List.map_toArray, List.map_cons, List.map_nil]); try rfl) ?_; (with_reducible refine (pleatref03_symbols.calls k a0_0 _ _ l0_1 a0_2 _ _ l0_3 _ _ l0_4 _ _ l0_5 t509 t510 _ ?side1 ?side2 ?side3 ?side4 ?side5 ?side6 ?side7 ?side8 A4.out).mono ?_); (case side1 => exact cbQ HB.out HR0_1.out); (case side2 => exact HC0_1.out); (case side3 => exact cbQ HB.out HR0_3.out); (case side4 => exact HC0_3.out); (case side5 => exact cbQ HB.out HR0_4.out); (case side6 => exact HC0_4.out); (case side7 => exact cbQ HB.out HR0_5.out); (case side8 => exact HC0_5.out); rintro e w12 ⟨rfl, hb⟩; refine ⟨_, rfl, ?_⟩; replace BK506 := Aside0.mk (bbQ hb BK506.out); replace HB := Aside0.mk (bs1Q hb (by repeat with_reducible first | exact HB.out | apply pw_below_drewN | apply below_drew1 | refine below_set ?_ GE506.out)); (try clear hb); (try clear hb2); (try clear hk); (try clear hi); obtain ⟨hcz13_0, hcz13_1, hcz13_2, hcz13_3, hcz13_4, hcz13_5⟩ := bcQ6 BK506.out; obtain ⟨hfz13_0, hfz13_1, hfz13_2, hfz13_3, hfz13_4, hfz13_5⟩ := fzQ6 BK506.out) | ((with_reducible refine gate_callee (f := 68) rfl ?_); refine goesL_ (some 29) rfl rfl Try.func68 (by kernel_rfl) rfl #[.agg #[.string a0_0, .slice A0_1 l0_1.length c0_1, .int .i64 a0_2, .slice A0_3 l0_3.length c0_3, .slice A0_4 l0_4.length c0_4, .slice A0_5 l0_5.length c0_5]] rfl (by (try simp only [List.map_toArray, List.map_cons, List.map_nil]); try rfl) ?_; (with_reducible refine (pleatref03_relocs.calls k a0_0 _ _ l0_1 a0_2 _ _ l0_3 _ _ l0_4 _ _ l0_5 t511 t512 _ ?side1 ?side2 ?side3 ?side4 ?side5 ?side6 ?side7 ?side8 A6.out).mono ?_); (case side1 => exact cbQ HB.out HR0_1.out); (case side2 => exact HC0_1.out); (case side3 => exact cbQ HB.out HR0_3.out); (case side4 => exact HC0_3.out); (case side5 => exact cbQ HB.out HR0_4.out); (case side6 => exact HC0_4.out); (case side7 => exact cbQ HB.out HR0_5.out); (case side8 => exact HC0_5.out); rintro e w14 ⟨rfl, hb⟩; refine ⟨_, rfl, ?_⟩; replace BK506 := Aside0.mk (bbQ hb BK506.out); replace HB := Aside0.mk (bs1Q hb (by repeat with_reducible first | exact HB.out | apply pw_below_drewN | apply below_drew1 | refine below_set ?_ GE506.out)); (try clear hb); (try clear hb2); (try clear hk); (try clear hi)))
    go_loopg [6] k (fun kq v6 w' => ∃ (x6_1 : Int), v6 = .int .i64 x6_1 ∧ Aside0 (pleatref03_Check.l0 kq x6_1 a0_0 l0_1 a0_2 l0_3 l0_4 l0_5 = some (r1, r2)) ∧ Aside0 (kq ≤ k) ∧ Aside0 (w'.heap[gb506]? = some (.cells #[.string a0_0, (.slice A0_1 l0_1.length c0_1), .int .i64 a0_2, (.slice A0_3 l0_3.length c0_3), (.slice A0_4 l0_4.length c0_4), (.slice A0_5 l0_5.length c0_5)] 27 (0, 0))) ∧ Aside0 (Below w.heap.size w w'))
    case atStart => exact ⟨(0), (by first | rfl | (simp; done) | (simp [*]; done)), H', ⟨Nat.le_refl _⟩, ⟨by exact BK506.out⟩, ⟨by repeat with_reducible first | exact HB.out | apply pw_below_drewN | apply below_drew1 | refine below_set ?_ GE506.out⟩⟩
    case round =>
     clear H'
     try clear p2
     try clear c3
     try clear c3b0
     try clear c3b1
     try clear c5
     try clear c5b0
     try clear c5b1
     try clear c6
     try clear c7
     try clear c7b0
     try clear c7b1
     try clear hcz11_0 hcz11_1 hcz11_2 hcz11_3 hcz11_4 hcz11_5
     try clear hcz13_0 hcz13_1 hcz13_2 hcz13_3 hcz13_4 hcz13_5
     try clear hcz9_0 hcz9_1 hcz9_2 hcz9_3 hcz9_4 hcz9_5
     try clear hfz11_0 hfz11_1 hfz11_2 hfz11_3 hfz11_4 hfz11_5
     try clear hfz13_0 hfz13_1 hfz13_2 hfz13_3 hfz13_4 hfz13_5
     try clear hfz9_0 hfz9_1 hfz9_2 hfz9_3 hfz9_4 hfz9_5
     obtain ⟨x6_1, rfl, HA, HK1, BK506, HB⟩ := hrel
     cases gk with
     | zero => exact absurd HA.out (by simp [pleatref03_Check.l0])
     | succ k1 =>
      have H := HA.out
      clear HA
      simp only [pleatref03_Check.l0] at H
      by_cases c15 : x6_1 < (l0_1.length : Int)
      ·
       rw [if_pos c15] at H
       have c15b0 : decide (x6_1 < (l0_1.length : Int)) = true := decide_eq_true c15
       clear c15
       by_cases c16 : 0 ≤ x6_1
       ·
        rw [if_pos c16] at H
        have c16b0 : decide (0 ≤ x6_1) = true := decide_eq_true c16
        clear c16
        replace H := Option.bind_eq_some_iff.mp H
        obtain ⟨⟨t514, t515⟩, A170, H⟩ := H
        try dsimp only at H
        have A17 := Aside0.mk A170
        clear A170
        by_cases c18 : t515 = true
        ·
         subst c18
         rw [if_pos rfl] at H
         by_cases c19 : t514 > (l0_1.length : Int)
         ·
          rw [if_pos c19] at H
          have c19b0 : decide ((l0_1.length : Int) < t514) = true := decide_eq_true c19
          clear c19
          simp only [Option.some.injEq, Prod.mk.injEq] at H
          obtain ⟨rfl, rfl⟩ := H
          obtain ⟨hcz20_0, hcz20_1, hcz20_2, hcz20_3, hcz20_4, hcz20_5⟩ := bcQ6 BK506.out
          obtain ⟨hfz20_0, hfz20_1, hfz20_2, hfz20_3, hfz20_4, hfz20_5⟩ := fzQ6 BK506.out
          have p513 : 0 ≤ (x6_1 : Int) := of_decide_eq_true ‹_›
          have q513 : x6_1 < (l0_1.length : Int) := of_decide_eq_true ‹_›
          obtain ⟨ad513, e513, hx513_0⟩ := Kd.at_int HR0_1.out x6_1 p513 q513
          cases e513
          replace hx513_0 := pw_cell_below HB.out hx513_0
          replace p513 := eq_true p513
          replace q513 := eq_true q513
          go_wp2_with (first | ((with_reducible refine gate_callee (f := 69) rfl ?_); refine goesL_ (some 49) rfl rfl Try.func69 (by kernel_rfl) rfl #[.int .u32 (rd l0_1 x6_1)] rfl (by (try simp only [List.map_toArray, List.map_cons, List.map_nil]); try rfl) ?_; (with_reducible refine (pleatref02_Target.calls k1 (rd l0_1 x6_1) t514 true _ A17.out).mono ?_); rintro e w21 ⟨rfl, hb⟩; refine ⟨_, rfl, ?_⟩; replace BK506 := Aside0.mk (bbQ hb BK506.out); replace HB := Aside0.mk (bs1Q hb (by repeat with_reducible first | exact HB.out | apply pw_below_drewN | apply below_drew1 | refine below_set ?_ GE506.out)); (try clear hb); (try clear hb2); (try clear hk); (try clear hi); obtain ⟨hcz22_0, hcz22_1, hcz22_2, hcz22_3, hcz22_4, hcz22_5⟩ := bcQ6 BK506.out; obtain ⟨hfz22_0, hfz22_1, hfz22_2, hfz22_3, hfz22_4, hfz22_5⟩ := fzQ6 BK506.out))
          go_ret2
          exact ⟨by first | rfl | (simp [errW_none, errW_some] <;> rfl) | (simp [*, errW_none, errW_some] <;> rfl), by repeat with_reducible first | exact HB.out | apply pw_below_drewN | apply below_drew1 | refine below_set ?_ GE506.out⟩
         ·
          rw [if_neg c19] at H
          have c19b0 : decide ((l0_1.length : Int) < t514) = false := decide_eq_false c19
          clear c19
          have H' := Aside0.mk H
          clear H
          obtain ⟨hcz23_0, hcz23_1, hcz23_2, hcz23_3, hcz23_4, hcz23_5⟩ := bcQ6 BK506.out
          obtain ⟨hfz23_0, hfz23_1, hfz23_2, hfz23_3, hfz23_4, hfz23_5⟩ := fzQ6 BK506.out
          have p513 : 0 ≤ (x6_1 : Int) := of_decide_eq_true ‹_›
          have q513 : x6_1 < (l0_1.length : Int) := of_decide_eq_true ‹_›
          obtain ⟨ad513, e513, hx513_0⟩ := Kd.at_int HR0_1.out x6_1 p513 q513
          cases e513
          replace hx513_0 := pw_cell_below HB.out hx513_0
          replace p513 := eq_true p513
          replace q513 := eq_true q513
          go_wp2_with (first | ((with_reducible refine gate_callee (f := 69) rfl ?_); refine goesL_ (some 49) rfl rfl Try.func69 (by kernel_rfl) rfl #[.int .u32 (rd l0_1 x6_1)] rfl (by (try simp only [List.map_toArray, List.map_cons, List.map_nil]); try rfl) ?_; (with_reducible refine (pleatref02_Target.calls k1 (rd l0_1 x6_1) t514 true _ A17.out).mono ?_); rintro e w24 ⟨rfl, hb⟩; refine ⟨_, rfl, ?_⟩; replace BK506 := Aside0.mk (bbQ hb BK506.out); replace HB := Aside0.mk (bs1Q hb (by repeat with_reducible first | exact HB.out | apply pw_below_drewN | apply below_drew1 | refine below_set ?_ GE506.out)); (try clear hb); (try clear hb2); (try clear hk); (try clear hi); obtain ⟨hcz25_0, hcz25_1, hcz25_2, hcz25_3, hcz25_4, hcz25_5⟩ := bcQ6 BK506.out; obtain ⟨hfz25_0, hfz25_1, hfz25_2, hfz25_3, hfz25_4, hfz25_5⟩ := fzQ6 BK506.out))
          go_roundg k1
          case measure => have := HK1.out; omega
          case rel => exact ⟨(wrap64 (x6_1 + 1)), (by first | rfl | (simp; done) | (simp [*]; done)), H', ⟨by have := HK1.out; omega⟩, ⟨by exact BK506.out⟩, ⟨by repeat with_reducible first | exact HB.out | apply pw_below_drewN | apply below_drew1 | refine below_set ?_ GE506.out⟩⟩
        ·
         replace c18 := Bool.eq_false_iff.mpr c18
         subst c18
         rw [if_neg Bool.false_ne_true] at H
         have H' := Aside0.mk H
         clear H
         obtain ⟨hcz26_0, hcz26_1, hcz26_2, hcz26_3, hcz26_4, hcz26_5⟩ := bcQ6 BK506.out
         obtain ⟨hfz26_0, hfz26_1, hfz26_2, hfz26_3, hfz26_4, hfz26_5⟩ := fzQ6 BK506.out
         have p513 : 0 ≤ (x6_1 : Int) := of_decide_eq_true ‹_›
         have q513 : x6_1 < (l0_1.length : Int) := of_decide_eq_true ‹_›
         obtain ⟨ad513, e513, hx513_0⟩ := Kd.at_int HR0_1.out x6_1 p513 q513
         cases e513
         replace hx513_0 := pw_cell_below HB.out hx513_0
         replace p513 := eq_true p513
         replace q513 := eq_true q513
         go_wp2_with (first | ((with_reducible refine gate_callee (f := 69) rfl ?_); refine goesL_ (some 49) rfl rfl Try.func69 (by kernel_rfl) rfl #[.int .u32 (rd l0_1 x6_1)] rfl (by (try simp only [List.map_toArray, List.map_cons, List.map_nil]); try rfl) ?_; (with_reducible refine (pleatref02_Target.calls k1 (rd l0_1 x6_1) t514 false _ A17.out).mono ?_); rintro e w27 ⟨rfl, hb⟩; refine ⟨_, rfl, ?_⟩; replace BK506 := Aside0.mk (bbQ hb BK506.out); replace HB := Aside0.mk (bs1Q hb (by repeat with_reducible first | exact HB.out | apply pw_below_drewN | apply below_drew1 | refine below_set ?_ GE506.out)); (try clear hb); (try clear hb2); (try clear hk); (try clear hi)))
         go_roundg k1
         case measure => have := HK1.out; omega
         case rel => exact ⟨(wrap64 (x6_1 + 1)), (by first | rfl | (simp; done) | (simp [*]; done)), H', ⟨by have := HK1.out; omega⟩, ⟨by exact BK506.out⟩, ⟨by repeat with_reducible first | exact HB.out | apply pw_below_drewN | apply below_drew1 | refine below_set ?_ GE506.out⟩⟩
       ·
        rw [if_neg c16] at H
        exact absurd H (by simp)
      ·
       rw [if_neg c15] at H
       have c15b0 : decide (x6_1 < (l0_1.length : Int)) = false := decide_eq_false c15
       clear c15
       simp only [Option.some.injEq, Prod.mk.injEq] at H
       obtain ⟨rfl, rfl⟩ := H
       obtain ⟨hcz28_0, hcz28_1, hcz28_2, hcz28_3, hcz28_4, hcz28_5⟩ := bcQ6 BK506.out
       obtain ⟨hfz28_0, hfz28_1, hfz28_2, hfz28_3, hfz28_4, hfz28_5⟩ := fzQ6 BK506.out
       go_wp2
       go_ret2
       exact ⟨by first | rfl | (simp [errW_none, errW_some] <;> rfl) | (simp [*, errW_none, errW_some] <;> rfl), by repeat with_reducible first | exact HB.out | apply pw_below_drewN | apply below_drew1 | refine below_set ?_ GE506.out⟩
   ·
    rw [if_neg c7] at H
    have c7b0 : (t511 == 0) = false := beq_eq_false_iff_ne.mpr c7
    have c7b1 : (t511 != 0) = true := bne_iff_ne.mpr c7
    simp only [Option.some.injEq, Prod.mk.injEq] at H
    obtain ⟨rfl, rfl⟩ := H
    go_enter Try.func55, Try.ntmps55
    go_wp2_with (first | ((with_reducible refine gate_dst (N := 1) rfl ?_); (try (refine gate_guard (by rfl) ?_; dsimp only)); refine box_event ?hg (N := 1) ?hd (cs := #[.string a0_0, .slice A0_1 l0_1.length c0_1, .int .i64 a0_2, .slice A0_3 l0_3.length c0_3, .slice A0_4 l0_4.length c0_4, .slice A0_5 l0_5.length c0_5]) (t := 27) ?hr ?_; (case hd => rfl); (case hg => rfl); (case hr => go_simp; try rfl); intro gb506 hg w29 hbox hb; have BK506 := Aside0.mk (hbox); have GW506 := Aside0.mk (gwQ hg HB.out); have GE506 := Aside0.mk (gwQ hg HB.out); replace HB := Aside0.mk (bsQ hb HB.out); clear hb hbox hg; obtain ⟨hcz30_0, hcz30_1, hcz30_2, hcz30_3, hcz30_4, hcz30_5⟩ := bcQ6 BK506.out; obtain ⟨hfz30_0, hfz30_1, hfz30_2, hfz30_3, hfz30_4, hfz30_5⟩ := fzQ6 BK506.out) | ((with_reducible refine gate_callee (f := 66) rfl ?_); refine goesL_ (some 11) rfl rfl Try.func66 (by kernel_rfl) rfl #[.agg #[.string a0_0, .slice A0_1 l0_1.length c0_1, .int .i64 a0_2, .slice A0_3 l0_3.length c0_3, .slice A0_4 l0_4.length c0_4, .slice A0_5 l0_5.length c0_5]] rfl (by (try simp only [List.map_toArray, List.map_cons, List.map_nil]); try rfl) ?_; (with_reducible refine (pleatref03_size.calls k a0_0 _ _ l0_1 a0_2 _ _ l0_3 _ _ l0_4 _ _ l0_5 t507 t508 _ ?side1 ?side2 ?side3 ?side4 ?side5 ?side6 ?side7 ?side8 A2.out).mono ?_); (case side1 => exact cbQ HB.out HR0_1.out); (case side2 => exact HC0_1.out); (case side3 => exact cbQ HB.out HR0_3.out); (case side4 => exact HC0_3.out); (case side5 => exact cbQ HB.out HR0_4.out); (case side6 => exact HC0_4.out); (case side7 => exact cbQ HB.out HR0_5.out); (case side8 => exact HC0_5.out); rintro e w31 ⟨rfl, hb⟩; refine ⟨_, rfl, ?_⟩; replace BK506 := Aside0.mk (bbQ hb BK506.out); replace HB := Aside0.mk (bs1Q hb (by repeat with_reducible first | exact HB.out | apply pw_below_drewN | apply below_drew1 | refine below_set ?_ GE506.out)); (try clear hb); (try clear hb2); (try clear hk); (try clear hi); obtain ⟨hcz32_0, hcz32_1, hcz32_2, hcz32_3, hcz32_4, hcz32_5⟩ := bcQ6 BK506.out; obtain ⟨hfz32_0, hfz32_1, hfz32_2, hfz32_3, hfz32_4, hfz32_5⟩ := fzQ6 BK506.out) | ((with_reducible refine gate_callee (f := 67) rfl ?_); refine goesL_ (some 20) rfl rfl Try.func67 (by kernel_rfl) rfl #[.agg #[.string a0_0, .slice A0_1 l0_1.length c0_1, .int .i64 a0_2, .slice A0_3 l0_3.length c0_3, .slice A0_4 l0_4.length c0_4, .slice A0_5 l0_5.length c0_5]] rfl (by (try simp only [List.map_toArray, List.map_cons, List.map_nil]); try rfl) ?_; (with_reducible refine (pleatref03_symbols.calls k a0_0 _ _ l0_1 a0_2 _ _ l0_3 _ _ l0_4 _ _ l0_5 t509 t510 _ ?side1 ?side2 ?side3 ?side4 ?side5 ?side6 ?side7 ?side8 A4.out).mono ?_); (case side1 => exact cbQ HB.out HR0_1.out); (case side2 => exact HC0_1.out); (case side3 => exact cbQ HB.out HR0_3.out); (case side4 => exact HC0_3.out); (case side5 => exact cbQ HB.out HR0_4.out); (case side6 => exact HC0_4.out); (case side7 => exact cbQ HB.out HR0_5.out); (case side8 => exact HC0_5.out); rintro e w33 ⟨rfl, hb⟩; refine ⟨_, rfl, ?_⟩; replace BK506 := Aside0.mk (bbQ hb BK506.out); replace HB := Aside0.mk (bs1Q hb (by repeat with_reducible first | exact HB.out | apply pw_below_drewN | apply below_drew1 | refine below_set ?_ GE506.out)); (try clear hb); (try clear hb2); (try clear hk); (try clear hi); obtain ⟨hcz34_0, hcz34_1, hcz34_2, hcz34_3, hcz34_4, hcz34_5⟩ := bcQ6 BK506.out; obtain ⟨hfz34_0, hfz34_1, hfz34_2, hfz34_3, hfz34_4, hfz34_5⟩ := fzQ6 BK506.out) | ((with_reducible refine gate_callee (f := 68) rfl ?_); refine goesL_ (some 29) rfl rfl Try.func68 (by kernel_rfl) rfl #[.agg #[.string a0_0, .slice A0_1 l0_1.length c0_1, .int .i64 a0_2, .slice A0_3 l0_3.length c0_3, .slice A0_4 l0_4.length c0_4, .slice A0_5 l0_5.length c0_5]] rfl (by (try simp only [List.map_toArray, List.map_cons, List.map_nil]); try rfl) ?_; (with_reducible refine (pleatref03_relocs.calls k a0_0 _ _ l0_1 a0_2 _ _ l0_3 _ _ l0_4 _ _ l0_5 t511 t512 _ ?side1 ?side2 ?side3 ?side4 ?side5 ?side6 ?side7 ?side8 A6.out).mono ?_); (case side1 => exact cbQ HB.out HR0_1.out); (case side2 => exact HC0_1.out); (case side3 => exact cbQ HB.out HR0_3.out); (case side4 => exact HC0_3.out); (case side5 => exact cbQ HB.out HR0_4.out); (case side6 => exact HC0_4.out); (case side7 => exact cbQ HB.out HR0_5.out); (case side8 => exact HC0_5.out); rintro e w35 ⟨rfl, hb⟩; refine ⟨_, rfl, ?_⟩; replace BK506 := Aside0.mk (bbQ hb BK506.out); replace HB := Aside0.mk (bs1Q hb (by repeat with_reducible first | exact HB.out | apply pw_below_drewN | apply below_drew1 | refine below_set ?_ GE506.out)); (try clear hb); (try clear hb2); (try clear hk); (try clear hi)))
    go_ret2
    exact ⟨by first | rfl | (simp [errW_none, errW_some] <;> rfl) | (simp [*, errW_none, errW_some] <;> rfl), by repeat with_reducible first | exact HB.out | apply pw_below_drewN | apply below_drew1 | refine below_set ?_ GE506.out⟩
  ·
   rw [if_neg c5] at H
   have c5b0 : (t509 == 0) = false := beq_eq_false_iff_ne.mpr c5
   have c5b1 : (t509 != 0) = true := bne_iff_ne.mpr c5
   simp only [Option.some.injEq, Prod.mk.injEq] at H
   obtain ⟨rfl, rfl⟩ := H
   go_enter Try.func55, Try.ntmps55
   go_wp2_with (first | ((with_reducible refine gate_dst (N := 1) rfl ?_); (try (refine gate_guard (by rfl) ?_; dsimp only)); refine box_event ?hg (N := 1) ?hd (cs := #[.string a0_0, .slice A0_1 l0_1.length c0_1, .int .i64 a0_2, .slice A0_3 l0_3.length c0_3, .slice A0_4 l0_4.length c0_4, .slice A0_5 l0_5.length c0_5]) (t := 27) ?hr ?_; (case hd => rfl); (case hg => rfl); (case hr => go_simp; try rfl); intro gb506 hg w36 hbox hb; have BK506 := Aside0.mk (hbox); have GW506 := Aside0.mk (gwQ hg HB.out); have GE506 := Aside0.mk (gwQ hg HB.out); replace HB := Aside0.mk (bsQ hb HB.out); clear hb hbox hg; obtain ⟨hcz37_0, hcz37_1, hcz37_2, hcz37_3, hcz37_4, hcz37_5⟩ := bcQ6 BK506.out; obtain ⟨hfz37_0, hfz37_1, hfz37_2, hfz37_3, hfz37_4, hfz37_5⟩ := fzQ6 BK506.out) | ((with_reducible refine gate_callee (f := 66) rfl ?_); refine goesL_ (some 11) rfl rfl Try.func66 (by kernel_rfl) rfl #[.agg #[.string a0_0, .slice A0_1 l0_1.length c0_1, .int .i64 a0_2, .slice A0_3 l0_3.length c0_3, .slice A0_4 l0_4.length c0_4, .slice A0_5 l0_5.length c0_5]] rfl (by (try simp only [List.map_toArray, List.map_cons, List.map_nil]); try rfl) ?_; (with_reducible refine (pleatref03_size.calls k a0_0 _ _ l0_1 a0_2 _ _ l0_3 _ _ l0_4 _ _ l0_5 t507 t508 _ ?side1 ?side2 ?side3 ?side4 ?side5 ?side6 ?side7 ?side8 A2.out).mono ?_); (case side1 => exact cbQ HB.out HR0_1.out); (case side2 => exact HC0_1.out); (case side3 => exact cbQ HB.out HR0_3.out); (case side4 => exact HC0_3.out); (case side5 => exact cbQ HB.out HR0_4.out); (case side6 => exact HC0_4.out); (case side7 => exact cbQ HB.out HR0_5.out); (case side8 => exact HC0_5.out); rintro e w38 ⟨rfl, hb⟩; refine ⟨_, rfl, ?_⟩; replace BK506 := Aside0.mk (bbQ hb BK506.out); replace HB := Aside0.mk (bs1Q hb (by repeat with_reducible first | exact HB.out | apply pw_below_drewN | apply below_drew1 | refine below_set ?_ GE506.out)); (try clear hb); (try clear hb2); (try clear hk); (try clear hi); obtain ⟨hcz39_0, hcz39_1, hcz39_2, hcz39_3, hcz39_4, hcz39_5⟩ := bcQ6 BK506.out; obtain ⟨hfz39_0, hfz39_1, hfz39_2, hfz39_3, hfz39_4, hfz39_5⟩ := fzQ6 BK506.out) | ((with_reducible refine gate_callee (f := 67) rfl ?_); refine goesL_ (some 20) rfl rfl Try.func67 (by kernel_rfl) rfl #[.agg #[.string a0_0, .slice A0_1 l0_1.length c0_1, .int .i64 a0_2, .slice A0_3 l0_3.length c0_3, .slice A0_4 l0_4.length c0_4, .slice A0_5 l0_5.length c0_5]] rfl (by (try simp only [List.map_toArray, List.map_cons, List.map_nil]); try rfl) ?_; (with_reducible refine (pleatref03_symbols.calls k a0_0 _ _ l0_1 a0_2 _ _ l0_3 _ _ l0_4 _ _ l0_5 t509 t510 _ ?side1 ?side2 ?side3 ?side4 ?side5 ?side6 ?side7 ?side8 A4.out).mono ?_); (case side1 => exact cbQ HB.out HR0_1.out); (case side2 => exact HC0_1.out); (case side3 => exact cbQ HB.out HR0_3.out); (case side4 => exact HC0_3.out); (case side5 => exact cbQ HB.out HR0_4.out); (case side6 => exact HC0_4.out); (case side7 => exact cbQ HB.out HR0_5.out); (case side8 => exact HC0_5.out); rintro e w40 ⟨rfl, hb⟩; refine ⟨_, rfl, ?_⟩; replace BK506 := Aside0.mk (bbQ hb BK506.out); replace HB := Aside0.mk (bs1Q hb (by repeat with_reducible first | exact HB.out | apply pw_below_drewN | apply below_drew1 | refine below_set ?_ GE506.out)); (try clear hb); (try clear hb2); (try clear hk); (try clear hi)))
   go_ret2
   exact ⟨by first | rfl | (simp [errW_none, errW_some] <;> rfl) | (simp [*, errW_none, errW_some] <;> rfl), by repeat with_reducible first | exact HB.out | apply pw_below_drewN | apply below_drew1 | refine below_set ?_ GE506.out⟩
 ·
  rw [if_neg c3] at H
  have c3b0 : (t507 == 0) = false := beq_eq_false_iff_ne.mpr c3
  have c3b1 : (t507 != 0) = true := bne_iff_ne.mpr c3
  simp only [Option.some.injEq, Prod.mk.injEq] at H
  obtain ⟨rfl, rfl⟩ := H
  go_enter Try.func55, Try.ntmps55
  go_wp2_with (first | ((with_reducible refine gate_dst (N := 1) rfl ?_); (try (refine gate_guard (by rfl) ?_; dsimp only)); refine box_event ?hg (N := 1) ?hd (cs := #[.string a0_0, .slice A0_1 l0_1.length c0_1, .int .i64 a0_2, .slice A0_3 l0_3.length c0_3, .slice A0_4 l0_4.length c0_4, .slice A0_5 l0_5.length c0_5]) (t := 27) ?hr ?_; (case hd => rfl); (case hg => rfl); (case hr => go_simp; try rfl); intro gb506 hg w41 hbox hb; have BK506 := Aside0.mk (hbox); have GW506 := Aside0.mk (gwQ hg HB.out); have GE506 := Aside0.mk (gwQ hg HB.out); replace HB := Aside0.mk (bsQ hb HB.out); clear hb hbox hg; obtain ⟨hcz42_0, hcz42_1, hcz42_2, hcz42_3, hcz42_4, hcz42_5⟩ := bcQ6 BK506.out; obtain ⟨hfz42_0, hfz42_1, hfz42_2, hfz42_3, hfz42_4, hfz42_5⟩ := fzQ6 BK506.out) | ((with_reducible refine gate_callee (f := 66) rfl ?_); refine goesL_ (some 11) rfl rfl Try.func66 (by kernel_rfl) rfl #[.agg #[.string a0_0, .slice A0_1 l0_1.length c0_1, .int .i64 a0_2, .slice A0_3 l0_3.length c0_3, .slice A0_4 l0_4.length c0_4, .slice A0_5 l0_5.length c0_5]] rfl (by (try simp only [List.map_toArray, List.map_cons, List.map_nil]); try rfl) ?_; (with_reducible refine (pleatref03_size.calls k a0_0 _ _ l0_1 a0_2 _ _ l0_3 _ _ l0_4 _ _ l0_5 t507 t508 _ ?side1 ?side2 ?side3 ?side4 ?side5 ?side6 ?side7 ?side8 A2.out).mono ?_); (case side1 => exact cbQ HB.out HR0_1.out); (case side2 => exact HC0_1.out); (case side3 => exact cbQ HB.out HR0_3.out); (case side4 => exact HC0_3.out); (case side5 => exact cbQ HB.out HR0_4.out); (case side6 => exact HC0_4.out); (case side7 => exact cbQ HB.out HR0_5.out); (case side8 => exact HC0_5.out); rintro e w43 ⟨rfl, hb⟩; refine ⟨_, rfl, ?_⟩; replace BK506 := Aside0.mk (bbQ hb BK506.out); replace HB := Aside0.mk (bs1Q hb (by repeat with_reducible first | exact HB.out | apply pw_below_drewN | apply below_drew1 | refine below_set ?_ GE506.out)); (try clear hb); (try clear hb2); (try clear hk); (try clear hi)))
  go_ret2
  exact ⟨by first | rfl | (simp [errW_none, errW_some] <;> rfl) | (simp [*, errW_none, errW_some] <;> rfl), by repeat with_reducible first | exact HB.out | apply pw_below_drewN | apply below_drew1 | refine below_set ?_ GE506.out⟩


/-! ### pleatref08_check: function 43 -/
mutual
def pleatref08_check.l0 : Nat → List (S27) → Int → Option (Int × Int × Int)
 | 0, _, _ => none
 | k + 1, x0, x5 => if x5 < (x0.length : Int) then (if 0 ≤ x5 then ((pleatref03_Check.f k ((rd_T27 x0 x5).f0) ((rd_T27 x0 x5).f1) ((rd_T27 x0 x5).f2) ((rd_T27 x0 x5).f3) ((rd_T27 x0 x5).f4) ((rd_T27 x0 x5).f5)).bind fun bt517 => (if bt517.1 = 0 then (pleatref08_check.l1 k x0 x5 0) else (some (bt517.1, x5, bt517.2)))) else (none)) else (some (0, 0, 0))
def pleatref08_check.l1 : Nat → List (S27) → Int → Int → Option (Int × Int × Int)
 | 0, _, _, _ => none
 | k + 1, x0, x5, x8 => if x8 < x5 then (if 0 ≤ x8 then (if x8 < (x0.length : Int) then (if 0 ≤ x5 then (if x5 < (x0.length : Int) then (if ((rd_T27 x0 x8).f0).toList = ((rd_T27 x0 x5).f0).toList then (some (26, x5, (-1))) else (pleatref08_check.l1 k x0 x5 (wrap64 (x8 + 1)))) else (none)) else (none)) else (none)) else (none)) else (pleatref08_check.l0 k x0 (wrap64 (x5 + 1)))
end
def pleatref08_check.f (k : Nat) (l0 : List (S27)) : Option (Int × Int × Int) := if (l0.length : Int) > 32 then (some (21, 32, 0)) else (pleatref08_check.l0 k l0 0)
theorem pleatref08_check.mono_l : ∀ k, (∀ y0 y1, LeO (pleatref08_check.l0 k y0 y1) (pleatref08_check.l0 (k + 1) y0 y1)) ∧ (∀ y0 y1 y2, LeO (pleatref08_check.l1 k y0 y1 y2) (pleatref08_check.l1 (k + 1) y0 y1 y2))
 | 0 => ⟨fun _ _ r h => by simp [pleatref08_check.l0] at h, fun _ _ _ r h => by simp [pleatref08_check.l1] at h⟩
 | k + 1 => by
  obtain ⟨ih0, ih1⟩ := pleatref08_check.mono_l k
  refine ⟨?_, ?_⟩
  ·
   intro y0 y1
   unfold pleatref08_check.l0
   repeat' first
   | (with_reducible first | exact ih0 _ _ | exact ih1 _ _ _ | exact pleatref03_Check.mono _ _ _ _ _ _ _ | exact LeO.refl _ | exact LeO.none _ | refine LeO.ite ?_ ?_ | refine LeO.bind ?_ (fun _ => ?_))
  ·
   intro y0 y1 y2
   unfold pleatref08_check.l1
   repeat' first
   | (with_reducible first | exact ih0 _ _ | exact ih1 _ _ _ | exact pleatref03_Check.mono _ _ _ _ _ _ _ | exact LeO.refl _ | exact LeO.none _ | refine LeO.ite ?_ ?_ | refine LeO.bind ?_ (fun _ => ?_))
theorem pleatref08_check.mono : ∀ a0 k, LeO (pleatref08_check.f k a0) (pleatref08_check.f (k + 1) a0) := by
 intro a0 k
 obtain ⟨ih0, ih1⟩ := pleatref08_check.mono_l k
 unfold pleatref08_check.f
 repeat' first
   | (with_reducible first | exact ih0 _ _ | exact ih1 _ _ _ | exact pleatref03_Check.mono _ _ _ _ _ _ _ | exact LeO.refl _ | exact LeO.none _ | refine LeO.ite ?_ ?_ | refine LeO.bind ?_ (fun _ => ?_))
set_option maxHeartbeats 8000000 in
set_option maxRecDepth 100000 in
theorem pleatref08_check.calls (k : Nat) (A0 : Option Addr) (c0 : Nat) (l0 : List (S27)) (r1 : Int) (r2 : Int) (r3 : Int) (w : World) (hr0 : Kd.C k27 w A0 l0.length l0) (hc0 : l0.length ≤ c0) (h : pleatref08_check.f k l0 = some (r1, r2, r3)) :
  Calls Try.prog 43 #[.slice A0 l0.length c0] w fun e w' => e = .returned (.tuple #[.int .i64 r1, .int .i64 r2, .int .i64 r3]) ∧ Below w.heap.size w w' := by
 have hu27 := Try.underlying27
 have HR0 := Aside0.mk hr0
 have HC0 := Aside0.mk hc0
 clear hr0 hc0
 have HB := Aside0.mk (Below.refl w.heap.size w)
 have H : (if (l0.length : Int) > 32 then (some (21, 32, 0)) else (pleatref08_check.l0 k l0 0)) = some (r1, r2, r3) := h
 clear h
 by_cases c2 : (l0.length : Int) > 32
 ·
  rw [if_pos c2] at H
  have c2b0 : decide (32 < (l0.length : Int)) = true := decide_eq_true c2
  have c2b1 : decide (32 < l0.length) = true := decide_eq_true (by omega)
  clear c2
  simp only [Option.some.injEq, Prod.mk.injEq] at H
  obtain ⟨rfl, rfl, rfl⟩ := H
  go_enter Try.func43, Try.ntmps43
  go_wp2
  repeat (go_quiet (fail); try go_wp2)
  go_ret3
  exact ⟨by first | rfl | (simp [errW_none, errW_some] <;> rfl) | (simp [*, errW_none, errW_some] <;> rfl), bwQ HB.out⟩
 ·
  rw [if_neg c2] at H
  have c2b0 : decide (32 < (l0.length : Int)) = false := decide_eq_false c2
  have c2b1 : decide (32 < l0.length) = false := decide_eq_false (by omega)
  clear c2
  have H' := Aside0.mk H
  clear H
  go_enter Try.func43, Try.ntmps43
  go_wp2
  repeat (go_quiet (fail); try go_wp2)
  go_loopg [5] k (fun kq v5 w' => ∃ (x5_1 : Int), v5 = .int .i64 x5_1 ∧ Aside0 (pleatref08_check.l0 kq l0 x5_1 = some (r1, r2, r3)) ∧ Aside0 (kq ≤ k) ∧ Aside0 (Below w.heap.size w w'))
  case atStart => exact ⟨(0), (by first | rfl | (simp; done) | (simp [*]; done)), H', ⟨Nat.le_refl _⟩, ⟨bwQ HB.out⟩⟩
  case round =>
   clear H'
   try clear c2
   try clear c2b0
   try clear c2b1
   try clear p2
   obtain ⟨x5_1, rfl, HA, HK1, HB⟩ := hrel
   cases gk with
   | zero => exact absurd HA.out (by simp [pleatref08_check.l0])
   | succ k1 =>
    have H := HA.out
    clear HA
    simp only [pleatref08_check.l0] at H
    by_cases c3 : x5_1 < (l0.length : Int)
    ·
     rw [if_pos c3] at H
     have c3b0 : decide (x5_1 < (l0.length : Int)) = true := decide_eq_true c3
     clear c3
     by_cases c4 : 0 ≤ x5_1
     ·
      rw [if_pos c4] at H
      have c4b0 : decide (0 ≤ x5_1) = true := decide_eq_true c4
      clear c4
      replace H := Option.bind_eq_some_iff.mp H
      obtain ⟨⟨t517, t518⟩, A50, H⟩ := H
      try dsimp only at H
      have A5 := Aside0.mk A50
      clear A50
      by_cases c6 : t517 = 0
      ·
       rw [if_pos c6] at H
       have c6b0 : (t517 == 0) = true := beq_iff_eq.mpr c6
       have c6b1 : (t517 != 0) = false := bne_eq_false_iff_eq.mpr c6
       clear c6
       have H' := Aside0.mk H
       clear H
       have p516 : 0 ≤ (x5_1 : Int) := of_decide_eq_true ‹_›
       have q516 : x5_1 < (l0.length : Int) := of_decide_eq_true ‹_›
       obtain ⟨ad516, A516_1, c516_1, A516_3, c516_3, A516_4, c516_4, A516_5, c516_5, e516, hx516_0, hx516_1, hx516_2, hx516_3, hx516_4, hx516_5, hl516_1, hi516_1, hl516_3, hi516_3, hl516_4, hi516_4, hl516_5, hi516_5⟩ := atQ27 HR0.out HB.out x5_1 p516 q516
       cases e516
       have HR516_1 := Aside0.mk hi516_1
       have HC516_1 := Aside0.mk hl516_1
       clear hi516_1 hl516_1
       have HR516_3 := Aside0.mk hi516_3
       have HC516_3 := Aside0.mk hl516_3
       clear hi516_3 hl516_3
       have HR516_4 := Aside0.mk hi516_4
       have HC516_4 := Aside0.mk hl516_4
       clear hi516_4 hl516_4
       have HR516_5 := Aside0.mk hi516_5
       have HC516_5 := Aside0.mk hl516_5
       clear hi516_5 hl516_5
       replace p516 := eq_true p516
       replace q516 := eq_true q516
       go_wp2_with (first | (go_at_call 55; (with_reducible refine (pleatref03_Check.calls k1 ((rd_T27 l0 x5_1).f0) _ _ ((rd_T27 l0 x5_1).f1) ((rd_T27 l0 x5_1).f2) _ _ ((rd_T27 l0 x5_1).f3) _ _ ((rd_T27 l0 x5_1).f4) _ _ ((rd_T27 l0 x5_1).f5) t517 t518 _ ?side1 ?side2 ?side3 ?side4 ?side5 ?side6 ?side7 ?side8 A5.out).mono ?_); (case side1 => exact cbQ HB.out HR516_1.out); (case side2 => exact HC516_1.out); (case side3 => exact cbQ HB.out HR516_3.out); (case side4 => exact HC516_3.out); (case side5 => exact cbQ HB.out HR516_4.out); (case side6 => exact HC516_4.out); (case side7 => exact cbQ HB.out HR516_5.out); (case side8 => exact HC516_5.out); rintro e w7 ⟨rfl, hb⟩; replace HB := Aside0.mk (bsQ hb HB.out); (try clear hb); (try clear hb2); (try clear hk); (try clear hi)))
       repeat (go_quiet (first | (go_at_call 55; (with_reducible refine (pleatref03_Check.calls k1 ((rd_T27 l0 x5_1).f0) _ _ ((rd_T27 l0 x5_1).f1) ((rd_T27 l0 x5_1).f2) _ _ ((rd_T27 l0 x5_1).f3) _ _ ((rd_T27 l0 x5_1).f4) _ _ ((rd_T27 l0 x5_1).f5) t517 t518 _ ?side1 ?side2 ?side3 ?side4 ?side5 ?side6 ?side7 ?side8 A5.out).mono ?_); (case side1 => exact cbQ HB.out HR516_1.out); (case side2 => exact HC516_1.out); (case side3 => exact cbQ HB.out HR516_3.out); (case side4 => exact HC516_3.out); (case side5 => exact cbQ HB.out HR516_4.out); (case side6 => exact HC516_4.out); (case side7 => exact cbQ HB.out HR516_5.out); (case side8 => exact HC516_5.out); rintro e w7 ⟨rfl, hb⟩; replace HB := Aside0.mk (bsQ hb HB.out); (try clear hb); (try clear hb2); (try clear hk); (try clear hi))); try go_wp2_with (first | (go_at_call 55; (with_reducible refine (pleatref03_Check.calls k1 ((rd_T27 l0 x5_1).f0) _ _ ((rd_T27 l0 x5_1).f1) ((rd_T27 l0 x5_1).f2) _ _ ((rd_T27 l0 x5_1).f3) _ _ ((rd_T27 l0 x5_1).f4) _ _ ((rd_T27 l0 x5_1).f5) t517 t518 _ ?side1 ?side2 ?side3 ?side4 ?side5 ?side6 ?side7 ?side8 A5.out).mono ?_); (case side1 => exact cbQ HB.out HR516_1.out); (case side2 => exact HC516_1.out); (case side3 => exact cbQ HB.out HR516_3.out); (case side4 => exact HC516_3.out); (case side5 => exact cbQ HB.out HR516_4.out); (case side6 => exact HC516_4.out); (case side7 => exact cbQ HB.out HR516_5.out); (case side8 => exact HC516_5.out); rintro e w7 ⟨rfl, hb⟩; replace HB := Aside0.mk (bsQ hb HB.out); (try clear hb); (try clear hb2); (try clear hk); (try clear hi))))
       go_loopg [8] k1 (fun kq v8 w' => ∃ (x8_2 : Int), v8 = .int .i64 x8_2 ∧ Aside0 (pleatref08_check.l1 kq l0 x5_1 x8_2 = some (r1, r2, r3)) ∧ Aside0 (kq ≤ k1) ∧ Aside0 (Below w.heap.size w w'))
       case atStart => exact ⟨(0), (by first | rfl | (simp; done) | (simp [*]; done)), H', ⟨Nat.le_refl _⟩, ⟨bwQ HB.out⟩⟩
       case round =>
        clear H'
        try clear c2
        try clear c2b0
        try clear c2b1
        try clear p2
        try clear c3
        try clear c3b0
        try clear c4
        try clear c4b0
        try clear c5
        try clear p5
        try clear q5
        try clear hx5
        try clear c6
        try clear c6b0
        try clear c6b1
        try clear hx516_0
        try clear hx516_1
        try clear hx516_2
        try clear hx516_3
        try clear hx516_4
        try clear hx516_5
        try clear p2
        try clear p516
        try clear q516
        obtain ⟨x8_2, rfl, HA, HK2, HB⟩ := hrel
        cases gk with
        | zero => exact absurd HA.out (by simp [pleatref08_check.l1])
        | succ k2 =>
         have H := HA.out
         clear HA
         simp only [pleatref08_check.l1] at H
         by_cases c8 : x8_2 < x5_1
         ·
          rw [if_pos c8] at H
          have c8b0 : decide (x8_2 < x5_1) = true := decide_eq_true c8
          clear c8
          by_cases c9 : 0 ≤ x8_2
          ·
           rw [if_pos c9] at H
           have c9b0 : decide (0 ≤ x8_2) = true := decide_eq_true c9
           clear c9
           by_cases c10 : x8_2 < (l0.length : Int)
           ·
            rw [if_pos c10] at H
            have c10b0 : decide (x8_2 < (l0.length : Int)) = true := decide_eq_true c10
            clear c10
            by_cases c11 : 0 ≤ x5_1
            ·
             rw [if_pos c11] at H
             have c11b0 : decide (0 ≤ x5_1) = true := decide_eq_true c11
             clear c11
             by_cases c12 : x5_1 < (l0.length : Int)
             ·
              rw [if_pos c12] at H
              have c12b0 : decide (x5_1 < (l0.length : Int)) = true := decide_eq_true c12
              clear c12
              by_cases c13 : ((rd_T27 l0 x8_2).f0).toList = ((rd_T27 l0 x5_1).f0).toList
              ·
               rw [if_pos c13] at H
               have c13b0 : (((rd_T27 l0 x8_2).f0).toList == ((rd_T27 l0 x5_1).f0).toList) = true := beq_iff_eq.mpr c13
               have c13b1 : (((rd_T27 l0 x8_2).f0).toList != ((rd_T27 l0 x5_1).f0).toList) = false := bne_eq_false_iff_eq.mpr c13
               clear c13
               simp only [Option.some.injEq, Prod.mk.injEq] at H
               obtain ⟨rfl, rfl, rfl⟩ := H
               have p519 : 0 ≤ (x8_2 : Int) := of_decide_eq_true ‹_›
               have q519 : x8_2 < (l0.length : Int) := of_decide_eq_true ‹_›
               obtain ⟨ad519, A519_1, c519_1, A519_3, c519_3, A519_4, c519_4, A519_5, c519_5, e519, hx519_0, hx519_1, hx519_2, hx519_3, hx519_4, hx519_5, -, -, -, -, -, -, -, -⟩ := atQ27 HR0.out HB.out x8_2 p519 q519
               obtain rfl : ad516 = ad519 := (by injection e519)
               replace p519 := eq_true p519
               replace q519 := eq_true q519
               have p520 : 0 ≤ (x5_1 : Int) := of_decide_eq_true ‹_›
               have q520 : x5_1 < (l0.length : Int) := of_decide_eq_true ‹_›
               obtain ⟨ad520, A520_1, c520_1, A520_3, c520_3, A520_4, c520_4, A520_5, c520_5, e520, hx520_0, hx520_1, hx520_2, hx520_3, hx520_4, hx520_5, -, -, -, -, -, -, -, -⟩ := atQ27 HR0.out HB.out x5_1 p520 q520
               obtain rfl : ad516 = ad520 := (by injection e520)
               replace p520 := eq_true p520
               replace q520 := eq_true q520
               go_wp2
               repeat (go_quiet (fail); try go_wp2)
               go_ret3
               exact ⟨by first | rfl | (simp [errW_none, errW_some] <;> rfl) | (simp [*, errW_none, errW_some] <;> rfl), bwQ HB.out⟩
              ·
               rw [if_neg c13] at H
               have c13b0 : (((rd_T27 l0 x8_2).f0).toList == ((rd_T27 l0 x5_1).f0).toList) = false := beq_eq_false_iff_ne.mpr c13
               have c13b1 : (((rd_T27 l0 x8_2).f0).toList != ((rd_T27 l0 x5_1).f0).toList) = true := bne_iff_ne.mpr c13
               have H' := Aside0.mk H
               clear H
               have p519 : 0 ≤ (x8_2 : Int) := of_decide_eq_true ‹_›
               have q519 : x8_2 < (l0.length : Int) := of_decide_eq_true ‹_›
               obtain ⟨ad519, A519_1, c519_1, A519_3, c519_3, A519_4, c519_4, A519_5, c519_5, e519, hx519_0, hx519_1, hx519_2, hx519_3, hx519_4, hx519_5, -, -, -, -, -, -, -, -⟩ := atQ27 HR0.out HB.out x8_2 p519 q519
               obtain rfl : ad516 = ad519 := (by injection e519)
               replace p519 := eq_true p519
               replace q519 := eq_true q519
               have p520 : 0 ≤ (x5_1 : Int) := of_decide_eq_true ‹_›
               have q520 : x5_1 < (l0.length : Int) := of_decide_eq_true ‹_›
               obtain ⟨ad520, A520_1, c520_1, A520_3, c520_3, A520_4, c520_4, A520_5, c520_5, e520, hx520_0, hx520_1, hx520_2, hx520_3, hx520_4, hx520_5, -, -, -, -, -, -, -, -⟩ := atQ27 HR0.out HB.out x5_1 p520 q520
               obtain rfl : ad516 = ad520 := (by injection e520)
               replace p520 := eq_true p520
               replace q520 := eq_true q520
               go_wp2
               repeat (go_quiet (fail); try go_wp2)
               go_roundg k2
               case measure => have := HK1.out; have := HK2.out; omega
               case rel => exact ⟨(wrap64 (x8_2 + 1)), (by first | rfl | (simp; done) | (simp [*]; done)), H', ⟨by have := HK1.out; have := HK2.out; omega⟩, ⟨bwQ HB.out⟩⟩
             ·
              rw [if_neg c12] at H
              exact absurd H (by simp)
            ·
             rw [if_neg c11] at H
             exact absurd H (by simp)
           ·
            rw [if_neg c10] at H
            exact absurd H (by simp)
          ·
           rw [if_neg c9] at H
           exact absurd H (by simp)
         ·
          rw [if_neg c8] at H
          have c8b0 : decide (x8_2 < x5_1) = false := decide_eq_false c8
          clear c8
          have H' := Aside0.mk H
          clear H
          go_wp2
          repeat (go_quiet (fail); try go_wp2)
          go_roundg k2
          case measure => have := HK1.out; have := HK2.out; omega
          case rel => exact ⟨(wrap64 (x5_1 + 1)), (by first | rfl | (simp; done) | (simp [*]; done)), H', ⟨by have := HK1.out; have := HK2.out; omega⟩, ⟨bwQ HB.out⟩⟩
      ·
       rw [if_neg c6] at H
       have c6b0 : (t517 == 0) = false := beq_eq_false_iff_ne.mpr c6
       have c6b1 : (t517 != 0) = true := bne_iff_ne.mpr c6
       simp only [Option.some.injEq, Prod.mk.injEq] at H
       obtain ⟨rfl, rfl, rfl⟩ := H
       have p516 : 0 ≤ (x5_1 : Int) := of_decide_eq_true ‹_›
       have q516 : x5_1 < (l0.length : Int) := of_decide_eq_true ‹_›
       obtain ⟨ad516, A516_1, c516_1, A516_3, c516_3, A516_4, c516_4, A516_5, c516_5, e516, hx516_0, hx516_1, hx516_2, hx516_3, hx516_4, hx516_5, hl516_1, hi516_1, hl516_3, hi516_3, hl516_4, hi516_4, hl516_5, hi516_5⟩ := atQ27 HR0.out HB.out x5_1 p516 q516
       cases e516
       have HR516_1 := Aside0.mk hi516_1
       have HC516_1 := Aside0.mk hl516_1
       clear hi516_1 hl516_1
       have HR516_3 := Aside0.mk hi516_3
       have HC516_3 := Aside0.mk hl516_3
       clear hi516_3 hl516_3
       have HR516_4 := Aside0.mk hi516_4
       have HC516_4 := Aside0.mk hl516_4
       clear hi516_4 hl516_4
       have HR516_5 := Aside0.mk hi516_5
       have HC516_5 := Aside0.mk hl516_5
       clear hi516_5 hl516_5
       replace p516 := eq_true p516
       replace q516 := eq_true q516
       go_wp2_with (first | (go_at_call 55; (with_reducible refine (pleatref03_Check.calls k1 ((rd_T27 l0 x5_1).f0) _ _ ((rd_T27 l0 x5_1).f1) ((rd_T27 l0 x5_1).f2) _ _ ((rd_T27 l0 x5_1).f3) _ _ ((rd_T27 l0 x5_1).f4) _ _ ((rd_T27 l0 x5_1).f5) t517 t518 _ ?side1 ?side2 ?side3 ?side4 ?side5 ?side6 ?side7 ?side8 A5.out).mono ?_); (case side1 => exact cbQ HB.out HR516_1.out); (case side2 => exact HC516_1.out); (case side3 => exact cbQ HB.out HR516_3.out); (case side4 => exact HC516_3.out); (case side5 => exact cbQ HB.out HR516_4.out); (case side6 => exact HC516_4.out); (case side7 => exact cbQ HB.out HR516_5.out); (case side8 => exact HC516_5.out); rintro e w14 ⟨rfl, hb⟩; replace HB := Aside0.mk (bsQ hb HB.out); (try clear hb); (try clear hb2); (try clear hk); (try clear hi)))
       repeat (go_quiet (first | (go_at_call 55; (with_reducible refine (pleatref03_Check.calls k1 ((rd_T27 l0 x5_1).f0) _ _ ((rd_T27 l0 x5_1).f1) ((rd_T27 l0 x5_1).f2) _ _ ((rd_T27 l0 x5_1).f3) _ _ ((rd_T27 l0 x5_1).f4) _ _ ((rd_T27 l0 x5_1).f5) t517 t518 _ ?side1 ?side2 ?side3 ?side4 ?side5 ?side6 ?side7 ?side8 A5.out).mono ?_); (case side1 => exact cbQ HB.out HR516_1.out); (case side2 => exact HC516_1.out); (case side3 => exact cbQ HB.out HR516_3.out); (case side4 => exact HC516_3.out); (case side5 => exact cbQ HB.out HR516_4.out); (case side6 => exact HC516_4.out); (case side7 => exact cbQ HB.out HR516_5.out); (case side8 => exact HC516_5.out); rintro e w14 ⟨rfl, hb⟩; replace HB := Aside0.mk (bsQ hb HB.out); (try clear hb); (try clear hb2); (try clear hk); (try clear hi))); try go_wp2_with (first | (go_at_call 55; (with_reducible refine (pleatref03_Check.calls k1 ((rd_T27 l0 x5_1).f0) _ _ ((rd_T27 l0 x5_1).f1) ((rd_T27 l0 x5_1).f2) _ _ ((rd_T27 l0 x5_1).f3) _ _ ((rd_T27 l0 x5_1).f4) _ _ ((rd_T27 l0 x5_1).f5) t517 t518 _ ?side1 ?side2 ?side3 ?side4 ?side5 ?side6 ?side7 ?side8 A5.out).mono ?_); (case side1 => exact cbQ HB.out HR516_1.out); (case side2 => exact HC516_1.out); (case side3 => exact cbQ HB.out HR516_3.out); (case side4 => exact HC516_3.out); (case side5 => exact cbQ HB.out HR516_4.out); (case side6 => exact HC516_4.out); (case side7 => exact cbQ HB.out HR516_5.out); (case side8 => exact HC516_5.out); rintro e w14 ⟨rfl, hb⟩; replace HB := Aside0.mk (bsQ hb HB.out); (try clear hb); (try clear hb2); (try clear hk); (try clear hi))))
       go_ret3
       exact ⟨by first | rfl | (simp [errW_none, errW_some] <;> rfl) | (simp [*, errW_none, errW_some] <;> rfl), bwQ HB.out⟩
     ·
      rw [if_neg c4] at H
      exact absurd H (by simp)
    ·
     rw [if_neg c3] at H
     have c3b0 : decide (x5_1 < (l0.length : Int)) = false := decide_eq_false c3
     clear c3
     simp only [Option.some.injEq, Prod.mk.injEq] at H
     obtain ⟨rfl, rfl, rfl⟩ := H
     go_wp2
     repeat (go_quiet (fail); try go_wp2)
     go_ret3
     exact ⟨by first | rfl | (simp [errW_none, errW_some] <;> rfl) | (simp [*, errW_none, errW_some] <;> rfl), bwQ HB.out⟩
end Go.Proofs.Ytiaohbbafaaibab.P

/- OWN TEXT: the reference's check of an object comes to the same as the program's. -/
set_option linter.unusedVariables false
set_option linter.unusedSimpArgs false
namespace Go.Proofs.Ytiaohbbafaaibab.P
open Go.RowKit Go.Maps Go.Proofs.YtiaohbbafaaibabW.PrintWords Go.Proofs.YtiaohbbafaaibabW.PrintLast Go.Proofs.YtiaohbbafaaibabW.PrintMore Go.Proofs.Ytiaohbbafaaibab.MapB

theorem ofo2 (l : List Sym) (hl : l.length ≤ 1000000000) (a : ByteArray) (c : List Int) (dd : Int) (e : List Int) (f : List Rel) (nm : ByteArray) : Ev (fun k => pleatref03_Of.f k a c dd e l f nm) (ofN nm l 0) := by
 unfold pleatref03_Of.f
 have : ∀ d i : Nat, i + d = l.length → Ev (fun k => pleatref03_Of.l0 k nm (i : Int) a c dd e l f) (ofN nm (l.drop i) i) := by
  intro d
  induction d with
  | zero =>
   intro i hi
   rw [List.drop_eq_nil_of_le (by omega)]
   exact Ev.succ (Ev.iteF (by omega) (Ev.val rfl))
  | succ d ih =>
   intro i hi
   have hlt : i < l.length := by omega
   rw [drop_get hlt]
   unfold ofN
   refine Ev.succ (Ev.iteT (by omega) (Ev.iteT (by omega) ?_))
   simp only [sy_get hlt, wrapS hlt hl]
   refine Ev.ite2 (fun h => Ev.val (by rw [if_pos h])) (fun h => ?_)
   rw [if_neg h]
   exact ih (i + 1) (by omega)
 exact this l.length 0 (by omega)
def LetC (c : Int) : Prop := (97 ≤ c ∧ c ≤ 122) ∨ (65 ≤ c ∧ c ≤ 90) ∨ c = 95
instance (c : Int) : Decidable (LetC c) := by unfold LetC; infer_instance
theorem letter1 (c : Int) : pleatref03_letter.f c = some (decide (LetC c)) := by
 by_cases h : LetC c
 ·
  rw [decide_eq_true h]
  unfold LetC at h
  unfold pleatref03_letter.f
  repeat' split
  all_goals first
   | rfl
   | exact congrArg some (beq_iff_eq.mpr (by omega))
 ·
  rw [decide_eq_false h]
  unfold LetC at h
  unfold pleatref03_letter.f
  repeat' split
  all_goals first
   | (exfalso; omega)
   | exact congrArg some (beq_eq_false_iff_ne.mpr (by omega))
def restS (s : ByteArray) : Nat → Nat → Bool
 | 0, _ => true
 | d + 1, i => decide (OkC i (bt s (i : Int))) && restS s d (i + 1)
theorem restS_iff (s : ByteArray) : ∀ d i, restS s d i = true ↔ ∀ j, i ≤ j → j < i + d → OkC j (bt s (j : Int))
  | 0, i => by simp [restS]; intro j h1 h2; omega
  | d + 1, i => by
    unfold restS
    rw [Bool.and_eq_true, restS_iff s d (i + 1), decide_eq_true_eq]
    constructor
    · rintro ⟨h1, h2⟩ j hj hk
      by_cases e : j = i
      · subst e; exact h1
      · exact h2 j (by omega) (by omega)
    · intro h
      exact ⟨h i (by omega) (by omega), fun j hj hk => h j (by omega) (by omega)⟩
theorem name3 (s : ByteArray) : Ev (fun k => pleatref03_Name.f k s) (nameS s) := by
 unfold pleatref03_Name.f
 refine Ev.ite2 (fun h => ?_) (fun h => ?_)
 ·
  refine Ev.succ ?_
  simp only [pleatref03_Name.j0, if_true]
  refine Ev.val ?_
  unfold nameS
  exact (decide_eq_false (by omega)).symm
 refine Ev.ite2 (fun h2 => ?_) (fun h2 => ?_)
 ·
  refine Ev.succ ?_
  simp only [pleatref03_Name.j0, if_true]
  refine Ev.val ?_
  unfold nameS
  exact (decide_eq_false (by omega)).symm
 refine Ev.iteT (by omega) (Ev.bind0 (letter1 _) ?_)
 by_cases c : LetC (bt s 0)
 ·
  rw [decide_eq_true c]
  have hl : ∀ d i : Nat, 0 < i → i + d = s.size → Ev (fun k => pleatref03_Name.l0 k s (i : Int)) (restS s d i) := by
   intro d
   induction d with
   | zero => intro i hp hi; exact Ev.succ (Ev.iteF (by omega) (Ev.val rfl))
   | succ d ih =>
    intro i hp hi
    have IH := ih (i + 1) (by omega) (by omega)
    have hw := wrapS (i := i) (n := s.size) (by omega) (by omega)
    refine Ev.succ (Ev.iteT (by omega) (Ev.iteT (by omega) (Ev.bind0 (letter1 _) ?_)))
    simp only [hw]
    unfold restS
    refine Ev.ite2 (fun h => ?_) (fun h => ?_)
    ·
     rw [decide_eq_true_eq] at h
     unfold LetC at h
     rw [decide_eq_true (show OkC i (bt s (i : Int)) by unfold OkC; omega), Bool.true_and]
     exact IH
    ·
     rw [decide_eq_true_eq] at h
     unfold LetC at h
     refine Ev.ite2 (fun h3 => Ev.ite2 (fun h4 => ?_) (fun h4 => Ev.ite2 (fun h5 => ?_) (fun h5 => Ev.val ?_))) (fun h3 => Ev.ite2 (fun h5 => ?_) (fun h5 => Ev.val ?_))
     ·
      rw [decide_eq_true (show OkC i (bt s (i : Int)) by unfold OkC; omega), Bool.true_and]
      exact IH
     ·
      rw [decide_eq_true (show OkC i (bt s (i : Int)) by unfold OkC; omega), Bool.true_and]
      exact IH
     ·
      rw [decide_eq_false (show ¬ OkC i (bt s (i : Int)) by unfold OkC; omega), Bool.false_and]
     ·
      rw [decide_eq_true (show OkC i (bt s (i : Int)) by unfold OkC; omega), Bool.true_and]
      exact IH
     ·
      rw [decide_eq_false (show ¬ OkC i (bt s (i : Int)) by unfold OkC; omega), Bool.false_and]
  refine Ev.succ ?_
  simp only [pleatref03_Name.j0, Bool.not_true, Bool.false_eq_true, if_false]
  refine (hl (s.size - 1) 1 (by omega) (by omega)).to ?_
  unfold nameS
  rw [Bool.eq_iff_iff, restS_iff, decide_eq_true_eq]
  constructor
  ·
   intro hr
   refine ⟨by omega, by omega, fun j hj => ?_⟩
   by_cases e : j = 0
   ·
    subst e
    unfold LetC at c
    unfold OkC
    simp only [Int.natCast_zero]
    omega
   ·
    exact hr j (by omega) (by omega)
  ·
   rintro ⟨_, _, hr⟩ j h1 h2
   exact hr j (by omega)
 ·
  rw [decide_eq_false c]
  refine Ev.succ ?_
  simp only [pleatref03_Name.j0, Bool.not_false, if_true]
  refine Ev.val ?_
  unfold nameS
  refine (decide_eq_false (fun hall => c ?_)).symm
  have := hall.2.2 0 (by omega)
  unfold OkC at this
  simp only [Int.natCast_zero] at this
  unfold LetC
  omega

section
variable (nm : ByteArray) (code : List Int) (dat : Int) (data : List Int) (syms : List Sym) (rels : List Rel)
theorem size3 : Ev (fun k => pleatref03_size.f k nm code dat data syms rels) (sizeS nm code dat data syms.length rels.length) := by
 have h := size_eq nm code dat data syms rels
 unfold object_size.f object_Name.f at h
 simp only [Option.bind_some] at h
 unfold pleatref03_size.f
 exact Ev.bind (name3 nm) (h ▸ Ev.now _)
theorem symbols3 (hl : syms.length ≤ 100000000) : Ev (fun k => pleatref03_symbols.f k nm code dat data syms rels) (symsS syms (code.length : Int)) := by
  unfold pleatref03_symbols.f
  refine Ev.upto (g := fun k i => pleatref03_symbols.l0 k i nm code dat data syms rels) (n := syms.length) (fun i => ∀ j, j < i → symE syms (code.length : Int) j = 0) (fun i hi hz IH => ?_) (fun hz => ?_) 0 (by omega) (fun j hj => absurd hj (Nat.not_lt_zero _))
  · have hse := symE_eq syms (code.length : Int) i
    have hbad : symE syms (code.length : Int) i ≠ 0 → symsS syms (code.length : Int) = (symE syms (code.length : Int) i, (i : Int)) := fun hne => firstS_at hi hz hne
    have hgo : symE syms (code.length : Int) i = 0 → _ := fun h0 => IH (fun j hj => by
      by_cases e : j = i
      · rw [e]; exact h0
      · exact hz j (by omega))
    clear IH hz
    have hos := ofN_seen hi
    rw [sy_at hi] at hos
    rw [sy_at hi] at hse
    have hlen : (syms.length : Int) ≤ 100000000 := by omega
    refine Ev.succ (Ev.iteT (by omega) (Ev.iteT (by omega) ?_))
    simp only [sy_get hi, wrapS hi (by omega)]
    generalize hs : syms[i] = s at hos hse ⊢
    obtain ⟨sn, sk, sa⟩ := s
    simp only at hos hse ⊢
    generalize symE syms (code.length : Int) i = g at hse hbad hgo
    refine Ev.bind (name3 sn) (Ev.ite2 (fun h => ?_) (fun h => ?_))
    · rw [if_pos h] at hse
      refine Ev.bind (ofo2 syms (by omega) nm code dat data rels sn) (Ev.ite2 (fun h2 => ?_) (fun h2 => ?_))
      · rw [if_neg (by rw [hos.1 h2]; decide)] at hse
        refine Ev.ite2 (fun h3 => ?_) (fun h3 => ?_)
        · rw [if_pos h3] at hse
          refine Ev.succ ?_
          simp only [pleatref03_symbols.j1, if_true]
          exact Ev.val (by rw [hbad (by rw [hse]; decide), hse])
        · rw [if_neg h3] at hse
          refine Ev.succ ?_
          simp only [pleatref03_symbols.j1, decide_eq_true_eq]
          refine Ev.ite2 (fun h4 => ?_) (fun h4 => ?_)
          · rw [if_pos h4] at hse
            exact Ev.val (by rw [hbad (by rw [hse]; decide), hse])
          · rw [if_neg h4] at hse
            refine Ev.ite2 (fun h5 => ?_) (fun h5 => ?_)
            · rw [if_pos h5] at hse
              exact Ev.val (by rw [hbad (by rw [hse]; decide), hse])
            rw [if_neg h5] at hse
            refine Ev.ite2 (fun h6 => ?_) (fun h6 => ?_)
            · rw [if_pos h6] at hse
              exact Ev.val (by rw [hbad (by rw [hse]; decide), hse])
            rw [if_neg h6] at hse
            refine Ev.ite2 (fun h7 => Ev.ite2 (fun h8 => ?_) (fun h8 => ?_)) (fun h7 => ?_)
            · rw [if_pos h7, if_pos h8] at hse
              simp only [wrapS hi (show syms.length ≤ 1000000000 by omega)]
              exact hgo hse
            · rw [if_pos h7, if_neg h8] at hse
              exact Ev.val (by rw [hbad (by rw [hse]; decide), hse])
            · rw [if_neg h7] at hse
              simp only [wrapS hi (show syms.length ≤ 1000000000 by omega)]
              exact hgo hse
      · rw [if_pos (by
          rw [← Bool.not_eq_false]
          exact fun e => h2 (hos.2 e))] at hse
        exact Ev.val (by rw [hbad (by rw [hse]; decide), hse])
    · rw [if_neg h] at hse
      exact Ev.val (by rw [hbad (by rw [hse]; decide), hse])
  · exact Ev.succ (Ev.iteF (by omega) (Ev.val (firstS_zero hz).symm))
theorem relocs3 (hw : wordsO code = true) (hc : code.length ≤ 100000000) (hl : rels.length ≤ 100000000) : Ev (fun k => pleatref03_relocs.f k nm code dat data syms rels) (firstS (relE code (syms.length : Int) rels) rels.length rels.length) := by
  unfold pleatref03_relocs.f
  refine Ev.upto (g := fun k i => pleatref03_relocs.l0 k i nm code dat data syms rels) (n := rels.length) (fun i => ∀ j, j < i → relE code (syms.length : Int) rels j = 0) (fun i hi hz IH => ?_) (fun hz => ?_) 0 (by omega) (fun j hj => absurd hj (Nat.not_lt_zero _))
  · have hse := relE_eq code (syms.length : Int) rels i
    have hlo := lastR_lo _ _ _ i hz
    have hbad : relE code (syms.length : Int) rels i = 24 → firstS (relE code (syms.length : Int) rels) rels.length rels.length = (24, (i : Int)) := fun h24 => by rw [firstS_at hi hz (by rw [h24]; decide), h24]
    have hgo : relE code (syms.length : Int) rels i = 0 → _ := fun h0 => IH (fun j hj => by
      by_cases e : j = i
      · rw [e]; exact h0
      · exact hz j (by omega))
    clear IH hz
    rw [rl_at hi] at hse
    have hprev : 0 < i → lastR rels i = (rd_T41 rels (wrap64 ((i : Int) - 1))).f0 := fun hp => by
      obtain ⟨m, rfl⟩ : ∃ m, i = m + 1 := ⟨i - 1, by omega⟩
      rw [show wrap64 (((m + 1 : Nat) : Int) - 1) = (m : Int) by rw [wrap64_id (by omega) (by omega)]; omega]
      rfl
    have hw1 : 0 < i → wrap64 ((i : Int) - 1) = (i : Int) - 1 := fun hp => wrap64_id (by omega) (by omega)
    refine Ev.succ (Ev.iteT (by omega) (Ev.iteT (by omega) ?_))
    simp only [rl_get hi]
    generalize hs : rels[i] = s at hse ⊢
    obtain ⟨sa, sm⟩ := s
    simp only at hse ⊢
    have bad : ∀ {c : Bool}, c = true → relE code (syms.length : Int) rels i = 24 → Ev (fun k => pleatref03_relocs.j1 k (i : Int) c nm code dat data syms rels sa sm) (firstS (relE code (syms.length : Int) rels) rels.length rels.length) := fun hc h24 => by
      subst hc
      refine Ev.succ ?_
      simp only [pleatref03_relocs.j1, if_true]
      exact Ev.val (hbad h24).symm
    have tail : ¬ sa ≤ lastR rels i → ¬ sa < 0 → ¬ sa ≥ (code.length : Int) → Ev (fun k => if sm < 0 then pleatref03_relocs.j1 k (i : Int) true nm code dat data syms rels sa sm else pleatref03_relocs.j1 k (i : Int) (decide (sm ≥ (syms.length : Int))) nm code dat data syms rels sa sm) (firstS (relE code (syms.length : Int) rels) rels.length rels.length) := fun n1 n2 n3 => by
      rw [if_neg n1, if_neg n3] at hse
      refine Ev.ite2 (fun h => bad rfl (by rw [hse, if_pos h])) (fun h => ?_)
      rw [if_neg h] at hse
      by_cases h4 : sm ≥ (syms.length : Int)
      · exact bad (decide_eq_true h4) (by rw [hse, if_pos h4])
      rw [if_neg h4] at hse
      rw [decide_eq_false h4]
      have hxr : 0 ≤ rd code sa ∧ rd code sa < 4294967296 := by
        rw [show sa = ((sa.toNat : Nat) : Int) by omega, rd_get (by omega)]
        exact wordsO_at hw (List.getElem_mem _)
      refine Ev.succ ?_
      simp only [pleatref03_relocs.j1, Bool.false_eq_true, if_false]
      refine Ev.iteT (by omega) (Ev.iteT (by omega) (Ev.bind (tgt2 hxr.1 hxr.2) (Ev.ite2 (fun h5 => Ev.ite2 (fun h6 => ?_) (fun h6 => ?_)) (fun h5 => ?_))))
      · rw [if_pos h5, if_pos h6] at hse
        simp only [wrapS hi (show rels.length ≤ 1000000000 by omega)]
        exact hgo hse
      · rw [if_pos h5, if_neg h6] at hse
        exact Ev.val (hbad hse).symm
      · rw [if_neg h5] at hse
        exact Ev.val (hbad hse).symm
    refine Ev.ite2 (fun h1 => bad rfl (by rw [hse, if_pos (by omega)])) (fun h1 => ?_)
    refine Ev.ite2 (fun h2 => bad rfl ?_) (fun h2 => ?_)
    · rw [hse]
      by_cases h3 : sa ≤ lastR rels i
      · rw [if_pos h3]
      · rw [if_neg h3, if_pos h2]
    refine Ev.ite2 (fun h3 => ?_) (fun h3 => ?_)
    · have hp : 0 < i := by omega
      rw [hw1 hp] at hprev ⊢
      have hprev := hprev hp
      refine Ev.iteT (by omega) (Ev.iteT (by omega) ?_)
      simp only [← hprev]
      refine Ev.ite2 (fun h4 => bad rfl (by rw [hse, if_pos h4])) (fun h4 => tail h4 h1 h2)
    · obtain rfl : i = 0 := by omega
      exact tail (by show ¬ sa ≤ -1; omega) h1 h2
  · exact Ev.succ (Ev.iteF (by omega) (Ev.val (firstS_zero hz).symm))
theorem chk3 (hw : wordsO code = true) (hs : syms.length ≤ 100000000) (hc : code.length ≤ 100000000) (hl : rels.length ≤ 100000000) : Ev (fun k => pleatref03_Check.f k nm code dat data syms rels) (chkO nm code dat data syms rels) := by
  unfold pleatref03_Check.f chkO
  refine Ev.bind (size3 nm code dat data syms rels) (Ev.ite2 (fun h => ?_) (fun h => Ev.val (by rw [if_neg h])))
  rw [if_pos h]
  refine Ev.bind (symbols3 nm code dat data syms rels hs) (Ev.ite2 (fun h => ?_) (fun h => Ev.val (by rw [if_neg h])))
  rw [if_pos h]
  refine Ev.bind (relocs3 nm code dat data syms rels hw hc hl) (Ev.ite2 (fun h => ?_) (fun h => ?_))
  · have hz := firstS_iff h
    have hrs : relocsS code (syms.length : Int) rels = scanS (scanE code (markB rels rels.length)) code.length code.length := relocs_scan hz
    have hpl := scan_plain hz
    have hpair : (if (relocsS code (syms.length : Int) rels).1 = 0 then ((0 : Int), (0 : Int)) else relocsS code (syms.length : Int) rels) = relocsS code (syms.length : Int) rels := by
      rw [hrs]
      have key : ∀ d i, i + d = code.length → (∀ q, q < i → scanE code (markB rels rels.length) q = 0) → (if (scanS (scanE code (markB rels rels.length)) code.length code.length).1 = 0 then ((0 : Int), (0 : Int)) else scanS (scanE code (markB rels rels.length)) code.length code.length) = scanS (scanE code (markB rels rels.length)) code.length code.length := by
        intro d
        induction d with
        | zero => intro i hi hq; rw [scanS_zero (fun q h => hq q (by omega)), if_pos rfl]
        | succ d ih =>
          intro i hi hq
          by_cases e : scanE code (markB rels rels.length) i = 0
          · exact ih (i + 1) (by omega) (fun p hp => by
              by_cases e2 : p = i
              · rw [e2]; exact e
              · exact hq p (by omega))
          · rw [scanS_at (by omega) hq e, if_neg e]
      exact key code.length 0 (by omega) (fun q hq => absurd hq (Nat.not_lt_zero _))
    rw [hpair, hrs]
    refine Ev.upto (g := fun k i => pleatref03_Check.l0 k i nm code dat data syms rels) (n := code.length) (fun i => ∀ j, j < i → scanE code (markB rels rels.length) j = 0) (fun i hi hq IH => ?_) (fun hq => ?_) 0 (by omega) (fun j hj => absurd hj (Nat.not_lt_zero _))
    · have hse := hpl i
      have hgo : scanE code (markB rels rels.length) i = 0 → _ := fun h0 => IH (fun j hj => by
        by_cases e : j = i
        · rw [e]; exact h0
        · exact hq j (by omega))
      have hxr : 0 ≤ rd code (i : Int) ∧ rd code (i : Int) < 4294967296 := by
        rw [rd_get hi]
        exact wordsO_at hw (List.getElem_mem _)
      refine Ev.succ (Ev.iteT (by omega) (Ev.iteT (by omega) (Ev.bind (tgt2 hxr.1 hxr.2) (Ev.ite2 (fun h1 => Ev.ite2 (fun h2 => ?_) (fun h2 => ?_)) (fun h1 => ?_)))))
      · rw [if_pos h1, if_pos h2] at hse
        refine Ev.val ?_
        rw [scanS_at hi hq (by rw [hse]; decide), hse, wrap64_id (by omega) (by omega)]
      · rw [if_pos h1, if_neg h2] at hse
        simp only [wrapS hi (show code.length ≤ 1000000000 by omega)]
        exact hgo hse
      · rw [if_neg h1] at hse
        simp only [wrapS hi (show code.length ≤ 1000000000 by omega)]
        exact hgo hse
    · exact Ev.succ (Ev.iteF (by omega) (Ev.val (scanS_zero hq).symm))
  · refine Ev.val ?_
    have e : relocsS code (syms.length : Int) rels = firstS (relE code (syms.length : Int) rels) rels.length rels.length := by
      unfold relocsS
      rw [if_neg h]
    rw [e, if_neg h]
end
end Go.Proofs.Ytiaohbbafaaibab.P
