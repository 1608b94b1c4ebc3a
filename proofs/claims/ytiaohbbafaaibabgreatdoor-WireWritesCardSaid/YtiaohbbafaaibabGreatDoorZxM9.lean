/- OWN TEXT and printed parts of this claim, laid together: P15, P16. -/
import Derived.Test.YtiaohbbafaaibabGreatDoorZxM0
import Derived.Test.YtiaohbbafaaibabGreatDoorZxM3
import Derived.Test.YtiaohbbafaaibabGreatDoorZxM8
/- What the Go functions named below come to, as plain functions, each with its proof; written by this session's prt.py over the kit's print. -/
namespace Go.Proofs.YtiaohbbafaaibabGreatDoor.P
open Go.RowKit Go.Proofs.YtiaohbbafaaibabGreatDoorW.PrintWords Go.Proofs.YtiaohbbafaaibabGreatDoorW.PrintLast Go.Proofs.YtiaohbbafaaibabGreatDoorW.PrintMore
attribute [local go_sem] max2_int min2_int max_two min_two max_three min_three max_four min_four   -- for this text's walks alone
set_option linter.unusedVariables false
set_option linter.unusedSimpArgs false
/-! ### pleatref03_relocs: function 88 -/
mutual
def pleatref03_relocs.l0 : Nat → Int → ByteArray → List Int → Int → List Int → List (S65) → List (S82) → Option (Int × Int)
 | 0, _, _, _, _, _, _, _ => none
 | k + 1, x4, x280000, x280001, x280002, x280003, x280004, x280005 => if x4 < (x280005.length : Int) then (if 0 ≤ x4 then (if ((rd_T82 x280005 x4).f0) < 0 then (pleatref03_relocs.j1 k x4 true x280000 x280001 x280002 x280003 x280004 x280005 ((rd_T82 x280005 x4).f0) ((rd_T82 x280005 x4).f1)) else (if ((rd_T82 x280005 x4).f0) ≥ (x280001.length : Int) then (pleatref03_relocs.j1 k x4 true x280000 x280001 x280002 x280003 x280004 x280005 ((rd_T82 x280005 x4).f0) ((rd_T82 x280005 x4).f1)) else (if x4 > 0 then (if 0 ≤ (wrap64 (x4 - 1)) then (if (wrap64 (x4 - 1)) < (x280005.length : Int) then (if ((rd_T82 x280005 x4).f0) ≤ ((rd_T82 x280005 (wrap64 (x4 - 1))).f0) then (pleatref03_relocs.j1 k x4 true x280000 x280001 x280002 x280003 x280004 x280005 ((rd_T82 x280005 x4).f0) ((rd_T82 x280005 x4).f1)) else (if ((rd_T82 x280005 x4).f1) < 0 then (pleatref03_relocs.j1 k x4 true x280000 x280001 x280002 x280003 x280004 x280005 ((rd_T82 x280005 x4).f0) ((rd_T82 x280005 x4).f1)) else (pleatref03_relocs.j1 k x4 (decide (((rd_T82 x280005 x4).f1) ≥ (x280004.length : Int))) x280000 x280001 x280002 x280003 x280004 x280005 ((rd_T82 x280005 x4).f0) ((rd_T82 x280005 x4).f1)))) else (none)) else (none)) else (if ((rd_T82 x280005 x4).f1) < 0 then (pleatref03_relocs.j1 k x4 true x280000 x280001 x280002 x280003 x280004 x280005 ((rd_T82 x280005 x4).f0) ((rd_T82 x280005 x4).f1)) else (pleatref03_relocs.j1 k x4 (decide (((rd_T82 x280005 x4).f1) ≥ (x280004.length : Int))) x280000 x280001 x280002 x280003 x280004 x280005 ((rd_T82 x280005 x4).f0) ((rd_T82 x280005 x4).f1)))))) else (none)) else (some (0, 0))
def pleatref03_relocs.j1 : Nat → Int → Bool → ByteArray → List Int → Int → List Int → List (S65) → List (S82) → Int → Int → Option (Int × Int)
 | 0, _, _, _, _, _, _, _, _, _, _ => none
 | k + 1, x4, x59, x280000, x280001, x280002, x280003, x280004, x280005, x282000, x282001 => if x59 = true then (some (24, x4)) else (if 0 ≤ x282000 then (if x282000 < (x280001.length : Int) then ((pleatref02_Target.f k (rd x280001 x282000)).bind fun bt284 => (if bt284.2 = true then (if bt284.1 = 0 then (pleatref03_relocs.l0 k (wrap64 (x4 + 1)) x280000 x280001 x280002 x280003 x280004 x280005) else (some (24, x4))) else (some (24, x4)))) else (none)) else (none))
end
def pleatref03_relocs.f (k : Nat) (a0_0 : ByteArray) (l0_1 : List Int) (a0_2 : Int) (l0_3 : List Int) (l0_4 : List (S65)) (l0_5 : List (S82)) : Option (Int × Int) := pleatref03_relocs.l0 k 0 a0_0 l0_1 a0_2 l0_3 l0_4 l0_5
theorem pleatref03_relocs.mono_l : ∀ k, (∀ y0 y1 y2 y3 y4 y5 y6, LeO (pleatref03_relocs.l0 k y0 y1 y2 y3 y4 y5 y6) (pleatref03_relocs.l0 (k + 1) y0 y1 y2 y3 y4 y5 y6)) ∧ (∀ y0 y1 y2 y3 y4 y5 y6 y7 y8 y9, LeO (pleatref03_relocs.j1 k y0 y1 y2 y3 y4 y5 y6 y7 y8 y9) (pleatref03_relocs.j1 (k + 1) y0 y1 y2 y3 y4 y5 y6 y7 y8 y9))
 | 0 => ⟨fun _ _ _ _ _ _ _ r h => by simp [pleatref03_relocs.l0] at h, fun _ _ _ _ _ _ _ _ _ _ r h => by simp [pleatref03_relocs.j1] at h⟩
 | k + 1 => by
  obtain ⟨ih0, ih1⟩ := pleatref03_relocs.mono_l k
  refine ⟨?_, ?_⟩
  ·
   intro y0 y1 y2 y3 y4 y5 y6
   unfold pleatref03_relocs.l0
   repeat' first
   | (with_reducible first | exact ih0 _ _ _ _ _ _ _ | exact ih1 _ _ _ _ _ _ _ _ _ _ | exact pleatref02_Target.mono _ _ | exact LeO.refl _ | exact LeO.none _ | refine LeO.ite ?_ ?_ | refine LeO.bind ?_ (fun _ => ?_))
  ·
   intro y0 y1 y2 y3 y4 y5 y6 y7 y8 y9
   unfold pleatref03_relocs.j1
   repeat' first
   | (with_reducible first | exact ih0 _ _ _ _ _ _ _ | exact ih1 _ _ _ _ _ _ _ _ _ _ | exact pleatref02_Target.mono _ _ | exact LeO.refl _ | exact LeO.none _ | refine LeO.ite ?_ ?_ | refine LeO.bind ?_ (fun _ => ?_))
theorem pleatref03_relocs.mono : ∀ a0 a1 a2 a3 a4 a5 k, LeO (pleatref03_relocs.f k a0 a1 a2 a3 a4 a5) (pleatref03_relocs.f (k + 1) a0 a1 a2 a3 a4 a5) := by
 intro a0 a1 a2 a3 a4 a5 k
 obtain ⟨ih0, ih1⟩ := pleatref03_relocs.mono_l k
 unfold pleatref03_relocs.f
 repeat' first
   | (with_reducible first | exact ih0 _ _ _ _ _ _ _ | exact ih1 _ _ _ _ _ _ _ _ _ _ | exact pleatref02_Target.mono _ _ | exact LeO.refl _ | exact LeO.none _ | refine LeO.ite ?_ ?_ | refine LeO.bind ?_ (fun _ => ?_))
set_option maxHeartbeats 8000000 in
set_option maxRecDepth 100000 in
theorem pleatref03_relocs.calls (k : Nat) (a0_0 : ByteArray) (A0_1 : Option Addr) (c0_1 : Nat) (l0_1 : List Int) (a0_2 : Int) (A0_3 : Option Addr) (c0_3 : Nat) (l0_3 : List Int) (A0_4 : Option Addr) (c0_4 : Nat) (l0_4 : List (S65)) (A0_5 : Option Addr) (c0_5 : Nat) (l0_5 : List (S82)) (r1 : Int) (r2 : Int) (w : World) (hr0_1 : Kd.C (Kd.int .u32) w A0_1 l0_1.length l0_1) (hc0_1 : l0_1.length ≤ c0_1) (hr0_3 : Kd.C (Kd.int .i64) w A0_3 l0_3.length l0_3) (hc0_3 : l0_3.length ≤ c0_3) (hr0_4 : Kd.C k65 w A0_4 l0_4.length l0_4) (hc0_4 : l0_4.length ≤ c0_4) (hr0_5 : Kd.C k82 w A0_5 l0_5.length l0_5) (hc0_5 : l0_5.length ≤ c0_5) (h : pleatref03_relocs.f k a0_0 l0_1 a0_2 l0_3 l0_4 l0_5 = some (r1, r2)) :
  Calls Tryz.prog 88 #[.agg #[.string a0_0, .slice A0_1 l0_1.length c0_1, .int .i64 a0_2, .slice A0_3 l0_3.length c0_3, .slice A0_4 l0_4.length c0_4, .slice A0_5 l0_5.length c0_5]] w fun e w' => e = .returned (.tuple #[.int .i64 r1, .int .i64 r2]) ∧ Below w.heap.size w w' := by
 have hu27 := Tryz.underlying27
 have hu82 := Tryz.underlying82
 have HR0_1 := Aside0.mk hr0_1
 have HC0_1 := Aside0.mk hc0_1
 clear hr0_1 hc0_1
 have HR0_3 := Aside0.mk hr0_3
 have HC0_3 := Aside0.mk hc0_3
 clear hr0_3 hc0_3
 have HR0_4 := Aside0.mk hr0_4
 have HC0_4 := Aside0.mk hc0_4
 clear hr0_4 hc0_4
 have HR0_5 := Aside0.mk hr0_5
 have HC0_5 := Aside0.mk hc0_5
 clear hr0_5 hc0_5
 have HB := Aside0.mk (Below.refl w.heap.size w)
 have H : (pleatref03_relocs.l0 k 0 a0_0 l0_1 a0_2 l0_3 l0_4 l0_5) = some (r1, r2) := h
 clear h
 have H' := Aside0.mk H
 clear H
 go_enter Tryz.func88, Tryz.ntmps88
 go_wp2_with (first | ((with_reducible refine gate_dst (N := 1) rfl ?_); (try (refine gate_guard (by rfl) ?_; dsimp only)); refine box_event ?hg (N := 1) ?hd (cs := #[.string a0_0, .slice A0_1 l0_1.length c0_1, .int .i64 a0_2, .slice A0_3 l0_3.length c0_3, .slice A0_4 l0_4.length c0_4, .slice A0_5 l0_5.length c0_5]) (t := 27) ?hr ?_; (case hd => rfl); (case hg => rfl); (case hr => go_simp; try rfl); intro gb279 hg w2 hbox hb; have BK279 := Aside0.mk (hbox); have GW279 := Aside0.mk (gwQ hg HB.out); have GE279 := Aside0.mk (gwQ hg HB.out); replace HB := Aside0.mk (bsQ hb HB.out); clear hb hbox hg))
 repeat (go_quiet (first | ((with_reducible refine gate_dst (N := 1) rfl ?_); (try (refine gate_guard (by rfl) ?_; dsimp only)); refine box_event ?hg (N := 1) ?hd (cs := #[.string a0_0, .slice A0_1 l0_1.length c0_1, .int .i64 a0_2, .slice A0_3 l0_3.length c0_3, .slice A0_4 l0_4.length c0_4, .slice A0_5 l0_5.length c0_5]) (t := 27) ?hr ?_; (case hd => rfl); (case hg => rfl); (case hr => go_simp; try rfl); intro gb279 hg w2 hbox hb; have BK279 := Aside0.mk (hbox); have GW279 := Aside0.mk (gwQ hg HB.out); have GE279 := Aside0.mk (gwQ hg HB.out); replace HB := Aside0.mk (bsQ hb HB.out); clear hb hbox hg)); try go_wp2_with (first | ((with_reducible refine gate_dst (N := 1) rfl ?_); (try (refine gate_guard (by rfl) ?_; dsimp only)); refine box_event ?hg (N := 1) ?hd (cs := #[.string a0_0, .slice A0_1 l0_1.length c0_1, .int .i64 a0_2, .slice A0_3 l0_3.length c0_3, .slice A0_4 l0_4.length c0_4, .slice A0_5 l0_5.length c0_5]) (t := 27) ?hr ?_; (case hd => rfl); (case hg => rfl); (case hr => go_simp; try rfl); intro gb279 hg w2 hbox hb; have BK279 := Aside0.mk (hbox); have GW279 := Aside0.mk (gwQ hg HB.out); have GE279 := Aside0.mk (gwQ hg HB.out); replace HB := Aside0.mk (bsQ hb HB.out); clear hb hbox hg)))
 go_loopg [4] k (fun kq v4 w' => ∃ (x4_1 : Int), v4 = .int .i64 x4_1 ∧ Aside0 (pleatref03_relocs.l0 kq x4_1 a0_0 l0_1 a0_2 l0_3 l0_4 l0_5 = some (r1, r2)) ∧ Aside0 (kq ≤ k) ∧ Aside0 (w'.heap[gb279]? = some (.cells #[.string a0_0, (.slice A0_1 l0_1.length c0_1), .int .i64 a0_2, (.slice A0_3 l0_3.length c0_3), (.slice A0_4 l0_4.length c0_4), (.slice A0_5 l0_5.length c0_5)] 27 (0, 0))) ∧ Aside0 (Below w.heap.size w w'))
 case atStart => exact ⟨(0), (by first | rfl | (simp; done) | (simp [*]; done)), H', ⟨Nat.le_refl _⟩, ⟨by exact BK279.out⟩, ⟨by repeat with_reducible first | exact HB.out | apply pw_below_drewN | apply below_drew1 | refine below_set ?_ GE279.out⟩⟩
 case round =>
  clear H'
  try clear p2
  obtain ⟨x4_1, rfl, HA, HK1, BK279, HB⟩ := hrel
  cases gk with
  | zero => exact absurd HA.out (by simp [pleatref03_relocs.l0])
  | succ k1 =>
   have H := HA.out
   clear HA
   simp only [pleatref03_relocs.l0] at H
   by_cases c3 : x4_1 < (l0_5.length : Int)
   ·
    rw [if_pos c3] at H
    have c3b0 : decide (x4_1 < (l0_5.length : Int)) = true := decide_eq_true c3
    clear c3
    by_cases c4 : 0 ≤ x4_1
    ·
     rw [if_pos c4] at H
     have c4b0 : decide (0 ≤ x4_1) = true := decide_eq_true c4
     clear c4
     have HC5 := Aside0.mk H
     clear H
     obtain ⟨hcz6_0, hcz6_1, hcz6_2, hcz6_3, hcz6_4, hcz6_5⟩ := bcQ6 BK279.out
     obtain ⟨hfz6_0, hfz6_1, hfz6_2, hfz6_3, hfz6_4, hfz6_5⟩ := fzQ6 BK279.out
     have p280 : 0 ≤ (x4_1 : Int) := of_decide_eq_true ‹_›
     have q280 : x4_1 < (l0_5.length : Int) := of_decide_eq_true ‹_›
     obtain ⟨ad280, e280, hx280_0, hx280_1⟩ := atQ82 HR0_5.out HB.out x4_1 p280 q280
     cases e280
     replace p280 := eq_true p280
     replace q280 := eq_true q280
     go_upto_region 5 with (first | ((with_reducible refine gate_dst (N := 5) rfl ?_); (try (refine gate_guard (by rfl) ?_; dsimp only)); refine box_event ?hg (N := 5) ?hd (cs := #[.int .i64 0, .int .i64 0]) (t := 82) ?hr ?_; (case hd => rfl); (case hg => rfl); (case hr => go_simp; try rfl); intro gb281 hg w7 hbox hb; have n0_ := Aside0.mk (bbQ hb BK279.out); have n1_ := Aside0.mk (bs1Q hb (by repeat with_reducible first | exact HB.out | apply pw_below_drewN | apply below_drew1 | refine below_set ?_ GE279.out)); have n2_ := Aside0.mk (hbox); have n3_ := Aside0.mk (gw1Q hg (by repeat with_reducible first | exact HB.out | apply pw_below_drewN | apply below_drew1 | refine below_set ?_ GE279.out)); have n4_ := Aside0.mk (gw1Q hg (by repeat with_reducible first | exact HB.out | apply pw_below_drewN | apply below_drew1 | refine below_set ?_ GE279.out)); have n5_ := Aside0.mk ((by rw [hg]; exact Nat.ne_of_lt (blk_lt (g := gb279) (o := .cells #[.string a0_0, .slice A0_1 l0_1.length c0_1, .int .i64 a0_2, .slice A0_3 l0_3.length c0_3, .slice A0_4 l0_4.length c0_4, .slice (some ad280) l0_5.length c0_5] 27 (0, 0)) (by exact BK279.out)) : gb279 ≠ gb281)); have n6_ := Aside0.mk ((by rw [hg]; exact Nat.ne_of_gt (blk_lt (g := gb279) (o := .cells #[.string a0_0, .slice A0_1 l0_1.length c0_1, .int .i64 a0_2, .slice A0_3 l0_3.length c0_3, .slice A0_4 l0_4.length c0_4, .slice (some ad280) l0_5.length c0_5] 27 (0, 0)) (by exact BK279.out)) : gb281 ≠ gb279)); clear BK279; clear HB; have BK279 := n0_; have HB := n1_; have BK281 := n2_; have GW281 := n3_; have GE281 := n4_; have NB279_281 := n5_; have NB281_279 := n6_; clear n0_ n1_ n2_ n3_ n4_ n5_ n6_; clear hb hbox hg; have hnb8 := NB281_279.out; have hnc8 := NB279_281.out; obtain ⟨hcz9_0, hcz9_1⟩ := bcQ2 BK281.out; obtain ⟨hfz9_0, hfz9_1⟩ := fzQ2 BK281.out))
     repeat (go_quiet (first | ((with_reducible refine gate_dst (N := 5) rfl ?_); (try (refine gate_guard (by rfl) ?_; dsimp only)); refine box_event ?hg (N := 5) ?hd (cs := #[.int .i64 0, .int .i64 0]) (t := 82) ?hr ?_; (case hd => rfl); (case hg => rfl); (case hr => go_simp; try rfl); intro gb281 hg w7 hbox hb; have n0_ := Aside0.mk (bbQ hb BK279.out); have n1_ := Aside0.mk (bs1Q hb (by repeat with_reducible first | exact HB.out | apply pw_below_drewN | apply below_drew1 | refine below_set ?_ GE279.out)); have n2_ := Aside0.mk (hbox); have n3_ := Aside0.mk (gw1Q hg (by repeat with_reducible first | exact HB.out | apply pw_below_drewN | apply below_drew1 | refine below_set ?_ GE279.out)); have n4_ := Aside0.mk (gw1Q hg (by repeat with_reducible first | exact HB.out | apply pw_below_drewN | apply below_drew1 | refine below_set ?_ GE279.out)); have n5_ := Aside0.mk ((by rw [hg]; exact Nat.ne_of_lt (blk_lt (g := gb279) (o := .cells #[.string a0_0, .slice A0_1 l0_1.length c0_1, .int .i64 a0_2, .slice A0_3 l0_3.length c0_3, .slice A0_4 l0_4.length c0_4, .slice (some ad280) l0_5.length c0_5] 27 (0, 0)) (by exact BK279.out)) : gb279 ≠ gb281)); have n6_ := Aside0.mk ((by rw [hg]; exact Nat.ne_of_gt (blk_lt (g := gb279) (o := .cells #[.string a0_0, .slice A0_1 l0_1.length c0_1, .int .i64 a0_2, .slice A0_3 l0_3.length c0_3, .slice A0_4 l0_4.length c0_4, .slice (some ad280) l0_5.length c0_5] 27 (0, 0)) (by exact BK279.out)) : gb281 ≠ gb279)); clear BK279; clear HB; have BK279 := n0_; have HB := n1_; have BK281 := n2_; have GW281 := n3_; have GE281 := n4_; have NB279_281 := n5_; have NB281_279 := n6_; clear n0_ n1_ n2_ n3_ n4_ n5_ n6_; clear hb hbox hg; have hnb8 := NB281_279.out; have hnc8 := NB279_281.out; obtain ⟨hcz9_0, hcz9_1⟩ := bcQ2 BK281.out; obtain ⟨hfz9_0, hfz9_1⟩ := fzQ2 BK281.out)); go_upto_region 5 with (first | ((with_reducible refine gate_dst (N := 5) rfl ?_); (try (refine gate_guard (by rfl) ?_; dsimp only)); refine box_event ?hg (N := 5) ?hd (cs := #[.int .i64 0, .int .i64 0]) (t := 82) ?hr ?_; (case hd => rfl); (case hg => rfl); (case hr => go_simp; try rfl); intro gb281 hg w7 hbox hb; have n0_ := Aside0.mk (bbQ hb BK279.out); have n1_ := Aside0.mk (bs1Q hb (by repeat with_reducible first | exact HB.out | apply pw_below_drewN | apply below_drew1 | refine below_set ?_ GE279.out)); have n2_ := Aside0.mk (hbox); have n3_ := Aside0.mk (gw1Q hg (by repeat with_reducible first | exact HB.out | apply pw_below_drewN | apply below_drew1 | refine below_set ?_ GE279.out)); have n4_ := Aside0.mk (gw1Q hg (by repeat with_reducible first | exact HB.out | apply pw_below_drewN | apply below_drew1 | refine below_set ?_ GE279.out)); have n5_ := Aside0.mk ((by rw [hg]; exact Nat.ne_of_lt (blk_lt (g := gb279) (o := .cells #[.string a0_0, .slice A0_1 l0_1.length c0_1, .int .i64 a0_2, .slice A0_3 l0_3.length c0_3, .slice A0_4 l0_4.length c0_4, .slice (some ad280) l0_5.length c0_5] 27 (0, 0)) (by exact BK279.out)) : gb279 ≠ gb281)); have n6_ := Aside0.mk ((by rw [hg]; exact Nat.ne_of_gt (blk_lt (g := gb279) (o := .cells #[.string a0_0, .slice A0_1 l0_1.length c0_1, .int .i64 a0_2, .slice A0_3 l0_3.length c0_3, .slice A0_4 l0_4.length c0_4, .slice (some ad280) l0_5.length c0_5] 27 (0, 0)) (by exact BK279.out)) : gb281 ≠ gb279)); clear BK279; clear HB; have BK279 := n0_; have HB := n1_; have BK281 := n2_; have GW281 := n3_; have GE281 := n4_; have NB279_281 := n5_; have NB281_279 := n6_; clear n0_ n1_ n2_ n3_ n4_ n5_ n6_; clear hb hbox hg; have hnb8 := NB281_279.out; have hnc8 := NB279_281.out; obtain ⟨hcz9_0, hcz9_1⟩ := bcQ2 BK281.out; obtain ⟨hfz9_0, hfz9_1⟩ := fzQ2 BK281.out)))
     (try simp only [Act.put, List.setIfInBounds_toArray, List.set_cons_zero, List.set_cons_succ])
     go_cut [59] (fun v59 wc => ∃ (kq : Nat) (x59_4 : Bool), v59 = .bool x59_4 ∧ Aside0 (pleatref03_relocs.j1 kq x4_1 x59_4 a0_0 l0_1 a0_2 l0_3 l0_4 l0_5 ((rd_T82 l0_5 x4_1).f0) ((rd_T82 l0_5 x4_1).f1) = some (r1, r2)) ∧ Aside0 (kq ≤ k1) ∧ Aside0 (wc.heap[gb279]? = some (.cells #[.string a0_0, (.slice A0_1 l0_1.length c0_1), .int .i64 a0_2, (.slice A0_3 l0_3.length c0_3), (.slice A0_4 l0_4.length c0_4), (.slice (some ad280) l0_5.length c0_5)] 27 (0, 0))) ∧ Aside0 (wc.heap[gb281]? = some (.cells #[.int .i64 ((rd_T82 l0_5 x4_1).f0), .int .i64 ((rd_T82 l0_5 x4_1).f1)] 82 (0, 0))) ∧ Aside0 (Below w.heap.size w wc))
     case first =>
      have H := HC5.out
      clear HC5
      by_cases c10 : ((rd_T82 l0_5 x4_1).f0) < 0
      ·
       rw [if_pos c10] at H
       have c10b0 : decide (((rd_T82 l0_5 x4_1).f0) < 0) = true := decide_eq_true c10
       clear c10
       (first | rw [c10b0] | (simp only [i64_w, i32_w]; rw [c10b0]) | skip)
       have H' := Aside0.mk H
       clear H
       have hnb11 := NB281_279.out
       have hnc11 := NB279_281.out
       obtain ⟨hcz12_0, hcz12_1⟩ := bcQ2 BK281.out
       obtain ⟨hfz12_0, hfz12_1⟩ := fzQ2 BK281.out
       go_wp2
       repeat (go_quiet (fail); try go_wp2)
       go_meet
       case rel => exact ⟨_, (true), (by first | rfl | (simp; done) | (simp [*]; done)), H', ⟨by have := HK1.out; first | omega | exact Nat.le_refl _⟩, ⟨by refine blk_far ?_ NB279_281.out _; refine blk_far ?_ NB279_281.out _; exact BK279.out⟩, ⟨by refine blk_put (cs := #[.int .i64 ((rd_T82 l0_5 x4_1).f0), .int .i64 0]) ?_ 1 _ rfl; refine blk_put (cs := #[.int .i64 0, .int .i64 0]) ?_ 0 _ rfl; exact BK281.out⟩, ⟨by repeat with_reducible first | exact HB.out | apply pw_below_drewN | apply below_drew1 | refine below_set ?_ GE279.out | refine below_set ?_ GE281.out⟩⟩
      ·
       rw [if_neg c10] at H
       have c10b0 : decide (((rd_T82 l0_5 x4_1).f0) < 0) = false := decide_eq_false c10
       clear c10
       (first | rw [c10b0] | (simp only [i64_w, i32_w]; rw [c10b0]) | skip)
       by_cases c13 : ((rd_T82 l0_5 x4_1).f0) ≥ (l0_1.length : Int)
       ·
        rw [if_pos c13] at H
        have c13b0 : decide ((l0_1.length : Int) ≤ ((rd_T82 l0_5 x4_1).f0)) = true := decide_eq_true c13
        clear c13
        have H' := Aside0.mk H
        clear H
        have hnb14 := NB281_279.out
        have hnc14 := NB279_281.out
        obtain ⟨hcz15_0, hcz15_1⟩ := bcQ2 BK281.out
        obtain ⟨hfz15_0, hfz15_1⟩ := fzQ2 BK281.out
        obtain ⟨hcz16_0, hcz16_1, hcz16_2, hcz16_3, hcz16_4, hcz16_5⟩ := bcQ6 BK279.out
        obtain ⟨hfz16_0, hfz16_1, hfz16_2, hfz16_3, hfz16_4, hfz16_5⟩ := fzQ6 BK279.out
        go_wp2
        repeat (go_quiet (fail); try go_wp2)
        go_meet
        case rel => exact ⟨_, (true), (by first | rfl | (simp; done) | (simp [*]; done)), H', ⟨by have := HK1.out; first | omega | exact Nat.le_refl _⟩, ⟨by refine blk_far ?_ NB279_281.out _; refine blk_far ?_ NB279_281.out _; exact BK279.out⟩, ⟨by refine blk_put (cs := #[.int .i64 ((rd_T82 l0_5 x4_1).f0), .int .i64 0]) ?_ 1 _ rfl; refine blk_put (cs := #[.int .i64 0, .int .i64 0]) ?_ 0 _ rfl; exact BK281.out⟩, ⟨by repeat with_reducible first | exact HB.out | apply pw_below_drewN | apply below_drew1 | refine below_set ?_ GE279.out | refine below_set ?_ GE281.out⟩⟩
       ·
        rw [if_neg c13] at H
        have c13b0 : decide ((l0_1.length : Int) ≤ ((rd_T82 l0_5 x4_1).f0)) = false := decide_eq_false c13
        clear c13
        by_cases c17 : x4_1 > 0
        ·
         rw [if_pos c17] at H
         have c17b0 : decide (0 < x4_1) = true := decide_eq_true c17
         clear c17
         obtain ⟨ji18, hji18⟩ : ∃ j_ : Int, (wrap64 (x4_1 - 1)) = j_ := ⟨_, rfl⟩
         replace H : (if 0 ≤ (ji18) then (if (ji18) < (l0_5.length : Int) then (if ((rd_T82 l0_5 x4_1).f0) ≤ ((rd_T82 l0_5 (ji18)).f0) then (pleatref03_relocs.j1 k1 x4_1 true a0_0 l0_1 a0_2 l0_3 l0_4 l0_5 ((rd_T82 l0_5 x4_1).f0) ((rd_T82 l0_5 x4_1).f1)) else (if ((rd_T82 l0_5 x4_1).f1) < 0 then (pleatref03_relocs.j1 k1 x4_1 true a0_0 l0_1 a0_2 l0_3 l0_4 l0_5 ((rd_T82 l0_5 x4_1).f0) ((rd_T82 l0_5 x4_1).f1)) else (pleatref03_relocs.j1 k1 x4_1 (decide (((rd_T82 l0_5 x4_1).f1) ≥ (l0_4.length : Int))) a0_0 l0_1 a0_2 l0_3 l0_4 l0_5 ((rd_T82 l0_5 x4_1).f0) ((rd_T82 l0_5 x4_1).f1)))) else (none)) else (none)) = some (r1, r2) := by first | (rw [hji18] at H; exact H) | (simp only [hji18] at H ⊢; exact H)
         have hji18w : (IntKind.i64.wrap (x4_1 - 1)) = ji18 := (i64_w _).trans hji18
         by_cases c19 : 0 ≤ (ji18)
         ·
          rw [if_pos c19] at H
          have c19b0 : decide (0 ≤ (ji18)) = true := decide_eq_true c19
          clear c19
          by_cases c20 : (ji18) < (l0_5.length : Int)
          ·
           rw [if_pos c20] at H
           have c20b0 : decide ((ji18) < (l0_5.length : Int)) = true := decide_eq_true c20
           clear c20
           by_cases c21 : ((rd_T82 l0_5 x4_1).f0) ≤ ((rd_T82 l0_5 (ji18)).f0)
           ·
            rw [if_pos c21] at H
            have c21b0 : decide (((rd_T82 l0_5 x4_1).f0) ≤ ((rd_T82 l0_5 (ji18)).f0)) = true := decide_eq_true c21
            clear c21
            have H' := Aside0.mk H
            clear H
            have hnb22 := NB281_279.out
            have hnc22 := NB279_281.out
            obtain ⟨hcz23_0, hcz23_1⟩ := bcQ2 BK281.out
            obtain ⟨hfz23_0, hfz23_1⟩ := fzQ2 BK281.out
            obtain ⟨hcz24_0, hcz24_1, hcz24_2, hcz24_3, hcz24_4, hcz24_5⟩ := bcQ6 BK279.out
            obtain ⟨hfz24_0, hfz24_1, hfz24_2, hfz24_3, hfz24_4, hfz24_5⟩ := fzQ6 BK279.out
            have p282 : 0 ≤ ((ji18) : Int) := of_decide_eq_true ‹_›
            have q282 : (ji18) < (l0_5.length : Int) := of_decide_eq_true ‹_›
            obtain ⟨ad282, e282, hx282_0, hx282_1⟩ := at_T82 HR0_5.out (ji18) p282 q282
            obtain rfl : ad280 = ad282 := (by injection e282)
            have hn282_0 : ad280.block ≠ gb281 := Nat.ne_of_lt (Nat.lt_of_lt_of_le (by have := World.block_lt_of_cell? _ _ hx282_0; first | rwa [add_block] at this | exact this) GW281.out)
            have hn282_1 : ad280.block ≠ gb281 := Nat.ne_of_lt (Nat.lt_of_lt_of_le (by have := World.block_lt_of_cell? _ _ hx282_0; first | rwa [add_block] at this | exact this) GW281.out)
            replace hx282_0 := pw_cell_below HB.out hx282_0
            replace hx282_1 := pw_cell_below HB.out hx282_1
            replace hx282_0 := (cell_far (p := ⟨gb281, 0, none⟩) (by first | (rw [add_block]; exact hn282_0) | (show (Addr.add _ _).block ≠ _; rw [add_block]; exact hn282_0) | exact hn282_0) (.int .i64 ((rd_T82 l0_5 x4_1).f0))).trans hx282_0
            replace hx282_1 := (cell_far (p := ⟨gb281, 0, none⟩) (by first | (rw [add_block]; exact hn282_0) | (show (Addr.add _ _).block ≠ _; rw [add_block]; exact hn282_0) | exact hn282_0) (.int .i64 ((rd_T82 l0_5 x4_1).f0))).trans hx282_1
            replace hx282_0 := (cell_far (p := ⟨gb281, 1, none⟩) (by first | (rw [add_block]; exact hn282_1) | (show (Addr.add _ _).block ≠ _; rw [add_block]; exact hn282_1) | exact hn282_1) (.int .i64 ((rd_T82 l0_5 x4_1).f1))).trans hx282_0
            replace hx282_1 := (cell_far (p := ⟨gb281, 1, none⟩) (by first | (rw [add_block]; exact hn282_1) | (show (Addr.add _ _).block ≠ _; rw [add_block]; exact hn282_1) | exact hn282_1) (.int .i64 ((rd_T82 l0_5 x4_1).f1))).trans hx282_1
            (try have hy282_0 := fun (n_ : Nat) => (show ((((w7.drewN n_).setCell ⟨gb281, 0, none⟩ (.int .i64 ((rd_T82 l0_5 x4_1).f0))).setCell ⟨gb281, 1, none⟩ (.int .i64 ((rd_T82 l0_5 x4_1).f1)))).cell? _ = some _ from hx282_0))
            (try have hy282_1 := fun (n_ : Nat) => (show ((((w7.drewN n_).setCell ⟨gb281, 0, none⟩ (.int .i64 ((rd_T82 l0_5 x4_1).f0))).setCell ⟨gb281, 1, none⟩ (.int .i64 ((rd_T82 l0_5 x4_1).f1)))).cell? _ = some _ from hx282_1))
            clear hn282_0
            clear hn282_1
            replace p282 := eq_true p282
            replace q282 := eq_true q282
            go_wp2
            repeat (go_quiet (fail); try go_wp2)
            go_meet
            case rel => exact ⟨_, (true), (by first | rfl | (simp; done) | (simp [*]; done)), H', ⟨by have := HK1.out; first | omega | exact Nat.le_refl _⟩, ⟨by refine blk_far ?_ NB279_281.out _; refine blk_far ?_ NB279_281.out _; exact BK279.out⟩, ⟨by refine blk_put (cs := #[.int .i64 ((rd_T82 l0_5 x4_1).f0), .int .i64 0]) ?_ 1 _ rfl; refine blk_put (cs := #[.int .i64 0, .int .i64 0]) ?_ 0 _ rfl; exact BK281.out⟩, ⟨by repeat with_reducible first | exact HB.out | apply pw_below_drewN | apply below_drew1 | refine below_set ?_ GE279.out | refine below_set ?_ GE281.out⟩⟩
           ·
            rw [if_neg c21] at H
            have c21b0 : decide (((rd_T82 l0_5 x4_1).f0) ≤ ((rd_T82 l0_5 (ji18)).f0)) = false := decide_eq_false c21
            clear c21
            by_cases c25 : ((rd_T82 l0_5 x4_1).f1) < 0
            ·
             rw [if_pos c25] at H
             have c25b0 : decide (((rd_T82 l0_5 x4_1).f1) < 0) = true := decide_eq_true c25
             clear c25
             have H' := Aside0.mk H
             clear H
             have hnb26 := NB281_279.out
             have hnc26 := NB279_281.out
             obtain ⟨hcz27_0, hcz27_1⟩ := bcQ2 BK281.out
             obtain ⟨hfz27_0, hfz27_1⟩ := fzQ2 BK281.out
             obtain ⟨hcz28_0, hcz28_1, hcz28_2, hcz28_3, hcz28_4, hcz28_5⟩ := bcQ6 BK279.out
             obtain ⟨hfz28_0, hfz28_1, hfz28_2, hfz28_3, hfz28_4, hfz28_5⟩ := fzQ6 BK279.out
             have p282 : 0 ≤ ((ji18) : Int) := of_decide_eq_true ‹_›
             have q282 : (ji18) < (l0_5.length : Int) := of_decide_eq_true ‹_›
             obtain ⟨ad282, e282, hx282_0, hx282_1⟩ := at_T82 HR0_5.out (ji18) p282 q282
             obtain rfl : ad280 = ad282 := (by injection e282)
             have hn282_0 : ad280.block ≠ gb281 := Nat.ne_of_lt (Nat.lt_of_lt_of_le (by have := World.block_lt_of_cell? _ _ hx282_0; first | rwa [add_block] at this | exact this) GW281.out)
             have hn282_1 : ad280.block ≠ gb281 := Nat.ne_of_lt (Nat.lt_of_lt_of_le (by have := World.block_lt_of_cell? _ _ hx282_0; first | rwa [add_block] at this | exact this) GW281.out)
             replace hx282_0 := pw_cell_below HB.out hx282_0
             replace hx282_1 := pw_cell_below HB.out hx282_1
             replace hx282_0 := (cell_far (p := ⟨gb281, 0, none⟩) (by first | (rw [add_block]; exact hn282_0) | (show (Addr.add _ _).block ≠ _; rw [add_block]; exact hn282_0) | exact hn282_0) (.int .i64 ((rd_T82 l0_5 x4_1).f0))).trans hx282_0
             replace hx282_1 := (cell_far (p := ⟨gb281, 0, none⟩) (by first | (rw [add_block]; exact hn282_0) | (show (Addr.add _ _).block ≠ _; rw [add_block]; exact hn282_0) | exact hn282_0) (.int .i64 ((rd_T82 l0_5 x4_1).f0))).trans hx282_1
             replace hx282_0 := (cell_far (p := ⟨gb281, 1, none⟩) (by first | (rw [add_block]; exact hn282_1) | (show (Addr.add _ _).block ≠ _; rw [add_block]; exact hn282_1) | exact hn282_1) (.int .i64 ((rd_T82 l0_5 x4_1).f1))).trans hx282_0
             replace hx282_1 := (cell_far (p := ⟨gb281, 1, none⟩) (by first | (rw [add_block]; exact hn282_1) | (show (Addr.add _ _).block ≠ _; rw [add_block]; exact hn282_1) | exact hn282_1) (.int .i64 ((rd_T82 l0_5 x4_1).f1))).trans hx282_1
             (try have hy282_0 := fun (n_ : Nat) => (show ((((w7.drewN n_).setCell ⟨gb281, 0, none⟩ (.int .i64 ((rd_T82 l0_5 x4_1).f0))).setCell ⟨gb281, 1, none⟩ (.int .i64 ((rd_T82 l0_5 x4_1).f1)))).cell? _ = some _ from hx282_0))
             (try have hy282_1 := fun (n_ : Nat) => (show ((((w7.drewN n_).setCell ⟨gb281, 0, none⟩ (.int .i64 ((rd_T82 l0_5 x4_1).f0))).setCell ⟨gb281, 1, none⟩ (.int .i64 ((rd_T82 l0_5 x4_1).f1)))).cell? _ = some _ from hx282_1))
             clear hn282_0
             clear hn282_1
             replace p282 := eq_true p282
             replace q282 := eq_true q282
             go_wp2
             repeat (go_quiet (fail); try go_wp2)
             go_meet
             case rel => exact ⟨_, (true), (by first | rfl | (simp; done) | (simp [*]; done)), H', ⟨by have := HK1.out; first | omega | exact Nat.le_refl _⟩, ⟨by refine blk_far ?_ NB279_281.out _; refine blk_far ?_ NB279_281.out _; exact BK279.out⟩, ⟨by refine blk_put (cs := #[.int .i64 ((rd_T82 l0_5 x4_1).f0), .int .i64 0]) ?_ 1 _ rfl; refine blk_put (cs := #[.int .i64 0, .int .i64 0]) ?_ 0 _ rfl; exact BK281.out⟩, ⟨by repeat with_reducible first | exact HB.out | apply pw_below_drewN | apply below_drew1 | refine below_set ?_ GE279.out | refine below_set ?_ GE281.out⟩⟩
            ·
             rw [if_neg c25] at H
             have c25b0 : decide (((rd_T82 l0_5 x4_1).f1) < 0) = false := decide_eq_false c25
             clear c25
             have H' := Aside0.mk H
             clear H
             have hnb29 := NB281_279.out
             have hnc29 := NB279_281.out
             obtain ⟨hcz30_0, hcz30_1⟩ := bcQ2 BK281.out
             obtain ⟨hfz30_0, hfz30_1⟩ := fzQ2 BK281.out
             obtain ⟨hcz31_0, hcz31_1, hcz31_2, hcz31_3, hcz31_4, hcz31_5⟩ := bcQ6 BK279.out
             obtain ⟨hfz31_0, hfz31_1, hfz31_2, hfz31_3, hfz31_4, hfz31_5⟩ := fzQ6 BK279.out
             have p282 : 0 ≤ ((ji18) : Int) := of_decide_eq_true ‹_›
             have q282 : (ji18) < (l0_5.length : Int) := of_decide_eq_true ‹_›
             obtain ⟨ad282, e282, hx282_0, hx282_1⟩ := at_T82 HR0_5.out (ji18) p282 q282
             obtain rfl : ad280 = ad282 := (by injection e282)
             have hn282_0 : ad280.block ≠ gb281 := Nat.ne_of_lt (Nat.lt_of_lt_of_le (by have := World.block_lt_of_cell? _ _ hx282_0; first | rwa [add_block] at this | exact this) GW281.out)
             have hn282_1 : ad280.block ≠ gb281 := Nat.ne_of_lt (Nat.lt_of_lt_of_le (by have := World.block_lt_of_cell? _ _ hx282_0; first | rwa [add_block] at this | exact this) GW281.out)
             replace hx282_0 := pw_cell_below HB.out hx282_0
             replace hx282_1 := pw_cell_below HB.out hx282_1
             replace hx282_0 := (cell_far (p := ⟨gb281, 0, none⟩) (by first | (rw [add_block]; exact hn282_0) | (show (Addr.add _ _).block ≠ _; rw [add_block]; exact hn282_0) | exact hn282_0) (.int .i64 ((rd_T82 l0_5 x4_1).f0))).trans hx282_0
             replace hx282_1 := (cell_far (p := ⟨gb281, 0, none⟩) (by first | (rw [add_block]; exact hn282_0) | (show (Addr.add _ _).block ≠ _; rw [add_block]; exact hn282_0) | exact hn282_0) (.int .i64 ((rd_T82 l0_5 x4_1).f0))).trans hx282_1
             replace hx282_0 := (cell_far (p := ⟨gb281, 1, none⟩) (by first | (rw [add_block]; exact hn282_1) | (show (Addr.add _ _).block ≠ _; rw [add_block]; exact hn282_1) | exact hn282_1) (.int .i64 ((rd_T82 l0_5 x4_1).f1))).trans hx282_0
             replace hx282_1 := (cell_far (p := ⟨gb281, 1, none⟩) (by first | (rw [add_block]; exact hn282_1) | (show (Addr.add _ _).block ≠ _; rw [add_block]; exact hn282_1) | exact hn282_1) (.int .i64 ((rd_T82 l0_5 x4_1).f1))).trans hx282_1
             (try have hy282_0 := fun (n_ : Nat) => (show ((((w7.drewN n_).setCell ⟨gb281, 0, none⟩ (.int .i64 ((rd_T82 l0_5 x4_1).f0))).setCell ⟨gb281, 1, none⟩ (.int .i64 ((rd_T82 l0_5 x4_1).f1)))).cell? _ = some _ from hx282_0))
             (try have hy282_1 := fun (n_ : Nat) => (show ((((w7.drewN n_).setCell ⟨gb281, 0, none⟩ (.int .i64 ((rd_T82 l0_5 x4_1).f0))).setCell ⟨gb281, 1, none⟩ (.int .i64 ((rd_T82 l0_5 x4_1).f1)))).cell? _ = some _ from hx282_1))
             clear hn282_0
             clear hn282_1
             replace p282 := eq_true p282
             replace q282 := eq_true q282
             go_wp2
             repeat (go_quiet (fail); try go_wp2)
             go_meet
             case rel => exact ⟨_, (decide (((rd_T82 l0_5 x4_1).f1) ≥ (l0_4.length : Int))), (by first | rfl | (simp; done) | (simp [*]; done)), H', ⟨by have := HK1.out; first | omega | exact Nat.le_refl _⟩, ⟨by refine blk_far ?_ NB279_281.out _; refine blk_far ?_ NB279_281.out _; exact BK279.out⟩, ⟨by refine blk_put (cs := #[.int .i64 ((rd_T82 l0_5 x4_1).f0), .int .i64 0]) ?_ 1 _ rfl; refine blk_put (cs := #[.int .i64 0, .int .i64 0]) ?_ 0 _ rfl; exact BK281.out⟩, ⟨by repeat with_reducible first | exact HB.out | apply pw_below_drewN | apply below_drew1 | refine below_set ?_ GE279.out | refine below_set ?_ GE281.out⟩⟩
          ·
           rw [if_neg c20] at H
           exact absurd H (by simp)
         ·
          rw [if_neg c19] at H
          exact absurd H (by simp)
        ·
         rw [if_neg c17] at H
         have c17b0 : decide (0 < x4_1) = false := decide_eq_false c17
         clear c17
         by_cases c32 : ((rd_T82 l0_5 x4_1).f1) < 0
         ·
          rw [if_pos c32] at H
          have c32b0 : decide (((rd_T82 l0_5 x4_1).f1) < 0) = true := decide_eq_true c32
          clear c32
          have H' := Aside0.mk H
          clear H
          have hnb33 := NB281_279.out
          have hnc33 := NB279_281.out
          obtain ⟨hcz34_0, hcz34_1⟩ := bcQ2 BK281.out
          obtain ⟨hfz34_0, hfz34_1⟩ := fzQ2 BK281.out
          obtain ⟨hcz35_0, hcz35_1, hcz35_2, hcz35_3, hcz35_4, hcz35_5⟩ := bcQ6 BK279.out
          obtain ⟨hfz35_0, hfz35_1, hfz35_2, hfz35_3, hfz35_4, hfz35_5⟩ := fzQ6 BK279.out
          go_wp2
          repeat (go_quiet (fail); try go_wp2)
          go_meet
          case rel => exact ⟨_, (true), (by first | rfl | (simp; done) | (simp [*]; done)), H', ⟨by have := HK1.out; first | omega | exact Nat.le_refl _⟩, ⟨by refine blk_far ?_ NB279_281.out _; refine blk_far ?_ NB279_281.out _; exact BK279.out⟩, ⟨by refine blk_put (cs := #[.int .i64 ((rd_T82 l0_5 x4_1).f0), .int .i64 0]) ?_ 1 _ rfl; refine blk_put (cs := #[.int .i64 0, .int .i64 0]) ?_ 0 _ rfl; exact BK281.out⟩, ⟨by repeat with_reducible first | exact HB.out | apply pw_below_drewN | apply below_drew1 | refine below_set ?_ GE279.out | refine below_set ?_ GE281.out⟩⟩
         ·
          rw [if_neg c32] at H
          have c32b0 : decide (((rd_T82 l0_5 x4_1).f1) < 0) = false := decide_eq_false c32
          clear c32
          have H' := Aside0.mk H
          clear H
          have hnb36 := NB281_279.out
          have hnc36 := NB279_281.out
          obtain ⟨hcz37_0, hcz37_1⟩ := bcQ2 BK281.out
          obtain ⟨hfz37_0, hfz37_1⟩ := fzQ2 BK281.out
          obtain ⟨hcz38_0, hcz38_1, hcz38_2, hcz38_3, hcz38_4, hcz38_5⟩ := bcQ6 BK279.out
          obtain ⟨hfz38_0, hfz38_1, hfz38_2, hfz38_3, hfz38_4, hfz38_5⟩ := fzQ6 BK279.out
          go_wp2
          repeat (go_quiet (fail); try go_wp2)
          go_meet
          case rel => exact ⟨_, (decide (((rd_T82 l0_5 x4_1).f1) ≥ (l0_4.length : Int))), (by first | rfl | (simp; done) | (simp [*]; done)), H', ⟨by have := HK1.out; first | omega | exact Nat.le_refl _⟩, ⟨by refine blk_far ?_ NB279_281.out _; refine blk_far ?_ NB279_281.out _; exact BK279.out⟩, ⟨by refine blk_put (cs := #[.int .i64 ((rd_T82 l0_5 x4_1).f0), .int .i64 0]) ?_ 1 _ rfl; refine blk_put (cs := #[.int .i64 0, .int .i64 0]) ?_ 0 _ rfl; exact BK281.out⟩, ⟨by repeat with_reducible first | exact HB.out | apply pw_below_drewN | apply below_drew1 | refine below_set ?_ GE279.out | refine below_set ?_ GE281.out⟩⟩
     case rest =>
      clear HC5
      try clear c1
      try clear c2
      try clear p2
      try clear q2
      try clear hx2
      try clear c3
      try clear c3b0
      try clear c4
      try clear c4b0
      try clear p6
      try clear c8
      try clear c10
      try clear c10b0
      try clear c11
      try clear c13
      try clear c13b0
      try clear c14
      try clear c17
      try clear c17b0
      try clear c19
      try clear c19b0
      try clear c20
      try clear c20b0
      try clear c21
      try clear c21b0
      try clear c22
      try clear c25
      try clear c25b0
      try clear c26
      try clear p28
      try clear q28
      try clear hx28
      try clear c29
      try clear c32
      try clear c32b0
      try clear c33
      try clear c36
      try clear hcz12_0 hcz12_1
      try clear hcz15_0 hcz15_1
      try clear hcz16_0 hcz16_1 hcz16_2 hcz16_3 hcz16_4 hcz16_5
      try clear hcz23_0 hcz23_1
      try clear hcz24_0 hcz24_1 hcz24_2 hcz24_3 hcz24_4 hcz24_5
      try clear hcz27_0 hcz27_1
      try clear hcz28_0 hcz28_1 hcz28_2 hcz28_3 hcz28_4 hcz28_5
      try clear hcz30_0 hcz30_1
      try clear hcz31_0 hcz31_1 hcz31_2 hcz31_3 hcz31_4 hcz31_5
      try clear hcz34_0 hcz34_1
      try clear hcz35_0 hcz35_1 hcz35_2 hcz35_3 hcz35_4 hcz35_5
      try clear hcz37_0 hcz37_1
      try clear hcz38_0 hcz38_1 hcz38_2 hcz38_3 hcz38_4 hcz38_5
      try clear hcz6_0 hcz6_1 hcz6_2 hcz6_3 hcz6_4 hcz6_5
      try clear hcz9_0 hcz9_1
      try clear hfz12_0 hfz12_1
      try clear hfz15_0 hfz15_1
      try clear hfz16_0 hfz16_1 hfz16_2 hfz16_3 hfz16_4 hfz16_5
      try clear hfz23_0 hfz23_1
      try clear hfz24_0 hfz24_1 hfz24_2 hfz24_3 hfz24_4 hfz24_5
      try clear hfz27_0 hfz27_1
      try clear hfz28_0 hfz28_1 hfz28_2 hfz28_3 hfz28_4 hfz28_5
      try clear hfz30_0 hfz30_1
      try clear hfz31_0 hfz31_1 hfz31_2 hfz31_3 hfz31_4 hfz31_5
      try clear hfz34_0 hfz34_1
      try clear hfz35_0 hfz35_1 hfz35_2 hfz35_3 hfz35_4 hfz35_5
      try clear hfz37_0 hfz37_1
      try clear hfz38_0 hfz38_1 hfz38_2 hfz38_3 hfz38_4 hfz38_5
      try clear hfz6_0 hfz6_1 hfz6_2 hfz6_3 hfz6_4 hfz6_5
      try clear hfz9_0 hfz9_1
      try clear hx280_0
      try clear hx280_1
      try clear hx282_0
      try clear hx282_1
      try clear p2
      try clear p280
      try clear p282
      try clear q280
      try clear q282
      obtain ⟨kq, x59_4, rfl, HA, HJ4, BK279, BK281, HB⟩ := hcut
      cases kq with
      | zero => exact absurd HA.out (by simp [pleatref03_relocs.j1])
      | succ kj4 =>
       have H := HA.out
       clear HA
       simp only [pleatref03_relocs.j1] at H
       by_cases c39 : x59_4 = true
       ·
        subst c39
        rw [if_pos rfl] at H
        simp only [Option.some.injEq, Prod.mk.injEq] at H
        obtain ⟨rfl, rfl⟩ := H
        go_wp2
        repeat (go_quiet (fail); try go_wp2)
        go_ret2
        exact ⟨by first | rfl | (simp [errW_none, errW_some] <;> rfl) | (simp [*, errW_none, errW_some] <;> rfl), by repeat with_reducible first | exact HB.out | apply pw_below_drewN | apply below_drew1 | refine below_set ?_ GE279.out | refine below_set ?_ GE281.out⟩
       ·
        replace c39 := Bool.eq_false_iff.mpr c39
        subst c39
        rw [if_neg Bool.false_ne_true] at H
        by_cases c40 : 0 ≤ ((rd_T82 l0_5 x4_1).f0)
        ·
         rw [if_pos c40] at H
         have c40b0 : decide (0 ≤ ((rd_T82 l0_5 x4_1).f0)) = true := decide_eq_true c40
         clear c40
         by_cases c41 : ((rd_T82 l0_5 x4_1).f0) < (l0_1.length : Int)
         ·
          rw [if_pos c41] at H
          have c41b0 : decide (((rd_T82 l0_5 x4_1).f0) < (l0_1.length : Int)) = true := decide_eq_true c41
          clear c41
          replace H := Option.bind_eq_some_iff.mp H
          obtain ⟨⟨t284, t285⟩, A420, H⟩ := H
          try dsimp only at H
          have A42 := Aside0.mk A420
          clear A420
          by_cases c43 : t285 = true
          ·
           subst c43
           rw [if_pos rfl] at H
           by_cases c44 : t284 = 0
           ·
            rw [if_pos c44] at H
            have c44b0 : (t284 == 0) = true := beq_iff_eq.mpr c44
            have c44b1 : (t284 != 0) = false := bne_eq_false_iff_eq.mpr c44
            clear c44
            have H' := Aside0.mk H
            clear H
            have hnb45 := NB279_281.out
            have hnc45 := NB281_279.out
            obtain ⟨hcz46_0, hcz46_1, hcz46_2, hcz46_3, hcz46_4, hcz46_5⟩ := bcQ6 BK279.out
            obtain ⟨hfz46_0, hfz46_1, hfz46_2, hfz46_3, hfz46_4, hfz46_5⟩ := fzQ6 BK279.out
            obtain ⟨hcz47_0, hcz47_1⟩ := bcQ2 BK281.out
            obtain ⟨hfz47_0, hfz47_1⟩ := fzQ2 BK281.out
            have p283 : 0 ≤ (((rd_T82 l0_5 x4_1).f0) : Int) := of_decide_eq_true ‹_›
            have q283 : ((rd_T82 l0_5 x4_1).f0) < (l0_1.length : Int) := of_decide_eq_true ‹_›
            obtain ⟨ad283, e283, hx283_0⟩ := Kd.at_int HR0_1.out ((rd_T82 l0_5 x4_1).f0) p283 q283
            cases e283
            replace hx283_0 := pw_cell_below HB.out hx283_0
            replace p283 := eq_true p283
            replace q283 := eq_true q283
            go_wp2_with (first | (go_at_call 89; (with_reducible refine (pleatref02_Target.calls kj4 (rd l0_1 ((rd_T82 l0_5 x4_1).f0)) t284 true _ A42.out).mono ?_); rintro e w48 ⟨rfl, hb⟩; replace BK279 := Aside0.mk (bbQ hb BK279.out); replace BK281 := Aside0.mk (bbQ hb BK281.out); replace HB := Aside0.mk (bs1Q hb (by repeat with_reducible first | exact HB.out | apply pw_below_drewN | apply below_drew1 | refine below_set ?_ GE279.out | refine below_set ?_ GE281.out)); (try clear hb); (try clear hb2); (try clear hk); (try clear hi)))
            repeat (go_quiet (first | (go_at_call 89; (with_reducible refine (pleatref02_Target.calls kj4 (rd l0_1 ((rd_T82 l0_5 x4_1).f0)) t284 true _ A42.out).mono ?_); rintro e w48 ⟨rfl, hb⟩; replace BK279 := Aside0.mk (bbQ hb BK279.out); replace BK281 := Aside0.mk (bbQ hb BK281.out); replace HB := Aside0.mk (bs1Q hb (by repeat with_reducible first | exact HB.out | apply pw_below_drewN | apply below_drew1 | refine below_set ?_ GE279.out | refine below_set ?_ GE281.out)); (try clear hb); (try clear hb2); (try clear hk); (try clear hi))); try go_wp2_with (first | (go_at_call 89; (with_reducible refine (pleatref02_Target.calls kj4 (rd l0_1 ((rd_T82 l0_5 x4_1).f0)) t284 true _ A42.out).mono ?_); rintro e w48 ⟨rfl, hb⟩; replace BK279 := Aside0.mk (bbQ hb BK279.out); replace BK281 := Aside0.mk (bbQ hb BK281.out); replace HB := Aside0.mk (bs1Q hb (by repeat with_reducible first | exact HB.out | apply pw_below_drewN | apply below_drew1 | refine below_set ?_ GE279.out | refine below_set ?_ GE281.out)); (try clear hb); (try clear hb2); (try clear hk); (try clear hi))))
            go_roundg kj4
            case measure => have := HK1.out; have := HJ4.out; omega
            case rel => exact ⟨(wrap64 (x4_1 + 1)), (by first | rfl | (simp; done) | (simp [*]; done)), H', ⟨by have := HK1.out; have := HJ4.out; omega⟩, ⟨by exact BK279.out⟩, ⟨by repeat with_reducible first | exact HB.out | apply pw_below_drewN | apply below_drew1 | refine below_set ?_ GE279.out | refine below_set ?_ GE281.out⟩⟩
           ·
            rw [if_neg c44] at H
            have c44b0 : (t284 == 0) = false := beq_eq_false_iff_ne.mpr c44
            have c44b1 : (t284 != 0) = true := bne_iff_ne.mpr c44
            simp only [Option.some.injEq, Prod.mk.injEq] at H
            obtain ⟨rfl, rfl⟩ := H
            have hnb49 := NB279_281.out
            have hnc49 := NB281_279.out
            obtain ⟨hcz50_0, hcz50_1, hcz50_2, hcz50_3, hcz50_4, hcz50_5⟩ := bcQ6 BK279.out
            obtain ⟨hfz50_0, hfz50_1, hfz50_2, hfz50_3, hfz50_4, hfz50_5⟩ := fzQ6 BK279.out
            obtain ⟨hcz51_0, hcz51_1⟩ := bcQ2 BK281.out
            obtain ⟨hfz51_0, hfz51_1⟩ := fzQ2 BK281.out
            have p283 : 0 ≤ (((rd_T82 l0_5 x4_1).f0) : Int) := of_decide_eq_true ‹_›
            have q283 : ((rd_T82 l0_5 x4_1).f0) < (l0_1.length : Int) := of_decide_eq_true ‹_›
            obtain ⟨ad283, e283, hx283_0⟩ := Kd.at_int HR0_1.out ((rd_T82 l0_5 x4_1).f0) p283 q283
            cases e283
            replace hx283_0 := pw_cell_below HB.out hx283_0
            replace p283 := eq_true p283
            replace q283 := eq_true q283
            go_wp2_with (first | (go_at_call 89; (with_reducible refine (pleatref02_Target.calls kj4 (rd l0_1 ((rd_T82 l0_5 x4_1).f0)) t284 true _ A42.out).mono ?_); rintro e w52 ⟨rfl, hb⟩; replace BK279 := Aside0.mk (bbQ hb BK279.out); replace BK281 := Aside0.mk (bbQ hb BK281.out); replace HB := Aside0.mk (bs1Q hb (by repeat with_reducible first | exact HB.out | apply pw_below_drewN | apply below_drew1 | refine below_set ?_ GE279.out | refine below_set ?_ GE281.out)); (try clear hb); (try clear hb2); (try clear hk); (try clear hi)))
            repeat (go_quiet (first | (go_at_call 89; (with_reducible refine (pleatref02_Target.calls kj4 (rd l0_1 ((rd_T82 l0_5 x4_1).f0)) t284 true _ A42.out).mono ?_); rintro e w52 ⟨rfl, hb⟩; replace BK279 := Aside0.mk (bbQ hb BK279.out); replace BK281 := Aside0.mk (bbQ hb BK281.out); replace HB := Aside0.mk (bs1Q hb (by repeat with_reducible first | exact HB.out | apply pw_below_drewN | apply below_drew1 | refine below_set ?_ GE279.out | refine below_set ?_ GE281.out)); (try clear hb); (try clear hb2); (try clear hk); (try clear hi))); try go_wp2_with (first | (go_at_call 89; (with_reducible refine (pleatref02_Target.calls kj4 (rd l0_1 ((rd_T82 l0_5 x4_1).f0)) t284 true _ A42.out).mono ?_); rintro e w52 ⟨rfl, hb⟩; replace BK279 := Aside0.mk (bbQ hb BK279.out); replace BK281 := Aside0.mk (bbQ hb BK281.out); replace HB := Aside0.mk (bs1Q hb (by repeat with_reducible first | exact HB.out | apply pw_below_drewN | apply below_drew1 | refine below_set ?_ GE279.out | refine below_set ?_ GE281.out)); (try clear hb); (try clear hb2); (try clear hk); (try clear hi))))
            go_ret2
            exact ⟨by first | rfl | (simp [errW_none, errW_some] <;> rfl) | (simp [*, errW_none, errW_some] <;> rfl), by repeat with_reducible first | exact HB.out | apply pw_below_drewN | apply below_drew1 | refine below_set ?_ GE279.out | refine below_set ?_ GE281.out⟩
          ·
           replace c43 := Bool.eq_false_iff.mpr c43
           subst c43
           rw [if_neg Bool.false_ne_true] at H
           simp only [Option.some.injEq, Prod.mk.injEq] at H
           obtain ⟨rfl, rfl⟩ := H
           have hnb53 := NB279_281.out
           have hnc53 := NB281_279.out
           obtain ⟨hcz54_0, hcz54_1, hcz54_2, hcz54_3, hcz54_4, hcz54_5⟩ := bcQ6 BK279.out
           obtain ⟨hfz54_0, hfz54_1, hfz54_2, hfz54_3, hfz54_4, hfz54_5⟩ := fzQ6 BK279.out
           obtain ⟨hcz55_0, hcz55_1⟩ := bcQ2 BK281.out
           obtain ⟨hfz55_0, hfz55_1⟩ := fzQ2 BK281.out
           have p283 : 0 ≤ (((rd_T82 l0_5 x4_1).f0) : Int) := of_decide_eq_true ‹_›
           have q283 : ((rd_T82 l0_5 x4_1).f0) < (l0_1.length : Int) := of_decide_eq_true ‹_›
           obtain ⟨ad283, e283, hx283_0⟩ := Kd.at_int HR0_1.out ((rd_T82 l0_5 x4_1).f0) p283 q283
           cases e283
           replace hx283_0 := pw_cell_below HB.out hx283_0
           replace p283 := eq_true p283
           replace q283 := eq_true q283
           go_wp2_with (first | (go_at_call 89; (with_reducible refine (pleatref02_Target.calls kj4 (rd l0_1 ((rd_T82 l0_5 x4_1).f0)) t284 false _ A42.out).mono ?_); rintro e w56 ⟨rfl, hb⟩; replace BK279 := Aside0.mk (bbQ hb BK279.out); replace BK281 := Aside0.mk (bbQ hb BK281.out); replace HB := Aside0.mk (bs1Q hb (by repeat with_reducible first | exact HB.out | apply pw_below_drewN | apply below_drew1 | refine below_set ?_ GE279.out | refine below_set ?_ GE281.out)); (try clear hb); (try clear hb2); (try clear hk); (try clear hi)))
           repeat (go_quiet (first | (go_at_call 89; (with_reducible refine (pleatref02_Target.calls kj4 (rd l0_1 ((rd_T82 l0_5 x4_1).f0)) t284 false _ A42.out).mono ?_); rintro e w56 ⟨rfl, hb⟩; replace BK279 := Aside0.mk (bbQ hb BK279.out); replace BK281 := Aside0.mk (bbQ hb BK281.out); replace HB := Aside0.mk (bs1Q hb (by repeat with_reducible first | exact HB.out | apply pw_below_drewN | apply below_drew1 | refine below_set ?_ GE279.out | refine below_set ?_ GE281.out)); (try clear hb); (try clear hb2); (try clear hk); (try clear hi))); try go_wp2_with (first | (go_at_call 89; (with_reducible refine (pleatref02_Target.calls kj4 (rd l0_1 ((rd_T82 l0_5 x4_1).f0)) t284 false _ A42.out).mono ?_); rintro e w56 ⟨rfl, hb⟩; replace BK279 := Aside0.mk (bbQ hb BK279.out); replace BK281 := Aside0.mk (bbQ hb BK281.out); replace HB := Aside0.mk (bs1Q hb (by repeat with_reducible first | exact HB.out | apply pw_below_drewN | apply below_drew1 | refine below_set ?_ GE279.out | refine below_set ?_ GE281.out)); (try clear hb); (try clear hb2); (try clear hk); (try clear hi))))
           go_ret2
           exact ⟨by first | rfl | (simp [errW_none, errW_some] <;> rfl) | (simp [*, errW_none, errW_some] <;> rfl), by repeat with_reducible first | exact HB.out | apply pw_below_drewN | apply below_drew1 | refine below_set ?_ GE279.out | refine below_set ?_ GE281.out⟩
         ·
          rw [if_neg c41] at H
          exact absurd H (by simp)
        ·
         rw [if_neg c40] at H
         exact absurd H (by simp)
    ·
     rw [if_neg c4] at H
     exact absurd H (by simp)
   ·
    rw [if_neg c3] at H
    have c3b0 : decide (x4_1 < (l0_5.length : Int)) = false := decide_eq_false c3
    clear c3
    simp only [Option.some.injEq, Prod.mk.injEq] at H
    obtain ⟨rfl, rfl⟩ := H
    obtain ⟨hcz57_0, hcz57_1, hcz57_2, hcz57_3, hcz57_4, hcz57_5⟩ := bcQ6 BK279.out
    obtain ⟨hfz57_0, hfz57_1, hfz57_2, hfz57_3, hfz57_4, hfz57_5⟩ := fzQ6 BK279.out
    go_wp2
    repeat (go_quiet (fail); try go_wp2)
    go_ret2
    exact ⟨by first | rfl | (simp [errW_none, errW_some] <;> rfl) | (simp [*, errW_none, errW_some] <;> rfl), by repeat with_reducible first | exact HB.out | apply pw_below_drewN | apply below_drew1 | refine below_set ?_ GE279.out⟩
end Go.Proofs.YtiaohbbafaaibabGreatDoor.P

/- What the Go functions named below come to, as plain functions, each with its proof; written by this session's prt.py over the kit's print. -/
namespace Go.Proofs.YtiaohbbafaaibabGreatDoor.P
open Go.RowKit Go.Proofs.YtiaohbbafaaibabGreatDoorW.PrintWords Go.Proofs.YtiaohbbafaaibabGreatDoorW.PrintLast Go.Proofs.YtiaohbbafaaibabGreatDoorW.PrintMore
attribute [local go_sem] max2_int min2_int max_two min_two max_three min_three max_four min_four   -- for this text's walks alone
set_option linter.unusedVariables false
set_option linter.unusedSimpArgs false
/-! ### pleatref03_Check: function 30 -/
def pleatref03_Check.l0 : Nat → Int → ByteArray → List Int → Int → List Int → List (S65) → List (S82) → Option (Int × Int)
 | 0, _, _, _, _, _, _, _ => none
 | k + 1, x6, x287000, x287001, x287002, x287003, x287004, x287005 => if x6 < (x287001.length : Int) then (if 0 ≤ x6 then ((pleatref02_Target.f k (rd x287001 x6)).bind fun bt294 => (if bt294.2 = true then (if bt294.1 > (x287001.length : Int) then (some (22, wrap64 ((-1) - x6))) else (pleatref03_Check.l0 k (wrap64 (x6 + 1)) x287000 x287001 x287002 x287003 x287004 x287005)) else (pleatref03_Check.l0 k (wrap64 (x6 + 1)) x287000 x287001 x287002 x287003 x287004 x287005))) else (none)) else (some (0, 0))
def pleatref03_Check.f (k : Nat) (a0_0 : ByteArray) (l0_1 : List Int) (a0_2 : Int) (l0_3 : List Int) (l0_4 : List (S65)) (l0_5 : List (S82)) : Option (Int × Int) := (pleatref03_size.f k a0_0 l0_1 a0_2 l0_3 l0_4 l0_5).bind fun bt287 => (if bt287.1 = 0 then ((pleatref03_symbols.f k a0_0 l0_1 a0_2 l0_3 l0_4 l0_5).bind fun bt289 => (if bt289.1 = 0 then ((pleatref03_relocs.f k a0_0 l0_1 a0_2 l0_3 l0_4 l0_5).bind fun bt291 => (if bt291.1 = 0 then (pleatref03_Check.l0 k 0 a0_0 l0_1 a0_2 l0_3 l0_4 l0_5) else (some (bt291.1, bt291.2)))) else (some (bt289.1, bt289.2)))) else (some (bt287.1, bt287.2)))
theorem pleatref03_Check.mono_l : ∀ k, (∀ y0 y1 y2 y3 y4 y5 y6, LeO (pleatref03_Check.l0 k y0 y1 y2 y3 y4 y5 y6) (pleatref03_Check.l0 (k + 1) y0 y1 y2 y3 y4 y5 y6))
 | 0 => fun _ _ _ _ _ _ _ r h => by simp [pleatref03_Check.l0] at h
 | k + 1 => by
  have ih0 := pleatref03_Check.mono_l k
  ·
   intro y0 y1 y2 y3 y4 y5 y6
   unfold pleatref03_Check.l0
   repeat' first
   | (with_reducible first | exact ih0 _ _ _ _ _ _ _ | exact pleatref02_Target.mono _ _ | exact pleatref03_relocs.mono _ _ _ _ _ _ _ | exact pleatref03_size.mono _ _ _ _ _ _ _ | exact pleatref03_symbols.mono _ _ _ _ _ _ _ | exact LeO.refl _ | exact LeO.none _ | refine LeO.ite ?_ ?_ | refine LeO.bind ?_ (fun _ => ?_))
theorem pleatref03_Check.mono : ∀ a0 a1 a2 a3 a4 a5 k, LeO (pleatref03_Check.f k a0 a1 a2 a3 a4 a5) (pleatref03_Check.f (k + 1) a0 a1 a2 a3 a4 a5) := by
 intro a0 a1 a2 a3 a4 a5 k
 have ih0 := pleatref03_Check.mono_l k
 unfold pleatref03_Check.f
 repeat' first
   | (with_reducible first | exact ih0 _ _ _ _ _ _ _ | exact pleatref02_Target.mono _ _ | exact pleatref03_relocs.mono _ _ _ _ _ _ _ | exact pleatref03_size.mono _ _ _ _ _ _ _ | exact pleatref03_symbols.mono _ _ _ _ _ _ _ | exact LeO.refl _ | exact LeO.none _ | refine LeO.ite ?_ ?_ | refine LeO.bind ?_ (fun _ => ?_))
set_option maxHeartbeats 8000000 in
set_option maxRecDepth 100000 in
theorem pleatref03_Check.calls (k : Nat) (a0_0 : ByteArray) (A0_1 : Option Addr) (c0_1 : Nat) (l0_1 : List Int) (a0_2 : Int) (A0_3 : Option Addr) (c0_3 : Nat) (l0_3 : List Int) (A0_4 : Option Addr) (c0_4 : Nat) (l0_4 : List (S65)) (A0_5 : Option Addr) (c0_5 : Nat) (l0_5 : List (S82)) (r1 : Int) (r2 : Int) (w : World) (hr0_1 : Kd.C (Kd.int .u32) w A0_1 l0_1.length l0_1) (hc0_1 : l0_1.length ≤ c0_1) (hr0_3 : Kd.C (Kd.int .i64) w A0_3 l0_3.length l0_3) (hc0_3 : l0_3.length ≤ c0_3) (hr0_4 : Kd.C k65 w A0_4 l0_4.length l0_4) (hc0_4 : l0_4.length ≤ c0_4) (hr0_5 : Kd.C k82 w A0_5 l0_5.length l0_5) (hc0_5 : l0_5.length ≤ c0_5) (h : pleatref03_Check.f k a0_0 l0_1 a0_2 l0_3 l0_4 l0_5 = some (r1, r2)) :
  Calls Tryz.prog 30 #[.agg #[.string a0_0, .slice A0_1 l0_1.length c0_1, .int .i64 a0_2, .slice A0_3 l0_3.length c0_3, .slice A0_4 l0_4.length c0_4, .slice A0_5 l0_5.length c0_5]] w fun e w' => e = .returned (.tuple #[.int .i64 r1, .int .i64 r2]) ∧ Below w.heap.size w w' := by
 have hu27 := Tryz.underlying27
 have HR0_1 := Aside0.mk hr0_1
 have HC0_1 := Aside0.mk hc0_1
 clear hr0_1 hc0_1
 have HR0_3 := Aside0.mk hr0_3
 have HC0_3 := Aside0.mk hc0_3
 clear hr0_3 hc0_3
 have HR0_4 := Aside0.mk hr0_4
 have HC0_4 := Aside0.mk hc0_4
 clear hr0_4 hc0_4
 have HR0_5 := Aside0.mk hr0_5
 have HC0_5 := Aside0.mk hc0_5
 clear hr0_5 hc0_5
 have HB := Aside0.mk (Below.refl w.heap.size w)
 have H : ((pleatref03_size.f k a0_0 l0_1 a0_2 l0_3 l0_4 l0_5).bind fun bt287 => (if bt287.1 = 0 then ((pleatref03_symbols.f k a0_0 l0_1 a0_2 l0_3 l0_4 l0_5).bind fun bt289 => (if bt289.1 = 0 then ((pleatref03_relocs.f k a0_0 l0_1 a0_2 l0_3 l0_4 l0_5).bind fun bt291 => (if bt291.1 = 0 then (pleatref03_Check.l0 k 0 a0_0 l0_1 a0_2 l0_3 l0_4 l0_5) else (some (bt291.1, bt291.2)))) else (some (bt289.1, bt289.2)))) else (some (bt287.1, bt287.2)))) = some (r1, r2) := h
 clear h
 replace H := Option.bind_eq_some_iff.mp H
 obtain ⟨⟨t287, t288⟩, A20, H⟩ := H
 try dsimp only at H
 have A2 := Aside0.mk A20
 clear A20
 by_cases c3 : t287 = 0
 ·
  rw [if_pos c3] at H
  have c3b0 : (t287 == 0) = true := beq_iff_eq.mpr c3
  have c3b1 : (t287 != 0) = false := bne_eq_false_iff_eq.mpr c3
  clear c3
  replace H := Option.bind_eq_some_iff.mp H
  obtain ⟨⟨t289, t290⟩, A40, H⟩ := H
  try dsimp only at H
  have A4 := Aside0.mk A40
  clear A40
  by_cases c5 : t289 = 0
  ·
   rw [if_pos c5] at H
   have c5b0 : (t289 == 0) = true := beq_iff_eq.mpr c5
   have c5b1 : (t289 != 0) = false := bne_eq_false_iff_eq.mpr c5
   clear c5
   replace H := Option.bind_eq_some_iff.mp H
   obtain ⟨⟨t291, t292⟩, A60, H⟩ := H
   try dsimp only at H
   have A6 := Aside0.mk A60
   clear A60
   by_cases c7 : t291 = 0
   ·
    rw [if_pos c7] at H
    have c7b0 : (t291 == 0) = true := beq_iff_eq.mpr c7
    have c7b1 : (t291 != 0) = false := bne_eq_false_iff_eq.mpr c7
    clear c7
    have H' := Aside0.mk H
    clear H
    go_enter Tryz.func30, Tryz.ntmps30
    go_wp2_with (first | ((with_reducible refine gate_dst (N := 1) rfl ?_); (try (refine gate_guard (by rfl) ?_; dsimp only)); refine box_event ?hg (N := 1) ?hd (cs := #[.string a0_0, .slice A0_1 l0_1.length c0_1, .int .i64 a0_2, .slice A0_3 l0_3.length c0_3, .slice A0_4 l0_4.length c0_4, .slice A0_5 l0_5.length c0_5]) (t := 27) ?hr ?_; (case hd => rfl); (case hg => rfl); (case hr => go_simp; try rfl); intro gb286 hg w8 hbox hb; have BK286 := Aside0.mk (hbox); have GW286 := Aside0.mk (gwQ hg HB.out); have GE286 := Aside0.mk (gwQ hg HB.out); replace HB := Aside0.mk (bsQ hb HB.out); clear hb hbox hg; obtain ⟨hcz9_0, hcz9_1, hcz9_2, hcz9_3, hcz9_4, hcz9_5⟩ := bcQ6 BK286.out; obtain ⟨hfz9_0, hfz9_1, hfz9_2, hfz9_3, hfz9_4, hfz9_5⟩ := fzQ6 BK286.out) | ((with_reducible refine gate_callee (f := 86) rfl ?_); refine goesL_ (some 11) rfl rfl Tryz.func86 (by kernel_rfl) rfl #[.agg #[.string a0_0, .slice A0_1 l0_1.length c0_1, .int .i64 a0_2, .slice A0_3 l0_3.length c0_3, .slice A0_4 l0_4.length c0_4, .slice A0_5 l0_5.length c0_5]] rfl (by (try simp only [List.map_toArray, List.map_cons, List.map_nil]); try rfl) ?_; (with_reducible refine (pleatref03_size.calls k a0_0 _ _ l0_1 a0_2 _ _ l0_3 _ _ l0_4 _ _ l0_5 t287 t288 _ ?side1 ?side2 ?side3 ?side4 ?side5 ?side6 ?side7 ?side8 A2.out).mono ?_); (case side1 => exact cbQ HB.out HR0_1.out); (case side2 => exact HC0_1.out); (case side3 => exact cbQ HB.out HR0_3.out); (case side4 => exact HC0_3.out); (case side5 => exact cbQ HB.out HR0_4.out); (case side6 => exact HC0_4.out); (case side7 => exact cbQ HB.out HR0_5.out); (case side8 => exact HC0_5.out); rintro e w10 ⟨rfl, hb⟩; refine ⟨_, rfl, ?_⟩; replace BK286 := Aside0.mk (bbQ hb BK286.out); replace HB := Aside0.mk (bs1Q hb (by repeat with_reducible first | exact HB.out | apply pw_below_drewN | apply below_drew1 | refine below_set ?_ GE286.out)); (try clear hb); (try clear hb2); (try clear hk); (try clear hi); obtain ⟨hcz11_0, hcz11_1, hcz11_2, hcz11_3, hcz11_4, hcz11_5⟩ := bcQ6 BK286.out; obtain ⟨hfz11_0, hfz11_1, hfz11_2, hfz11_3, hfz11_4, hfz11_5⟩ := fzQ6 BK286.out) | ((with_reducible refine gate_callee (f := 87) rfl ?_); refine goesL_ (some 20) rfl rfl Tryz.func87 (by kernel_rfl) rfl #[.agg #[.string a0_0, .slice A0_1 l0_1.length c0_1, .int .i64 a0_2, .slice A0_3 l0_3.length c0_3, .slice A0_4 l0_4.length c0_4, .slice A0_5 l0_5.length c0_5]] rfl (by (try simp only [List.map_toArray, List.map_cons, List.map_nil]); try rfl) ?_; (with_reducible refine (pleatref03_symbols.calls k a0_0 _ _ l0_1 a0_2 _ _ l0_3 _ _ l0_4 _ _ l0_5 t289 t290 _ ?side1 ?side2 ?side3 ?side4 ?side5 ?side6 ?side7 ?side8 A4.out).mono ?_); (case side1 => exact cbQ HB.out HR0_1.out); (case side2 => exact HC0_1.out); (case side3 => exact cbQ HB.out HR0_3.out); (case side4 => exact HC0_3.out); (case side5 => exact cbQ HB.out HR0_4.out); (case side6 => exact HC0_4.out); (case side7 => exact cbQ HB.out HR0_5.out); (case side8 => exact HC0_5.out); rintro e w12 ⟨rfl, hb⟩; refine ⟨_, rfl, ?_⟩; replace BK286 := Aside0.mk (bbQ hb BK286.out); replace HB := Aside0.mk (bs1Q hb (by repeat with_reducible first | exact HB.out | apply pw_below_drewN | apply below_drew1 | refine below_set ?_ GE286.out)); (try clear hb); (try clear hb2); (try clear hk); (try clear hi); obtain ⟨hcz13_0, hcz13_1, hcz13_2, hcz13_3, hcz13_4, hcz13_5⟩ := bcQ6 BK286.out; obtain ⟨hfz13_0, hfz13_1, hfz13_2, hfz13_3, hfz13_4, hfz13_5⟩ := fzQ6 BK286.out) | ((with_reducible refine gate_callee (f := 88) rfl ?_); refine goesL_ (some 29) rfl rfl Tryz.func88 (by kernel_rfl) rfl #[.agg #[.string a0_0, .slice A0_1 l0_1.length c0_1, .int .i64 a0_2, .slice A0_3 l0_3.length c0_3, .slice A0_4 l0_4.length c0_4, .slice A0_5 l0_5.length c0_5]] rfl (by (try simp only [List.map_toArray, List.map_cons, List.map_nil]); try rfl) ?_; (with_reducible refine (pleatref03_relocs.calls k a0_0 _ _ l0_1 a0_2 _ _ l0_3 _ _ l0_4 _ _ l0_5 t291 t292 _ ?side1 ?side2 ?side3 ?side4 ?side5 ?side6 ?side7 ?side8 A6.out).mono ?_); (case side1 => exact cbQ HB.out HR0_1.out); (case side2 => exact HC0_1.out); (case side3 => exact cbQ HB.out HR0_3.out); (case side4 => exact HC0_3.out); (case side5 => exact cbQ HB.out HR0_4.out); (case side6 => exact HC0_4.out); (case side7 => exact cbQ HB.out HR0_5.out); (case side8 => exact HC0_5.out); rintro e w14 ⟨rfl, hb⟩; refine ⟨_, rfl, ?_⟩; replace BK286 := Aside0.mk (bbQ hb BK286.out); replace HB := Aside0.mk (bs1Q hb (by repeat with_reducible first | exact HB.out | apply pw_below_drewN | apply below_drew1 | refine below_set ?_ GE286.out)); (try clear hb); (try clear hb2); (try clear hk); (try clear hi)))
    go_loopg [6] k (fun kq v6 w' => ∃ (x6_1 : Int), v6 = .int .i64 x6_1 ∧ Aside0 (pleatref03_Check.l0 kq x6_1 a0_0 l0_1 a0_2 l0_3 l0_4 l0_5 = some (r1, r2)) ∧ Aside0 (kq ≤ k) ∧ Aside0 (w'.heap[gb286]? = some (.cells #[.string a0_0, (.slice A0_1 l0_1.length c0_1), .int .i64 a0_2, (.slice A0_3 l0_3.length c0_3), (.slice A0_4 l0_4.length c0_4), (.slice A0_5 l0_5.length c0_5)] 27 (0, 0))) ∧ Aside0 (Below w.heap.size w w'))
    case atStart => exact ⟨(0), (by first | rfl | (simp; done) | (simp [*]; done)), H', ⟨Nat.le_refl _⟩, ⟨by exact BK286.out⟩, ⟨by repeat with_reducible first | exact HB.out | apply pw_below_drewN | apply below_drew1 | refine below_set ?_ GE286.out⟩⟩
    case round =>
     clear H'
     try clear p2
     try clear c3
     try clear c3b0
     try clear c3b1
     try clear c5
     try clear c5b0
     try clear c5b1
     try clear c7
     try clear c7b0
     try clear c7b1
     try clear c8
     try clear hcz11_0 hcz11_1 hcz11_2 hcz11_3 hcz11_4 hcz11_5
     try clear hcz13_0 hcz13_1 hcz13_2 hcz13_3 hcz13_4 hcz13_5
     try clear hcz9_0 hcz9_1 hcz9_2 hcz9_3 hcz9_4 hcz9_5
     try clear hfz11_0 hfz11_1 hfz11_2 hfz11_3 hfz11_4 hfz11_5
     try clear hfz13_0 hfz13_1 hfz13_2 hfz13_3 hfz13_4 hfz13_5
     try clear hfz9_0 hfz9_1 hfz9_2 hfz9_3 hfz9_4 hfz9_5
     obtain ⟨x6_1, rfl, HA, HK1, BK286, HB⟩ := hrel
     cases gk with
     | zero => exact absurd HA.out (by simp [pleatref03_Check.l0])
     | succ k1 =>
      have H := HA.out
      clear HA
      simp only [pleatref03_Check.l0] at H
      by_cases c15 : x6_1 < (l0_1.length : Int)
      ·
       rw [if_pos c15] at H
       have c15b0 : decide (x6_1 < (l0_1.length : Int)) = true := decide_eq_true c15
       clear c15
       by_cases c16 : 0 ≤ x6_1
       ·
        rw [if_pos c16] at H
        have c16b0 : decide (0 ≤ x6_1) = true := decide_eq_true c16
        clear c16
        replace H := Option.bind_eq_some_iff.mp H
        obtain ⟨⟨t294, t295⟩, A170, H⟩ := H
        try dsimp only at H
        have A17 := Aside0.mk A170
        clear A170
        by_cases c18 : t295 = true
        ·
         subst c18
         rw [if_pos rfl] at H
         by_cases c19 : t294 > (l0_1.length : Int)
         ·
          rw [if_pos c19] at H
          have c19b0 : decide ((l0_1.length : Int) < t294) = true := decide_eq_true c19
          clear c19
          simp only [Option.some.injEq, Prod.mk.injEq] at H
          obtain ⟨rfl, rfl⟩ := H
          obtain ⟨hcz20_0, hcz20_1, hcz20_2, hcz20_3, hcz20_4, hcz20_5⟩ := bcQ6 BK286.out
          obtain ⟨hfz20_0, hfz20_1, hfz20_2, hfz20_3, hfz20_4, hfz20_5⟩ := fzQ6 BK286.out
          have p293 : 0 ≤ (x6_1 : Int) := of_decide_eq_true ‹_›
          have q293 : x6_1 < (l0_1.length : Int) := of_decide_eq_true ‹_›
          obtain ⟨ad293, e293, hx293_0⟩ := Kd.at_int HR0_1.out x6_1 p293 q293
          cases e293
          replace hx293_0 := pw_cell_below HB.out hx293_0
          replace p293 := eq_true p293
          replace q293 := eq_true q293
          go_wp2_with (first | ((with_reducible refine gate_callee (f := 89) rfl ?_); refine goesL_ (some 49) rfl rfl Tryz.func89 (by kernel_rfl) rfl #[.int .u32 (rd l0_1 x6_1)] rfl (by (try simp only [List.map_toArray, List.map_cons, List.map_nil]); try rfl) ?_; (with_reducible refine (pleatref02_Target.calls k1 (rd l0_1 x6_1) t294 true _ A17.out).mono ?_); rintro e w21 ⟨rfl, hb⟩; refine ⟨_, rfl, ?_⟩; replace BK286 := Aside0.mk (bbQ hb BK286.out); replace HB := Aside0.mk (bs1Q hb (by repeat with_reducible first | exact HB.out | apply pw_below_drewN | apply below_drew1 | refine below_set ?_ GE286.out)); (try clear hb); (try clear hb2); (try clear hk); (try clear hi); obtain ⟨hcz22_0, hcz22_1, hcz22_2, hcz22_3, hcz22_4, hcz22_5⟩ := bcQ6 BK286.out; obtain ⟨hfz22_0, hfz22_1, hfz22_2, hfz22_3, hfz22_4, hfz22_5⟩ := fzQ6 BK286.out))
          go_ret2
          exact ⟨by first | rfl | (simp [errW_none, errW_some] <;> rfl) | (simp [*, errW_none, errW_some] <;> rfl), by repeat with_reducible first | exact HB.out | apply pw_below_drewN | apply below_drew1 | refine below_set ?_ GE286.out⟩
         ·
          rw [if_neg c19] at H
          have c19b0 : decide ((l0_1.length : Int) < t294) = false := decide_eq_false c19
          clear c19
          have H' := Aside0.mk H
          clear H
          obtain ⟨hcz23_0, hcz23_1, hcz23_2, hcz23_3, hcz23_4, hcz23_5⟩ := bcQ6 BK286.out
          obtain ⟨hfz23_0, hfz23_1, hfz23_2, hfz23_3, hfz23_4, hfz23_5⟩ := fzQ6 BK286.out
          have p293 : 0 ≤ (x6_1 : Int) := of_decide_eq_true ‹_›
          have q293 : x6_1 < (l0_1.length : Int) := of_decide_eq_true ‹_›
          obtain ⟨ad293, e293, hx293_0⟩ := Kd.at_int HR0_1.out x6_1 p293 q293
          cases e293
          replace hx293_0 := pw_cell_below HB.out hx293_0
          replace p293 := eq_true p293
          replace q293 := eq_true q293
          go_wp2_with (first | ((with_reducible refine gate_callee (f := 89) rfl ?_); refine goesL_ (some 49) rfl rfl Tryz.func89 (by kernel_rfl) rfl #[.int .u32 (rd l0_1 x6_1)] rfl (by (try simp only [List.map_toArray, List.map_cons, List.map_nil]); try rfl) ?_; (with_reducible refine (pleatref02_Target.calls k1 (rd l0_1 x6_1) t294 true _ A17.out).mono ?_); rintro e w24 ⟨rfl, hb⟩; refine ⟨_, rfl, ?_⟩; replace BK286 := Aside0.mk (bbQ hb BK286.out); replace HB := Aside0.mk (bs1Q hb (by repeat with_reducible first | exact HB.out | apply pw_below_drewN | apply below_drew1 | refine below_set ?_ GE286.out)); (try clear hb); (try clear hb2); (try clear hk); (try clear hi); obtain ⟨hcz25_0, hcz25_1, hcz25_2, hcz25_3, hcz25_4, hcz25_5⟩ := bcQ6 BK286.out; obtain ⟨hfz25_0, hfz25_1, hfz25_2, hfz25_3, hfz25_4, hfz25_5⟩ := fzQ6 BK286.out))
          go_roundg k1
          case measure => have := HK1.out; omega
          case rel => exact ⟨(wrap64 (x6_1 + 1)), (by first | rfl | (simp; done) | (simp [*]; done)), H', ⟨by have := HK1.out; omega⟩, ⟨by exact BK286.out⟩, ⟨by repeat with_reducible first | exact HB.out | apply pw_below_drewN | apply below_drew1 | refine below_set ?_ GE286.out⟩⟩
        ·
         replace c18 := Bool.eq_false_iff.mpr c18
         subst c18
         rw [if_neg Bool.false_ne_true] at H
         have H' := Aside0.mk H
         clear H
         obtain ⟨hcz26_0, hcz26_1, hcz26_2, hcz26_3, hcz26_4, hcz26_5⟩ := bcQ6 BK286.out
         obtain ⟨hfz26_0, hfz26_1, hfz26_2, hfz26_3, hfz26_4, hfz26_5⟩ := fzQ6 BK286.out
         have p293 : 0 ≤ (x6_1 : Int) := of_decide_eq_true ‹_›
         have q293 : x6_1 < (l0_1.length : Int) := of_decide_eq_true ‹_›
         obtain ⟨ad293, e293, hx293_0⟩ := Kd.at_int HR0_1.out x6_1 p293 q293
         cases e293
         replace hx293_0 := pw_cell_below HB.out hx293_0
         replace p293 := eq_true p293
         replace q293 := eq_true q293
         go_wp2_with (first | ((with_reducible refine gate_callee (f := 89) rfl ?_); refine goesL_ (some 49) rfl rfl Tryz.func89 (by kernel_rfl) rfl #[.int .u32 (rd l0_1 x6_1)] rfl (by (try simp only [List.map_toArray, List.map_cons, List.map_nil]); try rfl) ?_; (with_reducible refine (pleatref02_Target.calls k1 (rd l0_1 x6_1) t294 false _ A17.out).mono ?_); rintro e w27 ⟨rfl, hb⟩; refine ⟨_, rfl, ?_⟩; replace BK286 := Aside0.mk (bbQ hb BK286.out); replace HB := Aside0.mk (bs1Q hb (by repeat with_reducible first | exact HB.out | apply pw_below_drewN | apply below_drew1 | refine below_set ?_ GE286.out)); (try clear hb); (try clear hb2); (try clear hk); (try clear hi)))
         go_roundg k1
         case measure => have := HK1.out; omega
         case rel => exact ⟨(wrap64 (x6_1 + 1)), (by first | rfl | (simp; done) | (simp [*]; done)), H', ⟨by have := HK1.out; omega⟩, ⟨by exact BK286.out⟩, ⟨by repeat with_reducible first | exact HB.out | apply pw_below_drewN | apply below_drew1 | refine below_set ?_ GE286.out⟩⟩
       ·
        rw [if_neg c16] at H
        exact absurd H (by simp)
      ·
       rw [if_neg c15] at H
       have c15b0 : decide (x6_1 < (l0_1.length : Int)) = false := decide_eq_false c15
       clear c15
       simp only [Option.some.injEq, Prod.mk.injEq] at H
       obtain ⟨rfl, rfl⟩ := H
       obtain ⟨hcz28_0, hcz28_1, hcz28_2, hcz28_3, hcz28_4, hcz28_5⟩ := bcQ6 BK286.out
       obtain ⟨hfz28_0, hfz28_1, hfz28_2, hfz28_3, hfz28_4, hfz28_5⟩ := fzQ6 BK286.out
       go_wp2
       go_ret2
       exact ⟨by first | rfl | (simp [errW_none, errW_some] <;> rfl) | (simp [*, errW_none, errW_some] <;> rfl), by repeat with_reducible first | exact HB.out | apply pw_below_drewN | apply below_drew1 | refine below_set ?_ GE286.out⟩
   ·
    rw [if_neg c7] at H
    have c7b0 : (t291 == 0) = false := beq_eq_false_iff_ne.mpr c7
    have c7b1 : (t291 != 0) = true := bne_iff_ne.mpr c7
    simp only [Option.some.injEq, Prod.mk.injEq] at H
    obtain ⟨rfl, rfl⟩ := H
    go_enter Tryz.func30, Tryz.ntmps30
    go_wp2_with (first | ((with_reducible refine gate_dst (N := 1) rfl ?_); (try (refine gate_guard (by rfl) ?_; dsimp only)); refine box_event ?hg (N := 1) ?hd (cs := #[.string a0_0, .slice A0_1 l0_1.length c0_1, .int .i64 a0_2, .slice A0_3 l0_3.length c0_3, .slice A0_4 l0_4.length c0_4, .slice A0_5 l0_5.length c0_5]) (t := 27) ?hr ?_; (case hd => rfl); (case hg => rfl); (case hr => go_simp; try rfl); intro gb286 hg w29 hbox hb; have BK286 := Aside0.mk (hbox); have GW286 := Aside0.mk (gwQ hg HB.out); have GE286 := Aside0.mk (gwQ hg HB.out); replace HB := Aside0.mk (bsQ hb HB.out); clear hb hbox hg; obtain ⟨hcz30_0, hcz30_1, hcz30_2, hcz30_3, hcz30_4, hcz30_5⟩ := bcQ6 BK286.out; obtain ⟨hfz30_0, hfz30_1, hfz30_2, hfz30_3, hfz30_4, hfz30_5⟩ := fzQ6 BK286.out) | ((with_reducible refine gate_callee (f := 86) rfl ?_); refine goesL_ (some 11) rfl rfl Tryz.func86 (by kernel_rfl) rfl #[.agg #[.string a0_0, .slice A0_1 l0_1.length c0_1, .int .i64 a0_2, .slice A0_3 l0_3.length c0_3, .slice A0_4 l0_4.length c0_4, .slice A0_5 l0_5.length c0_5]] rfl (by (try simp only [List.map_toArray, List.map_cons, List.map_nil]); try rfl) ?_; (with_reducible refine (pleatref03_size.calls k a0_0 _ _ l0_1 a0_2 _ _ l0_3 _ _ l0_4 _ _ l0_5 t287 t288 _ ?side1 ?side2 ?side3 ?side4 ?side5 ?side6 ?side7 ?side8 A2.out).mono ?_); (case side1 => exact cbQ HB.out HR0_1.out); (case side2 => exact HC0_1.out); (case side3 => exact cbQ HB.out HR0_3.out); (case side4 => exact HC0_3.out); (case side5 => exact cbQ HB.out HR0_4.out); (case side6 => exact HC0_4.out); (case side7 => exact cbQ HB.out HR0_5.out); (case side8 => exact HC0_5.out); rintro e w31 ⟨rfl, hb⟩; refine ⟨_, rfl, ?_⟩; replace BK286 := Aside0.mk (bbQ hb BK286.out); replace HB := Aside0.mk (bs1Q hb (by repeat with_reducible first | exact HB.out | apply pw_below_drewN | apply below_drew1 | refine below_set ?_ GE286.out)); (try clear hb); (try clear hb2); (try clear hk); (try clear hi); obtain ⟨hcz32_0, hcz32_1, hcz32_2, hcz32_3, hcz32_4, hcz32_5⟩ := bcQ6 BK286.out; obtain ⟨hfz32_0, hfz32_1, hfz32_2, hfz32_3, hfz32_4, hfz32_5⟩ := fzQ6 BK286.out) | ((with_reducible refine gate_callee (f := 87) rfl ?_); refine goesL_ (some 20) rfl rfl Tryz.func87 (by kernel_rfl) rfl #[.agg #[.string a0_0, .slice A0_1 l0_1.length c0_1, .int .i64 a0_2, .slice A0_3 l0_3.length c0_3, .slice A0_4 l0_4.length c0_4, .slice A0_5 l0_5.length c0_5]] rfl (by (try simp only [List.map_toArray, List.map_cons, List.map_nil]); try rfl) ?_; (with_reducible refine (pleatref03_symbols.calls k a0_0 _ _ l0_1 a0_2 _ _ l0_3 _ _ l0_4 _ _ l0_5 t289 t290 _ ?side1 ?side2 ?side3 ?side4 ?side5 ?side6 ?side7 ?side8 A4.out).mono ?_); (case side1 => exact cbQ HB.out HR0_1.out); (case side2 => exact HC0_1.out); (case side3 => exact cbQ HB.out HR0_3.out); (case side4 => exact HC0_3.out); (case side5 => exact cbQ HB.out HR0_4.out); (case side6 => exact HC0_4.out); (case side7 => exact cbQ HB.out HR0_5.out); (case side8 => exact HC0_5.out); rintro e w33 ⟨rfl, hb⟩; refine ⟨_, rfl, ?_⟩; replace BK286 := Aside0.mk (bbQ hb BK286.out); replace HB := Aside0.mk (bs1Q hb (by repeat with_reducible first | exact HB.out | apply pw_below_drewN | apply below_drew1 | refine below_set ?_ GE286.out)); (try clear hb); (try clear hb2); (try clear hk); (try clear hi); obtain ⟨hcz34_0, hcz34_1, hcz34_2, hcz34_3, hcz34_4, hcz34_5⟩ := bcQ6 BK286.out; obtain ⟨hfz34_0, hfz34_1, hfz34_2, hfz34_3, hfz34_4, hfz34_5⟩ := fzQ6 BK286.out) | ((with_reducible refine gate_callee (f := 88) rfl ?_); refine goesL_ (some 29) rfl rfl Tryz.func88 (by kernel_rfl) rfl #[.agg #[.string a0_0, .slice A0_1 l0_1.length c0_1, .int .i64 a0_2, .slice A0_3 l0_3.length c0_3, .slice A0_4 l0_4.length c0_4, .slice A0_5 l0_5.length c0_5]] rfl (by (try simp only [List.map_toArray, List.map_cons, List.map_nil]); try rfl) ?_; (with_reducible refine (pleatref03_relocs.calls k a0_0 _ _ l0_1 a0_2 _ _ l0_3 _ _ l0_4 _ _ l0_5 t291 t292 _ ?side1 ?side2 ?side3 ?side4 ?side5 ?side6 ?side7 ?side8 A6.out).mono ?_); (case side1 => exact cbQ HB.out HR0_1.out); (case side2 => exact HC0_1.out); (case side3 => exact cbQ HB.out HR0_3.out); (case side4 => exact HC0_3.out); (case side5 => exact cbQ HB.out HR0_4.out); (case side6 => exact HC0_4.out); (case side7 => exact cbQ HB.out HR0_5.out); (case side8 => exact HC0_5.out); rintro e w35 ⟨rfl, hb⟩; refine ⟨_, rfl, ?_⟩; replace BK286 := Aside0.mk (bbQ hb BK286.out); replace HB := Aside0.mk (bs1Q hb (by repeat with_reducible first | exact HB.out | apply pw_below_drewN | apply below_drew1 | refine below_set ?_ GE286.out)); (try clear hb); (try clear hb2); (try clear hk); (try clear hi)))
    go_ret2
    exact ⟨by first | rfl | (simp [errW_none, errW_some] <;> rfl) | (simp [*, errW_none, errW_some] <;> rfl), by repeat with_reducible first | exact HB.out | apply pw_below_drewN | apply below_drew1 | refine below_set ?_ GE286.out⟩
  ·
   rw [if_neg c5] at H
   have c5b0 : (t289 == 0) = false := beq_eq_false_iff_ne.mpr c5
   have c5b1 : (t289 != 0) = true := bne_iff_ne.mpr c5
   simp only [Option.some.injEq, Prod.mk.injEq] at H
   obtain ⟨rfl, rfl⟩ := H
   go_enter Tryz.func30, Tryz.ntmps30
   go_wp2_with (first | ((with_reducible refine gate_dst (N := 1) rfl ?_); (try (refine gate_guard (by rfl) ?_; dsimp only)); refine box_event ?hg (N := 1) ?hd (cs := #[.string a0_0, .slice A0_1 l0_1.length c0_1, .int .i64 a0_2, .slice A0_3 l0_3.length c0_3, .slice A0_4 l0_4.length c0_4, .slice A0_5 l0_5.length c0_5]) (t := 27) ?hr ?_; (case hd => rfl); (case hg => rfl); (case hr => go_simp; try rfl); intro gb286 hg w36 hbox hb; have BK286 := Aside0.mk (hbox); have GW286 := Aside0.mk (gwQ hg HB.out); have GE286 := Aside0.mk (gwQ hg HB.out); replace HB := Aside0.mk (bsQ hb HB.out); clear hb hbox hg; obtain ⟨hcz37_0, hcz37_1, hcz37_2, hcz37_3, hcz37_4, hcz37_5⟩ := bcQ6 BK286.out; obtain ⟨hfz37_0, hfz37_1, hfz37_2, hfz37_3, hfz37_4, hfz37_5⟩ := fzQ6 BK286.out) | ((with_reducible refine gate_callee (f := 86) rfl ?_); refine goesL_ (some 11) rfl rfl Tryz.func86 (by kernel_rfl) rfl #[.agg #[.string a0_0, .slice A0_1 l0_1.length c0_1, .int .i64 a0_2, .slice A0_3 l0_3.length c0_3, .slice A0_4 l0_4.length c0_4, .slice A0_5 l0_5.length c0_5]] rfl (by (try simp only [List.map_toArray, List.map_cons, List.map_nil]); try rfl) ?_; (with_reducible refine (pleatref03_size.calls k a0_0 _ _ l0_1 a0_2 _ _ l0_3 _ _ l0_4 _ _ l0_5 t287 t288 _ ?side1 ?side2 ?side3 ?side4 ?side5 ?side6 ?side7 ?side8 A2.out).mono ?_); (case side1 => exact cbQ HB.out HR0_1.out); (case side2 => exact HC0_1.out); (case side3 => exact cbQ HB.out HR0_3.out); (case side4 => exact HC0_3.out); (case side5 => exact cbQ HB.out HR0_4.out); (case side6 => exact HC0_4.out); (case side7 => exact cbQ HB.out HR0_5.out); (case side8 => exact HC0_5.out); rintro e w38 ⟨rfl, hb⟩; refine ⟨_, rfl, ?_⟩; replace BK286 := Aside0.mk (bbQ hb BK286.out); replace HB := Aside0.mk (bs1Q hb (by repeat with_reducible first | exact HB.out | apply pw_below_drewN | apply below_drew1 | refine below_set ?_ GE286.out)); (try clear hb); (try clear hb2); (try clear hk); (try clear hi); obtain ⟨hcz39_0, hcz39_1, hcz39_2, hcz39_3, hcz39_4, hcz39_5⟩ := bcQ6 BK286.out; obtain ⟨hfz39_0, hfz39_1, hfz39_2, hfz39_3, hfz39_4, hfz39_5⟩ := fzQ6 BK286.out) | ((with_reducible refine gate_callee (f := 87) rfl ?_); refine goesL_ (some 20) rfl rfl Tryz.func87 (by kernel_rfl) rfl #[.agg #[.string a0_0, .slice A0_1 l0_1.length c0_1, .int .i64 a0_2, .slice A0_3 l0_3.length c0_3, .slice A0_4 l0_4.length c0_4, .slice A0_5 l0_5.length c0_5]] rfl (by (try simp only [List.map_toArray, List.map_cons, List.map_nil]); try rfl) ?_; (with_reducible refine (pleatref03_symbols.calls k a0_0 _ _ l0_1 a0_2 _ _ l0_3 _ _ l0_4 _ _ l0_5 t289 t290 _ ?side1 ?side2 ?side3 ?side4 ?side5 ?side6 ?side7 ?side8 A4.out).mono ?_); (case side1 => exact cbQ HB.out HR0_1.out); (case side2 => exact HC0_1.out); (case side3 => exact cbQ HB.out HR0_3.out); (case side4 => exact HC0_3.out); (case side5 => exact cbQ HB.out HR0_4.out); (case side6 => exact HC0_4.out); (case side7 => exact cbQ HB.out HR0_5.out); (case side8 => exact HC0_5.out); rintro e w40 ⟨rfl, hb⟩; refine ⟨_, rfl, ?_⟩; replace BK286 := Aside0.mk (bbQ hb BK286.out); replace HB := Aside0.mk (bs1Q hb (by repeat with_reducible first | exact HB.out | apply pw_below_drewN | apply below_drew1 | refine below_set ?_ GE286.out)); (try clear hb); (try clear hb2); (try clear hk); (try clear hi)))
   go_ret2
   exact ⟨by first | rfl | (simp [errW_none, errW_some] <;> rfl) | (simp [*, errW_none, errW_some] <;> rfl), by repeat with_reducible first | exact HB.out | apply pw_below_drewN | apply below_drew1 | refine below_set ?_ GE286.out⟩
 ·
  rw [if_neg c3] at H
  have c3b0 : (t287 == 0) = false := beq_eq_false_iff_ne.mpr c3
  have c3b1 : (t287 != 0) = true := bne_iff_ne.mpr c3
  simp only [Option.some.injEq, Prod.mk.injEq] at H
  obtain ⟨rfl, rfl⟩ := H
  go_enter Tryz.func30, Tryz.ntmps30
  go_wp2_with (first | ((with_reducible refine gate_dst (N := 1) rfl ?_); (try (refine gate_guard (by rfl) ?_; dsimp only)); refine box_event ?hg (N := 1) ?hd (cs := #[.string a0_0, .slice A0_1 l0_1.length c0_1, .int .i64 a0_2, .slice A0_3 l0_3.length c0_3, .slice A0_4 l0_4.length c0_4, .slice A0_5 l0_5.length c0_5]) (t := 27) ?hr ?_; (case hd => rfl); (case hg => rfl); (case hr => go_simp; try rfl); intro gb286 hg w41 hbox hb; have BK286 := Aside0.mk (hbox); have GW286 := Aside0.mk (gwQ hg HB.out); have GE286 := Aside0.mk (gwQ hg HB.out); replace HB := Aside0.mk (bsQ hb HB.out); clear hb hbox hg; obtain ⟨hcz42_0, hcz42_1, hcz42_2, hcz42_3, hcz42_4, hcz42_5⟩ := bcQ6 BK286.out; obtain ⟨hfz42_0, hfz42_1, hfz42_2, hfz42_3, hfz42_4, hfz42_5⟩ := fzQ6 BK286.out) | ((with_reducible refine gate_callee (f := 86) rfl ?_); refine goesL_ (some 11) rfl rfl Tryz.func86 (by kernel_rfl) rfl #[.agg #[.string a0_0, .slice A0_1 l0_1.length c0_1, .int .i64 a0_2, .slice A0_3 l0_3.length c0_3, .slice A0_4 l0_4.length c0_4, .slice A0_5 l0_5.length c0_5]] rfl (by (try simp only [List.map_toArray, List.map_cons, List.map_nil]); try rfl) ?_; (with_reducible refine (pleatref03_size.calls k a0_0 _ _ l0_1 a0_2 _ _ l0_3 _ _ l0_4 _ _ l0_5 t287 t288 _ ?side1 ?side2 ?side3 ?side4 ?side5 ?side6 ?side7 ?side8 A2.out).mono ?_); (case side1 => exact cbQ HB.out HR0_1.out); (case side2 => exact HC0_1.out); (case side3 => exact cbQ HB.out HR0_3.out); (case side4 => exact HC0_3.out); (case side5 => exact cbQ HB.out HR0_4.out); (case side6 => exact HC0_4.out); (case side7 => exact cbQ HB.out HR0_5.out); (case side8 => exact HC0_5.out); rintro e w43 ⟨rfl, hb⟩; refine ⟨_, rfl, ?_⟩; replace BK286 := Aside0.mk (bbQ hb BK286.out); replace HB := Aside0.mk (bs1Q hb (by repeat with_reducible first | exact HB.out | apply pw_below_drewN | apply below_drew1 | refine below_set ?_ GE286.out)); (try clear hb); (try clear hb2); (try clear hk); (try clear hi)))
  go_ret2
  exact ⟨by first | rfl | (simp [errW_none, errW_some] <;> rfl) | (simp [*, errW_none, errW_some] <;> rfl), by repeat with_reducible first | exact HB.out | apply pw_below_drewN | apply below_drew1 | refine below_set ?_ GE286.out⟩


/-! ### pleatref07_four: function 109 -/
def pleatref07_four.f (a0 : Int) : Option (List Int) := some (([(a0 / 16777216) % 256, (a0 / 65536) % 256, (a0 / 256) % 256, (a0) % 256] : List Int))
set_option maxHeartbeats 8000000 in
set_option maxRecDepth 100000 in
theorem pleatref07_four.calls (a0 : Int) (r : List Int) (w : World) (h : pleatref07_four.f a0 = some r) :
  Calls Tryz.prog 109 #[.int .u32 a0] w fun e w' => ∃ v0_ : Value, e = .returned (v0_) ∧ Kd.R (Kd.int .u8) 5 w' w.heap.size (fun _ => True) v0_ r ∧ Below w.heap.size w w' := by
 have HB := Aside0.mk (Below.refl w.heap.size w)
 have H : (some (([(a0 / 16777216) % 256, (a0 / 65536) % 256, (a0 / 256) % 256, (a0) % 256] : List Int))) = some r := h
 clear h
 obtain ⟨y296, hy296⟩ : ∃ y_ : List Int, y_ = (([(a0 / 16777216) % 256, (a0 / 65536) % 256, (a0 / 256) % 256, (a0) % 256] : List Int)) := ⟨_, rfl⟩
 replace H : (some y296) = some r := by first | (rw [hy296]; with_reducible exact H) | (have H2_ := (Option.bind_some _ _).symm.trans H; rw [hy296]; with_reducible exact H2_) | (have H2_ := (Option.bind_some _ _).symm.trans H; with_reducible exact H2_) | with_reducible exact H | (rw [hy296]; exact H) | exact H
 have Ny296 := Aside0.mk hy296
 clear hy296
 obtain rfl := Option.some.inj H
 go_enter Tryz.func109, Tryz.ntmps109
 go_wp2_with (first | ((with_reducible refine gate_dst (N := 14) rfl ?_); refine Kd.R_lit (Kd.int .u8) _ 5 ?hg (N := 14) ?hd (xs := ([(a0 / 16777216) % 256, (a0 / 65536) % 256, (a0 / 256) % 256, (a0) % 256] : List Int)) (inner := [.int .u8 ((a0 / 16777216) % 256), .int .u8 ((a0 / 65536) % 256), .int .u8 ((a0 / 256) % 256), .int .u8 ((a0) % 256)]) (ok := fun _ => True) (okp := fun _ => True) ?hr ?hp (fun _ hk => hk) trivial (Below.refl _ _) (Nat.le_refl _) (by simp) ?_; (case hd => rfl); (case hg => rfl); (case hr => go_simp; try rfl); (case hp => exact (Reps.one (show Kd.M (Kd.int .u8) _ _ _ ((a0 / 16777216) % 256) [.int .u8 ((a0 / 16777216) % 256)] from rfl) (Reps.one (show Kd.M (Kd.int .u8) _ _ _ ((a0 / 65536) % 256) [.int .u8 ((a0 / 65536) % 256)] from rfl) (Reps.one (show Kd.M (Kd.int .u8) _ _ _ ((a0 / 256) % 256) [.int .u8 ((a0 / 256) % 256)] from rfl) (Reps.one (show Kd.M (Kd.int .u8) _ _ _ ((a0) % 256) [.int .u8 ((a0) % 256)] from rfl) (Reps.none _ _)))))); intro v297 w2 ho3 hb hg_ hnew_; clear hg_ hnew_; (first | rw [← Ny296.out] at ho3 | (simp only [Int.reduceToNat] at ho3; rw [← Ny296.out] at ho3)); have HO298 := Aside0.mk (Kd.R_lower ho3 (below_size (bwQ HB.out))); replace HB := Aside0.mk (bsQ hb HB.out); clear hb ho3))
 go_ret
 exact ⟨_, by first | rfl | (simp [errW_none, errW_some] <;> rfl) | (simp [*, errW_none, errW_some] <;> rfl), by (with_reducible repeat (first | apply Kd.R_alloc | apply Kd.R_drewN | apply Kd.R_drew)); exact HO298.out, bwQ HB.out⟩


/-! ### pleatref07_Four: function 92 -/
def pleatref07_Four.f (a0 : Int) : Option (List Int) := (pleatref07_four.f a0).bind fun t299 => (some t299)
set_option maxHeartbeats 8000000 in
set_option maxRecDepth 100000 in
theorem pleatref07_Four.calls (a0 : Int) (r : List Int) (w : World) (h : pleatref07_Four.f a0 = some r) :
  Calls Tryz.prog 92 #[.int .u32 a0] w fun e w' => ∃ v0_ : Value, e = .returned (v0_) ∧ Kd.R (Kd.int .u8) 5 w' w.heap.size (fun _ => True) v0_ r ∧ Below w.heap.size w w' := by
 have HB := Aside0.mk (Below.refl w.heap.size w)
 have H : ((pleatref07_four.f a0).bind fun t299 => (some t299)) = some r := h
 clear h
 replace H := Option.bind_eq_some_iff.mp H
 obtain ⟨t299, A20, H⟩ := H
 try dsimp only at H
 have A2 := Aside0.mk A20
 clear A20
 obtain rfl := Option.some.inj H
 go_enter Tryz.func92, Tryz.ntmps92
 go_wp2_with (first | ((with_reducible refine gate_callee (f := 109) rfl ?_); refine goesL_ (some 4) rfl rfl Tryz.func109 (by kernel_rfl) rfl #[.int .u32 a0] rfl (by (try simp only [List.map_toArray, List.map_cons, List.map_nil]); try rfl) ?_; (with_reducible refine (pleatref07_four.calls a0 t299 _ A2.out).mono ?_); rintro e w3 ⟨v300, rfl, ho0, hb⟩; refine ⟨_, rfl, ?_⟩; have HO301 := Aside0.mk (Kd.R_lower ho0 (below_size (bwQ HB.out))); replace HB := Aside0.mk (bsQ hb HB.out); (try clear hb); (try clear hb2); (try clear hk); (try clear hi); (try clear ho0)))
 go_ret
 exact ⟨_, by first | rfl | (simp [errW_none, errW_some] <;> rfl) | (simp [*, errW_none, errW_some] <;> rfl), by (with_reducible repeat (first | apply Kd.R_alloc | apply Kd.R_drewN | apply Kd.R_drew)); exact HO301.out, bwQ HB.out⟩


/-! ### pleatref04_text: function 90 -/
def pleatref04_text.f (a0 : ByteArray) : Option (List Int) := (pleatref07_Four.f (((a0.size : Int)) % 4294967296)).bind fun t302 => (if t302.length + a0.size < 140737488355328 then (some (t302 ++ bytesOf a0)) else (none))
set_option maxHeartbeats 8000000 in
set_option maxRecDepth 100000 in
theorem pleatref04_text.calls (a0 : ByteArray) (r : List Int) (w : World) (h : pleatref04_text.f a0 = some r) :
  Calls Tryz.prog 90 #[.string a0] w fun e w' => ∃ v0_ : Value, e = .returned (v0_) ∧ Kd.R (Kd.int .u8) 5 w' w.heap.size (fun _ => True) v0_ r ∧ Below w.heap.size w w' := by
 have HB := Aside0.mk (Below.refl w.heap.size w)
 have H : ((pleatref07_Four.f (((a0.size : Int)) % 4294967296)).bind fun t302 => (if t302.length + a0.size < 140737488355328 then (some (t302 ++ bytesOf a0)) else (none))) = some r := h
 clear h
 replace H := Option.bind_eq_some_iff.mp H
 obtain ⟨t302, A20, H⟩ := H
 try dsimp only at H
 have A2 := Aside0.mk A20
 clear A20
 by_cases c3 : t302.length + a0.size < 140737488355328
 ·
  rw [if_pos c3] at H
  have LMc3 := Aside0.mk c3
  clear c3
  obtain ⟨y305, hy305⟩ : ∃ y_ : List Int, y_ = (t302 ++ bytesOf a0) := ⟨_, rfl⟩
  replace H : (some y305) = some r := by first | (rw [hy305]; with_reducible exact H) | (have H2_ := (Option.bind_some _ _).symm.trans H; rw [hy305]; with_reducible exact H2_) | (have H2_ := (Option.bind_some _ _).symm.trans H; with_reducible exact H2_) | with_reducible exact H | (rw [hy305]; exact H) | exact H
  have Ny305 := Aside0.mk hy305
  clear hy305
  obtain rfl := Option.some.inj H
  go_enter Tryz.func90, Tryz.ntmps90
  go_wp2_with (first | ((with_reducible refine gate_callee (f := 92) rfl ?_); refine goesL_ (some 7) rfl rfl Tryz.func92 (by kernel_rfl) rfl #[.int .u32 (((a0.size : Int)) % 4294967296)] rfl (by (try simp only [List.map_toArray, List.map_cons, List.map_nil]); try rfl) ?_; (with_reducible refine (pleatref07_Four.calls (((a0.size : Int)) % 4294967296) t302 _ A2.out).mono ?_); rintro e w4 ⟨v303, rfl, ho0, hb⟩; refine ⟨_, rfl, ?_⟩; have HO304 := Aside0.mk (Kd.R_lower ho0 (below_size (bwQ HB.out))); replace HB := Aside0.mk (bsQ hb HB.out); (try clear hb); (try clear hb2); (try clear hk); (try clear hi); (try clear ho0)) | (at_builtin; refine print_append_str (w0 := w) w.heap.size rfl (.tmp 8) _ 31 9 5 rfl Tryz.underlying31 Tryz.underlying9 info5 v303 t302 a0 rfl rfl ?aO ?aB ?aS ?aL ?_; (case aB => exact (bwQ HB.out)); (case aO => exact (Kd.own_of_R (by (with_reducible repeat (first | apply Kd.R_alloc | apply Kd.R_drewN | apply Kd.R_drew)); exact HO304.out))); (case aS => exact (below_size (bwQ HB.out))); (case aL => have := LMc3.out; omega); intro v306 w5 ho0 hb hg; have ho := Kd.R_of_own (h1 := fun _ => rfl) (ok := fun _ => True) ho0 (fun _ _ => trivial); clear ho0; have hat := True.intro; rw [← Ny305.out] at ho; change Kd.R (Kd.int .u8) 5 w5 w.heap.size (fun _ => True) v306 y305 at ho; replace HB := Aside0.mk (hb); have HO307 := Aside0.mk (ho); clear HO304; clear ho hb hg hat))
  go_ret
  exact ⟨_, by first | rfl | (simp [errW_none, errW_some] <;> rfl) | (simp [*, errW_none, errW_some] <;> rfl), by (with_reducible repeat (first | apply Kd.R_alloc | apply Kd.R_drewN | apply Kd.R_drew)); exact HO307.out, bwQ HB.out⟩
 ·
  rw [if_neg c3] at H
  exact absurd H (by simp)


/-! ### pleatref04_four: function 91 -/
def pleatref04_four.f (a0 : Int) : Option (List Int) := (pleatref07_Four.f ((a0) % 4294967296)).bind fun t308 => (some t308)
set_option maxHeartbeats 8000000 in
set_option maxRecDepth 100000 in
theorem pleatref04_four.calls (a0 : Int) (r : List Int) (w : World) (h : pleatref04_four.f a0 = some r) :
  Calls Tryz.prog 91 #[.int .i64 a0] w fun e w' => ∃ v0_ : Value, e = .returned (v0_) ∧ Kd.R (Kd.int .u8) 5 w' w.heap.size (fun _ => True) v0_ r ∧ Below w.heap.size w w' := by
 have HB := Aside0.mk (Below.refl w.heap.size w)
 have H : ((pleatref07_Four.f ((a0) % 4294967296)).bind fun t308 => (some t308)) = some r := h
 clear h
 replace H := Option.bind_eq_some_iff.mp H
 obtain ⟨t308, A20, H⟩ := H
 try dsimp only at H
 have A2 := Aside0.mk A20
 clear A20
 obtain rfl := Option.some.inj H
 go_enter Tryz.func91, Tryz.ntmps91
 go_wp2_with (first | ((with_reducible refine gate_callee (f := 92) rfl ?_); refine goesL_ (some 5) rfl rfl Tryz.func92 (by kernel_rfl) rfl #[.int .u32 ((a0) % 4294967296)] rfl (by (try simp only [List.map_toArray, List.map_cons, List.map_nil]); try rfl) ?_; (with_reducible refine (pleatref07_Four.calls ((a0) % 4294967296) t308 _ A2.out).mono ?_); rintro e w3 ⟨v309, rfl, ho0, hb⟩; refine ⟨_, rfl, ?_⟩; have HO310 := Aside0.mk (Kd.R_lower ho0 (below_size (bwQ HB.out))); replace HB := Aside0.mk (bsQ hb HB.out); (try clear hb); (try clear hb2); (try clear hk); (try clear hi); (try clear ho0)))
 go_ret
 exact ⟨_, by first | rfl | (simp [errW_none, errW_some] <;> rfl) | (simp [*, errW_none, errW_some] <;> rfl), by (with_reducible repeat (first | apply Kd.R_alloc | apply Kd.R_drewN | apply Kd.R_drew)); exact HO310.out, bwQ HB.out⟩


/-! ### pleatref07_eight: function 110 -/
def pleatref07_eight.f (a0 : Int) : Option (List Int) := (pleatref07_four.f (((IntKind.u64.wrap (a0)) / 4294967296) % 4294967296)).bind fun t311 => ((pleatref07_four.f ((IntKind.u64.wrap (a0)) % 4294967296)).bind fun t314 => (if t311.length + t314.length < 140737488355328 then (some (t311 ++ t314)) else (none)))
set_option maxHeartbeats 8000000 in
set_option maxRecDepth 100000 in
theorem pleatref07_eight.calls (a0 : Int) (r : List Int) (w : World) (h : pleatref07_eight.f a0 = some r) :
  Calls Tryz.prog 110 #[.int .i64 a0] w fun e w' => ∃ v0_ : Value, e = .returned (v0_) ∧ Kd.R (Kd.int .u8) 5 w' w.heap.size (fun _ => True) v0_ r ∧ Below w.heap.size w w' := by
 have HB := Aside0.mk (Below.refl w.heap.size w)
 have H : ((pleatref07_four.f (((IntKind.u64.wrap (a0)) / 4294967296) % 4294967296)).bind fun t311 => ((pleatref07_four.f ((IntKind.u64.wrap (a0)) % 4294967296)).bind fun t314 => (if t311.length + t314.length < 140737488355328 then (some (t311 ++ t314)) else (none)))) = some r := h
 clear h
 replace H := Option.bind_eq_some_iff.mp H
 obtain ⟨t311, A20, H⟩ := H
 try dsimp only at H
 have A2 := Aside0.mk A20
 clear A20
 replace H := Option.bind_eq_some_iff.mp H
 obtain ⟨t314, A30, H⟩ := H
 try dsimp only at H
 have A3 := Aside0.mk A30
 clear A30
 by_cases c4 : t311.length + t314.length < 140737488355328
 ·
  rw [if_pos c4] at H
  have LMc4 := Aside0.mk c4
  clear c4
  obtain ⟨y317, hy317⟩ : ∃ y_ : List Int, y_ = (t311 ++ t314) := ⟨_, rfl⟩
  replace H : (some y317) = some r := by first | (rw [hy317]; with_reducible exact H) | (have H2_ := (Option.bind_some _ _).symm.trans H; rw [hy317]; with_reducible exact H2_) | (have H2_ := (Option.bind_some _ _).symm.trans H; with_reducible exact H2_) | with_reducible exact H | (rw [hy317]; exact H) | exact H
  have Ny317 := Aside0.mk hy317
  clear hy317
  obtain rfl := Option.some.inj H
  go_enter Tryz.func110, Tryz.ntmps110
  go_wp2_with (first | ((with_reducible refine gate_callee (f := 109) rfl ?_); refine goesL_ (some 8) rfl rfl Tryz.func109 (by kernel_rfl) rfl #[.int .u32 (((IntKind.u64.wrap (a0)) / 4294967296) % 4294967296)] rfl (by (try simp only [List.map_toArray, List.map_cons, List.map_nil]); try rfl) ?_; (with_reducible refine (pleatref07_four.calls (((IntKind.u64.wrap (a0)) / 4294967296) % 4294967296) t311 _ A2.out).mono ?_); rintro e w5 ⟨v312, rfl, ho0, hb⟩; refine ⟨_, rfl, ?_⟩; have HO313 := Aside0.mk (Kd.R_lower ho0 (below_size (bwQ HB.out))); replace HB := Aside0.mk (bsQ hb HB.out); (try clear hb); (try clear hb2); (try clear hk); (try clear hi); (try clear ho0)) | ((with_reducible refine gate_callee (f := 109) rfl ?_); refine goesL_ (some 13) rfl rfl Tryz.func109 (by kernel_rfl) rfl #[.int .u32 ((IntKind.u64.wrap (a0)) % 4294967296)] rfl (by (try simp only [List.map_toArray, List.map_cons, List.map_nil]); try rfl) ?_; (with_reducible refine (pleatref07_four.calls ((IntKind.u64.wrap (a0)) % 4294967296) t314 _ A3.out).mono ?_); rintro e w6 ⟨v315, rfl, ho0, hb⟩; refine ⟨_, rfl, ?_⟩; have n0_ := Aside0.mk (Kd.R_elder' (by (with_reducible repeat (first | apply Kd.R_alloc | apply Kd.R_drewN | apply Kd.R_drew)); exact HO313.out) (Kd.R_base ho0) hb); have n1_ := Aside0.mk (Kd.R_lower (Kd.R_new' ho0 (Kd.R_lt (by (with_reducible repeat (first | apply Kd.R_alloc | apply Kd.R_drewN | apply Kd.R_drew)); exact HO313.out))) (below_size (bwQ HB.out))); have n2_ := Aside0.mk (bsQ hb HB.out); clear HO313; clear HB; have HO313 := n0_; have HO316 := n1_; have HB := n2_; clear n0_ n1_ n2_; (try clear hb); (try clear hb2); (try clear hk); (try clear hi); (try clear ho0); obtain ⟨Ao8, co8, eo8⟩ := Kd.R_slice HO316.out; subst eo8) | ((with_reducible refine gate_builtin (b := .append) (xs := #[.tmp 9, .tmp 13]) rfl ?_); at_builtin; refine Kd.R_append_rows (Kd.int .u8) (w0 := w) w.heap.size rfl (.tmp 9) (.tmp 13) 31 5 (.int .u8 0) 1 rfl Tryz.underlying31 info5 rfl (by decide) (by omega) v312 t311 t314 _ _ _ (fun k_ => some k_ ≠ (.slice Ao8 t314.length co8 : Value).ownBlock) (fun _ => False) rfl rfl ?aO ?aR (fun _ _ h => h) (fun _ h => h.elim) ?aF ?aB ?aS ?aL ?_; (case aR => repeat (first | exact (Kd.R_reads' HO316.out).2.2 | (with_reducible refine Kd.C_alloc ?_ _) | (with_reducible refine Kd.C_drewN ?_ _) | (with_reducible refine Kd.C_drew ?_))); (case aB => exact (bwQ HB.out)); (case aF => exact (fun k_ hk => Kd.fresh' (Kd.R_lt (by (with_reducible repeat (first | apply Kd.R_alloc | apply Kd.R_drewN | apply Kd.R_drew)); exact HO316.out)) k_ hk)); (case aO => exact (by (with_reducible repeat (first | apply Kd.R_alloc | apply Kd.R_drewN | apply Kd.R_drew)); exact Kd.R_mono HO313.out (fun _ hk => hk.2))); (case aS => exact (below_size (bwQ HB.out))); (case aL => have := LMc4.out; omega); intro v318 w7 ho hb hg hat; rw [← Ny317.out] at ho; have n0_ := Aside0.mk (Kd.R_after (ok := (fun _ => True)) (by (with_reducible repeat (first | apply Kd.R_alloc | apply Kd.R_drewN | apply Kd.R_drew)); exact HO316.out) hg hat); have n1_ := Aside0.mk (hb); have n2_ := Aside0.mk (ho); clear HO316; clear HB; clear HO313; have HO316 := n0_; have HB := n1_; have HO319 := n2_; clear n0_ n1_ n2_; clear ho hb hg hat))
  go_ret
  exact ⟨_, by first | rfl | (simp [errW_none, errW_some] <;> rfl) | (simp [*, errW_none, errW_some] <;> rfl), by (with_reducible repeat (first | apply Kd.R_alloc | apply Kd.R_drewN | apply Kd.R_drew)); exact Kd.R_mono HO319.out (fun _ hk => trivial), bwQ HB.out⟩
 ·
  rw [if_neg c4] at H
  exact absurd H (by simp)


/-! ### pleatref07_Eight: function 93 -/
def pleatref07_Eight.f (a0 : Int) : Option (List Int) := (pleatref07_eight.f a0).bind fun t320 => (some t320)
set_option maxHeartbeats 8000000 in
set_option maxRecDepth 100000 in
theorem pleatref07_Eight.calls (a0 : Int) (r : List Int) (w : World) (h : pleatref07_Eight.f a0 = some r) :
  Calls Tryz.prog 93 #[.int .i64 a0] w fun e w' => ∃ v0_ : Value, e = .returned (v0_) ∧ Kd.R (Kd.int .u8) 5 w' w.heap.size (fun _ => True) v0_ r ∧ Below w.heap.size w w' := by
 have HB := Aside0.mk (Below.refl w.heap.size w)
 have H : ((pleatref07_eight.f a0).bind fun t320 => (some t320)) = some r := h
 clear h
 replace H := Option.bind_eq_some_iff.mp H
 obtain ⟨t320, A20, H⟩ := H
 try dsimp only at H
 have A2 := Aside0.mk A20
 clear A20
 obtain rfl := Option.some.inj H
 go_enter Tryz.func93, Tryz.ntmps93
 go_wp2_with (first | ((with_reducible refine gate_callee (f := 110) rfl ?_); refine goesL_ (some 4) rfl rfl Tryz.func110 (by kernel_rfl) rfl #[.int .i64 a0] rfl (by (try simp only [List.map_toArray, List.map_cons, List.map_nil]); try rfl) ?_; (with_reducible refine (pleatref07_eight.calls a0 t320 _ A2.out).mono ?_); rintro e w3 ⟨v321, rfl, ho0, hb⟩; refine ⟨_, rfl, ?_⟩; have HO322 := Aside0.mk (Kd.R_lower ho0 (below_size (bwQ HB.out))); replace HB := Aside0.mk (bsQ hb HB.out); (try clear hb); (try clear hb2); (try clear hk); (try clear hi); (try clear ho0)))
 go_ret
 exact ⟨_, by first | rfl | (simp [errW_none, errW_some] <;> rfl) | (simp [*, errW_none, errW_some] <;> rfl), by (with_reducible repeat (first | apply Kd.R_alloc | apply Kd.R_drewN | apply Kd.R_drew)); exact HO322.out, bwQ HB.out⟩


/-! ### pleatref07_Sum: function 94 -/
def pleatref07_Sum.l0 : Nat → List Int → Int → Int → Option (Int)
 | 0, _, _, _ => none
 | k + 1, x0, x3, x4 => if x4 < (x0.length : Int) then (if 0 ≤ x4 then (pleatref07_Sum.l0 k x0 ((((31 * x3) % 4294967296) + ((rd x0 x4) % 4294967296)) % 4294967296) (wrap64 (x4 + 1))) else (none)) else (some x3)
def pleatref07_Sum.f (k : Nat) (l0 : List Int) : Option (Int) := pleatref07_Sum.l0 k l0 0 0
theorem pleatref07_Sum.mono_l : ∀ k, (∀ y0 y1 y2, LeO (pleatref07_Sum.l0 k y0 y1 y2) (pleatref07_Sum.l0 (k + 1) y0 y1 y2))
 | 0 => fun _ _ _ r h => by simp [pleatref07_Sum.l0] at h
 | k + 1 => by
  have ih0 := pleatref07_Sum.mono_l k
  ·
   intro y0 y1 y2
   unfold pleatref07_Sum.l0
   repeat' first
   | (with_reducible first | exact ih0 _ _ _ | exact LeO.refl _ | exact LeO.none _ | refine LeO.ite ?_ ?_ | refine LeO.bind ?_ (fun _ => ?_))
theorem pleatref07_Sum.mono : ∀ a0 k, LeO (pleatref07_Sum.f k a0) (pleatref07_Sum.f (k + 1) a0) := by
 intro a0 k
 have ih0 := pleatref07_Sum.mono_l k
 unfold pleatref07_Sum.f
 repeat' first
   | (with_reducible first | exact ih0 _ _ _ | exact LeO.refl _ | exact LeO.none _ | refine LeO.ite ?_ ?_ | refine LeO.bind ?_ (fun _ => ?_))
set_option maxHeartbeats 8000000 in
set_option maxRecDepth 100000 in
theorem pleatref07_Sum.calls (k : Nat) (A0 : Option Addr) (c0 : Nat) (l0 : List Int) (r : Int) (w : World) (hr0 : Kd.C (Kd.int .u8) w A0 l0.length l0) (hc0 : l0.length ≤ c0) (h : pleatref07_Sum.f k l0 = some r) :
  Calls Tryz.prog 94 #[.slice A0 l0.length c0] w fun e w' => e = .returned (.int .u32 r) ∧ Drawn0 w w' := by
 have HR0 := Aside0.mk hr0
 have HC0 := Aside0.mk hc0
 clear hr0 hc0
 have H : (pleatref07_Sum.l0 k l0 0 0) = some r := h
 clear h
 have H' := Aside0.mk H
 clear H
 go_enter Tryz.func94, Tryz.ntmps94
 go_wp2
 go_loopg [3, 4] k (fun kq v3 v4 w' => ∃ (x3_1 : Int) (x4_1 : Int), v3 = .int .u32 x3_1 ∧ v4 = .int .i64 x4_1 ∧ Aside0 (pleatref07_Sum.l0 kq l0 x3_1 x4_1 = some r) ∧ Aside0 (kq ≤ k) ∧ Drawn0 w w')
 case atStart => exact ⟨(0), (0), (by first | rfl | (simp; done) | (simp [*]; done)), (by first | rfl | (simp; done) | (simp [*]; done)), H', ⟨Nat.le_refl _⟩, by repeat (first | exact Drawn0.refl _ | apply Drawn0.step)⟩
 case round =>
  clear H'
  obtain ⟨x3_1, x4_1, rfl, rfl, HA, HK1, ⟨m1, rfl⟩⟩ := hrel
  cases gk with
  | zero => exact absurd HA.out (by simp [pleatref07_Sum.l0])
  | succ k1 =>
   have H := HA.out
   clear HA
   simp only [pleatref07_Sum.l0] at H
   by_cases c2 : x4_1 < (l0.length : Int)
   ·
    rw [if_pos c2] at H
    have c2b0 : decide (x4_1 < (l0.length : Int)) = true := decide_eq_true c2
    clear c2
    by_cases c3 : 0 ≤ x4_1
    ·
     rw [if_pos c3] at H
     have c3b0 : decide (0 ≤ x4_1) = true := decide_eq_true c3
     clear c3
     have H' := Aside0.mk H
     clear H
     have p323 : 0 ≤ (x4_1 : Int) := of_decide_eq_true ‹_›
     have q323 : x4_1 < (l0.length : Int) := of_decide_eq_true ‹_›
     obtain ⟨ad323, e323, hx323_0⟩ := Kd.at_int HR0.out x4_1 p323 q323
     cases e323
     replace p323 := eq_true p323
     replace q323 := eq_true q323
     go_wp2
     go_roundg k1
     case measure => have := HK1.out; omega
     case rel => exact ⟨((((31 * x3_1) % 4294967296) + ((rd l0 x4_1) % 4294967296)) % 4294967296), (wrap64 (x4_1 + 1)), (by first | rfl | (simp; done) | (simp [*]; done)), (by first | rfl | (simp; done) | (simp [*]; done)), H', ⟨by have := HK1.out; omega⟩, by repeat (first | exact Drawn0.refl _ | apply Drawn0.step)⟩
    ·
     rw [if_neg c3] at H
     exact absurd H (by simp)
   ·
    rw [if_neg c2] at H
    have c2b0 : decide (x4_1 < (l0.length : Int)) = false := decide_eq_false c2
    clear c2
    obtain rfl := Option.some.inj H
    go_wp2
    go_ret
    exact ⟨by first | rfl | (simp; done) | (simp [*]; done), by repeat (first | exact Drawn0.refl _ | apply Drawn0.step)⟩
end Go.Proofs.YtiaohbbafaaibabGreatDoor.P
