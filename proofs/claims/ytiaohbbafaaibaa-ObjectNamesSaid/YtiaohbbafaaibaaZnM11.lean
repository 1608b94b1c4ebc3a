/- OWN TEXT and printed parts of this claim, laid together: P36, ObjL, PureObjectNames. -/
import Derived.Test.YtiaohbbafaaibaaZnM0
import Derived.Test.YtiaohbbafaaibaaZnM10
import Derived.Test.YtiaohbbafaaibaaZnM4
import Derived.Test.YtiaohbbafaaibaaZnM8
import Derived.Test.YtiaohbbafaaibaaZnM9
import Derived.Test.YtiaohbbafaaibaaZnM6
import Derived.Test.YtiaohbbafaaibaaZnM7
/- What the Go functions named below come to, as plain functions, each with its proof; written by this session's prt.py over the kit's print. -/
namespace Go.Proofs.Ytiaohbbafaaibaa.P
open Go.RowKit Go.Proofs.YtiaohbbafaaibaaW.PrintWords Go.Proofs.YtiaohbbafaaibaaW.PrintLast Go.Proofs.YtiaohbbafaaibaaW.PrintMore
attribute [local go_sem] max2_int min2_int max_two min_two max_three min_three max_four min_four   -- for this text's walks alone
set_option linter.unusedVariables false
set_option linter.unusedSimpArgs false

attribute [local go_sem high] eqA120 eqA130
/-! ### pleatref03_Check: function 76 -/
def pleatref03_Check.l0 : Nat → Int → ByteArray → List Int → Int → List Int → List (S120) → List (S130) → Option (Int × Int)
  | 0, _, _, _, _, _, _, _ => none
  | k + 1, x6, x754000, x754001, x754002, x754003, x754004, x754005 => if x6 < (x754001.length : Int) then (if 0 ≤ x6 then ((pleatref02_Target.f k (rd x754001 x6)).bind fun bt761 => (if bt761.2 = true then (if bt761.1 > (x754001.length : Int) then (some (22, wrap64 ((-1) - x6))) else (pleatref03_Check.l0 k (wrap64 (x6 + 1)) x754000 x754001 x754002 x754003 x754004 x754005)) else (pleatref03_Check.l0 k (wrap64 (x6 + 1)) x754000 x754001 x754002 x754003 x754004 x754005))) else (none)) else (some (0, 0))
def pleatref03_Check.f (k : Nat) (a0_0 : ByteArray) (l0_1 : List Int) (a0_2 : Int) (l0_3 : List Int) (l0_4 : List (S120)) (l0_5 : List (S130)) : Option (Int × Int) := (pleatref03_size.f k a0_0 l0_1 a0_2 l0_3 l0_4 l0_5).bind fun bt754 => (if bt754.1 = 0 then ((pleatref03_symbols.f k a0_0 l0_1 a0_2 l0_3 l0_4 l0_5).bind fun bt756 => (if bt756.1 = 0 then ((pleatref03_relocs.f k a0_0 l0_1 a0_2 l0_3 l0_4 l0_5).bind fun bt758 => (if bt758.1 = 0 then (pleatref03_Check.l0 k 0 a0_0 l0_1 a0_2 l0_3 l0_4 l0_5) else (some (bt758.1, bt758.2)))) else (some (bt756.1, bt756.2)))) else (some (bt754.1, bt754.2)))
theorem pleatref03_Check.mono_l : ∀ k, (∀ y0 y1 y2 y3 y4 y5 y6, LeO (pleatref03_Check.l0 k y0 y1 y2 y3 y4 y5 y6) (pleatref03_Check.l0 (k + 1) y0 y1 y2 y3 y4 y5 y6))
  | 0 => fun _ _ _ _ _ _ _ r h => by simp [pleatref03_Check.l0] at h
  | k + 1 => by
    have ih0 := pleatref03_Check.mono_l k
    · intro y0 y1 y2 y3 y4 y5 y6
      unfold pleatref03_Check.l0
      repeat' first
      | (with_reducible exact ih0 _ _ _ _ _ _ _)
      | (with_reducible exact pleatref02_Target.mono _ _)
      | (with_reducible exact pleatref03_relocs.mono _ _ _ _ _ _ _)
      | (with_reducible exact pleatref03_size.mono _ _ _ _ _ _ _)
      | (with_reducible exact pleatref03_symbols.mono _ _ _ _ _ _ _)
      | (with_reducible exact LeO.refl _)
      | (with_reducible exact LeO.none _)
      | (with_reducible refine LeO.ite ?_ ?_)
      | (with_reducible refine LeO.bind ?_ (fun _ => ?_))
      | exact ih0 _ _ _ _ _ _ _
      | exact pleatref02_Target.mono _ _
      | exact pleatref03_relocs.mono _ _ _ _ _ _ _
      | exact pleatref03_size.mono _ _ _ _ _ _ _
      | exact pleatref03_symbols.mono _ _ _ _ _ _ _
      | exact LeO.none _
      | refine LeO.ite ?_ ?_
      | refine LeO.bind ?_ (fun _ => ?_)
theorem pleatref03_Check.mono : ∀ a0 a1 a2 a3 a4 a5 k, LeO (pleatref03_Check.f k a0 a1 a2 a3 a4 a5) (pleatref03_Check.f (k + 1) a0 a1 a2 a3 a4 a5) := by
  intro a0 a1 a2 a3 a4 a5 k
  have ih0 := pleatref03_Check.mono_l k
  unfold pleatref03_Check.f
  repeat' first
      | (with_reducible exact ih0 _ _ _ _ _ _ _)
      | (with_reducible exact pleatref02_Target.mono _ _)
      | (with_reducible exact pleatref03_relocs.mono _ _ _ _ _ _ _)
      | (with_reducible exact pleatref03_size.mono _ _ _ _ _ _ _)
      | (with_reducible exact pleatref03_symbols.mono _ _ _ _ _ _ _)
      | (with_reducible exact LeO.refl _)
      | (with_reducible exact LeO.none _)
      | (with_reducible refine LeO.ite ?_ ?_)
      | (with_reducible refine LeO.bind ?_ (fun _ => ?_))
      | exact ih0 _ _ _ _ _ _ _
      | exact pleatref02_Target.mono _ _
      | exact pleatref03_relocs.mono _ _ _ _ _ _ _
      | exact pleatref03_size.mono _ _ _ _ _ _ _
      | exact pleatref03_symbols.mono _ _ _ _ _ _ _
      | exact LeO.none _
      | refine LeO.ite ?_ ?_
      | refine LeO.bind ?_ (fun _ => ?_)
set_option maxHeartbeats 8000000 in
set_option maxRecDepth 100000 in
theorem pleatref03_Check.calls (k : Nat) (a0_0 : ByteArray) (A0_1 : Option Addr) (c0_1 : Nat) (l0_1 : List Int) (a0_2 : Int) (A0_3 : Option Addr) (c0_3 : Nat) (l0_3 : List Int) (A0_4 : Option Addr) (c0_4 : Nat) (l0_4 : List (S120)) (A0_5 : Option Addr) (c0_5 : Nat) (l0_5 : List (S130)) (r1 : Int) (r2 : Int) (w : World) (hr0_1 : Kd.C (Kd.int .u32) w A0_1 l0_1.length l0_1) (hc0_1 : l0_1.length ≤ c0_1) (hr0_3 : Kd.C (Kd.int .i64) w A0_3 l0_3.length l0_3) (hc0_3 : l0_3.length ≤ c0_3) (hr0_4 : Kd.C k120 w A0_4 l0_4.length l0_4) (hc0_4 : l0_4.length ≤ c0_4) (hr0_5 : Kd.C k130 w A0_5 l0_5.length l0_5) (hc0_5 : l0_5.length ≤ c0_5) (h : pleatref03_Check.f k a0_0 l0_1 a0_2 l0_3 l0_4 l0_5 = some (r1, r2)) :
    Calls Try.prog 76 #[.agg #[.string a0_0, .slice A0_1 l0_1.length c0_1, .int .i64 a0_2, .slice A0_3 l0_3.length c0_3, .slice A0_4 l0_4.length c0_4, .slice A0_5 l0_5.length c0_5]] w fun e w' => e = .returned (.tuple #[.int .i64 r1, .int .i64 r2]) ∧ Below w.heap.size w w' := by
  have hu88 := Try.underlying88
  have HR0_1 := Aside0.mk hr0_1
  have HC0_1 := Aside0.mk hc0_1
  clear hr0_1 hc0_1
  have HR0_3 := Aside0.mk hr0_3
  have HC0_3 := Aside0.mk hc0_3
  clear hr0_3 hc0_3
  have HR0_4 := Aside0.mk hr0_4
  have HC0_4 := Aside0.mk hc0_4
  clear hr0_4 hc0_4
  have HR0_5 := Aside0.mk hr0_5
  have HC0_5 := Aside0.mk hc0_5
  clear hr0_5 hc0_5
  have HB := Aside0.mk (Below.refl w.heap.size w)
  have H : ((pleatref03_size.f k a0_0 l0_1 a0_2 l0_3 l0_4 l0_5).bind fun bt754 => (if bt754.1 = 0 then ((pleatref03_symbols.f k a0_0 l0_1 a0_2 l0_3 l0_4 l0_5).bind fun bt756 => (if bt756.1 = 0 then ((pleatref03_relocs.f k a0_0 l0_1 a0_2 l0_3 l0_4 l0_5).bind fun bt758 => (if bt758.1 = 0 then (pleatref03_Check.l0 k 0 a0_0 l0_1 a0_2 l0_3 l0_4 l0_5) else (some (bt758.1, bt758.2)))) else (some (bt756.1, bt756.2)))) else (some (bt754.1, bt754.2)))) = some (r1, r2) := h
  clear h
  replace H := Option.bind_eq_some_iff.mp H
  obtain ⟨⟨t754, t755⟩, A20, H⟩ := H
  replace H : (if t754 = 0 then ((pleatref03_symbols.f k a0_0 l0_1 a0_2 l0_3 l0_4 l0_5).bind fun bt756 => (if bt756.1 = 0 then ((pleatref03_relocs.f k a0_0 l0_1 a0_2 l0_3 l0_4 l0_5).bind fun bt758 => (if bt758.1 = 0 then (pleatref03_Check.l0 k 0 a0_0 l0_1 a0_2 l0_3 l0_4 l0_5) else (some (bt758.1, bt758.2)))) else (some (bt756.1, bt756.2)))) else (some (t754, t755))) = some (r1, r2) := H
  have A2 := Aside0.mk A20
  clear A20
  by_cases c3 : t754 = 0
  · rw [if_pos c3] at H
    have c3b0 : (t754 == 0) = true := beq_iff_eq.mpr c3
    have c3b1 : (t754 != 0) = false := bne_eq_false_iff_eq.mpr c3
    clear c3
    replace H := Option.bind_eq_some_iff.mp H
    obtain ⟨⟨t756, t757⟩, A40, H⟩ := H
    replace H : (if t756 = 0 then ((pleatref03_relocs.f k a0_0 l0_1 a0_2 l0_3 l0_4 l0_5).bind fun bt758 => (if bt758.1 = 0 then (pleatref03_Check.l0 k 0 a0_0 l0_1 a0_2 l0_3 l0_4 l0_5) else (some (bt758.1, bt758.2)))) else (some (t756, t757))) = some (r1, r2) := H
    have A4 := Aside0.mk A40
    clear A40
    by_cases c5 : t756 = 0
    · rw [if_pos c5] at H
      have c5b0 : (t756 == 0) = true := beq_iff_eq.mpr c5
      have c5b1 : (t756 != 0) = false := bne_eq_false_iff_eq.mpr c5
      clear c5
      replace H := Option.bind_eq_some_iff.mp H
      obtain ⟨⟨t758, t759⟩, A60, H⟩ := H
      replace H : (if t758 = 0 then (pleatref03_Check.l0 k 0 a0_0 l0_1 a0_2 l0_3 l0_4 l0_5) else (some (t758, t759))) = some (r1, r2) := H
      have A6 := Aside0.mk A60
      clear A60
      by_cases c7 : t758 = 0
      · rw [if_pos c7] at H
        have c7b0 : (t758 == 0) = true := beq_iff_eq.mpr c7
        have c7b1 : (t758 != 0) = false := bne_eq_false_iff_eq.mpr c7
        clear c7
        have H' := Aside0.mk H
        clear H
        go_enter Try.func76, Try.ntmps76
        go_wp2_with (first | ((with_reducible refine gate_dst (N := 1) rfl ?_); (try (refine gate_guard (by rfl) ?_; dsimp only)); refine box_event ?hg (N := 1) ?hd (cs := #[.string a0_0, .slice A0_1 l0_1.length c0_1, .int .i64 a0_2, .slice A0_3 l0_3.length c0_3, .slice A0_4 l0_4.length c0_4, .slice A0_5 l0_5.length c0_5]) (t := 88) ?hr ?_; (case hd => rfl); (case hg => rfl); (case hr => first | (go_simp; done) | (go_simp; rfl)); intro gb753 hg w8 hbox hb; have n0_ := Aside0.mk (below_step (by repeat (first | (with_reducible first | exact HB.out | apply below_alloc | apply pw_below_drewN | apply below_drew1) | exact HB.out)) hb); have n1_ := Aside0.mk (hbox); have n2_ := Aside0.mk ((by rw [hg]; exact (below_size (by repeat (first | (with_reducible first | exact HB.out | apply below_alloc | apply pw_below_drewN | apply below_drew1) | exact HB.out))) : w.heap.size ≤ gb753)); have n3_ := Aside0.mk ((by rw [hg]; exact (below_size (by repeat (first | (with_reducible first | exact HB.out | apply below_alloc | apply pw_below_drewN | apply below_drew1) | exact HB.out))) : w.heap.size ≤ gb753)); clear HB; have HB := n0_; have BK753 := n1_; have GW753 := n2_; have GE753 := n3_; clear n0_ n1_ n2_ n3_; clear hb hbox hg; have hcz9_0 : w8.cell? ⟨gb753, 0, none⟩ = some (.string a0_0) := (blk_cell BK753.out 0).trans rfl; have hcz9_1 : w8.cell? ⟨gb753, 1, none⟩ = some (.slice A0_1 l0_1.length c0_1) := (blk_cell BK753.out 1).trans rfl; have hcz9_2 : w8.cell? ⟨gb753, 2, none⟩ = some (.int .i64 a0_2) := (blk_cell BK753.out 2).trans rfl; have hcz9_3 : w8.cell? ⟨gb753, 3, none⟩ = some (.slice A0_3 l0_3.length c0_3) := (blk_cell BK753.out 3).trans rfl; have hcz9_4 : w8.cell? ⟨gb753, 4, none⟩ = some (.slice A0_4 l0_4.length c0_4) := (blk_cell BK753.out 4).trans rfl; have hcz9_5 : w8.cell? ⟨gb753, 5, none⟩ = some (.slice A0_5 l0_5.length c0_5) := (blk_cell BK753.out 5).trans rfl; have hfz9_0 := blk_frozen BK753.out 0; have hfz9_1 := blk_frozen BK753.out 1; have hfz9_2 := blk_frozen BK753.out 2; have hfz9_3 := blk_frozen BK753.out 3; have hfz9_4 := blk_frozen BK753.out 4; have hfz9_5 := blk_frozen BK753.out 5) | ((with_reducible refine gate_callee (f := 115) rfl ?_); refine goesL_ (some 11) rfl rfl Try.func115 (by kernel_rfl) rfl #[.agg #[.string a0_0, .slice A0_1 l0_1.length c0_1, .int .i64 a0_2, .slice A0_3 l0_3.length c0_3, .slice A0_4 l0_4.length c0_4, .slice A0_5 l0_5.length c0_5]] rfl (by (try simp only [List.map_toArray, List.map_cons, List.map_nil]); first | done | rfl | (simp only [List.length_drop, List.length_take]; rfl)) ?_; (with_reducible refine (pleatref03_size.calls k a0_0 _ _ l0_1 a0_2 _ _ l0_3 _ _ l0_4 _ _ l0_5 t754 t755 _ ?side1 ?side2 ?side3 ?side4 ?side5 ?side6 ?side7 ?side8 A2.out).mono ?_); (case side1 => repeat (first | exact (Kd.C_below HR0_1.out HB.out) | (with_reducible refine Kd.C_alloc ?_ _) | (with_reducible refine Kd.C_drewN ?_ _) | (with_reducible refine Kd.C_drew ?_))); (case side2 => exact HC0_1.out); (case side3 => repeat (first | exact (Kd.C_below HR0_3.out HB.out) | (with_reducible refine Kd.C_alloc ?_ _) | (with_reducible refine Kd.C_drewN ?_ _) | (with_reducible refine Kd.C_drew ?_))); (case side4 => exact HC0_3.out); (case side5 => repeat (first | exact (Kd.C_below HR0_4.out HB.out) | (with_reducible refine Kd.C_alloc ?_ _) | (with_reducible refine Kd.C_drewN ?_ _) | (with_reducible refine Kd.C_drew ?_))); (case side6 => exact HC0_4.out); (case side7 => repeat (first | exact (Kd.C_below HR0_5.out HB.out) | (with_reducible refine Kd.C_alloc ?_ _) | (with_reducible refine Kd.C_drewN ?_ _) | (with_reducible refine Kd.C_drew ?_))); (case side8 => exact HC0_5.out); rintro e w10 ⟨rfl, hb⟩; refine ⟨_, rfl, ?_⟩; have n0_ := Aside0.mk (blk_below (g := gb753) (o := .cells #[.string a0_0, .slice A0_1 l0_1.length c0_1, .int .i64 a0_2, .slice A0_3 l0_3.length c0_3, .slice A0_4 l0_4.length c0_4, .slice A0_5 l0_5.length c0_5] 88 (0, 0)) (by (with_reducible repeat (first | refine blk_drewN ?_ _ | refine blk_drew ?_ | refine blk_alloc ?_ _)); exact BK753.out) hb); have n1_ := Aside0.mk (below_step (by repeat (first | (with_reducible first | exact HB.out | apply below_alloc | apply pw_below_drewN | apply below_drew1 | refine below_set ?_ GE753.out) | exact HB.out)) hb); clear BK753; clear HB; have BK753 := n0_; have HB := n1_; clear n0_ n1_; (try clear hb); (try clear hb2); (try clear hk); (try clear hi); have hcz11_0 : w10.cell? ⟨gb753, 0, none⟩ = some (.string a0_0) := (blk_cell BK753.out 0).trans rfl; have hcz11_1 : w10.cell? ⟨gb753, 1, none⟩ = some (.slice A0_1 l0_1.length c0_1) := (blk_cell BK753.out 1).trans rfl; have hcz11_2 : w10.cell? ⟨gb753, 2, none⟩ = some (.int .i64 a0_2) := (blk_cell BK753.out 2).trans rfl; have hcz11_3 : w10.cell? ⟨gb753, 3, none⟩ = some (.slice A0_3 l0_3.length c0_3) := (blk_cell BK753.out 3).trans rfl; have hcz11_4 : w10.cell? ⟨gb753, 4, none⟩ = some (.slice A0_4 l0_4.length c0_4) := (blk_cell BK753.out 4).trans rfl; have hcz11_5 : w10.cell? ⟨gb753, 5, none⟩ = some (.slice A0_5 l0_5.length c0_5) := (blk_cell BK753.out 5).trans rfl; have hfz11_0 := blk_frozen BK753.out 0; have hfz11_1 := blk_frozen BK753.out 1; have hfz11_2 := blk_frozen BK753.out 2; have hfz11_3 := blk_frozen BK753.out 3; have hfz11_4 := blk_frozen BK753.out 4; have hfz11_5 := blk_frozen BK753.out 5) | ((with_reducible refine gate_callee (f := 116) rfl ?_); refine goesL_ (some 20) rfl rfl Try.func116 (by kernel_rfl) rfl #[.agg #[.string a0_0, .slice A0_1 l0_1.length c0_1, .int .i64 a0_2, .slice A0_3 l0_3.length c0_3, .slice A0_4 l0_4.length c0_4, .slice A0_5 l0_5.length c0_5]] rfl (by (try simp only [List.map_toArray, List.map_cons, List.map_nil]); first | done | rfl | (simp only [List.length_drop, List.length_take]; rfl)) ?_; (with_reducible refine (pleatref03_symbols.calls k a0_0 _ _ l0_1 a0_2 _ _ l0_3 _ _ l0_4 _ _ l0_5 t756 t757 _ ?side1 ?side2 ?side3 ?side4 ?side5 ?side6 ?side7 ?side8 A4.out).mono ?_); (case side1 => repeat (first | exact (Kd.C_below HR0_1.out HB.out) | (with_reducible refine Kd.C_alloc ?_ _) | (with_reducible refine Kd.C_drewN ?_ _) | (with_reducible refine Kd.C_drew ?_))); (case side2 => exact HC0_1.out); (case side3 => repeat (first | exact (Kd.C_below HR0_3.out HB.out) | (with_reducible refine Kd.C_alloc ?_ _) | (with_reducible refine Kd.C_drewN ?_ _) | (with_reducible refine Kd.C_drew ?_))); (case side4 => exact HC0_3.out); (case side5 => repeat (first | exact (Kd.C_below HR0_4.out HB.out) | (with_reducible refine Kd.C_alloc ?_ _) | (with_reducible refine Kd.C_drewN ?_ _) | (with_reducible refine Kd.C_drew ?_))); (case side6 => exact HC0_4.out); (case side7 => repeat (first | exact (Kd.C_below HR0_5.out HB.out) | (with_reducible refine Kd.C_alloc ?_ _) | (with_reducible refine Kd.C_drewN ?_ _) | (with_reducible refine Kd.C_drew ?_))); (case side8 => exact HC0_5.out); rintro e w12 ⟨rfl, hb⟩; refine ⟨_, rfl, ?_⟩; have n0_ := Aside0.mk (blk_below (g := gb753) (o := .cells #[.string a0_0, .slice A0_1 l0_1.length c0_1, .int .i64 a0_2, .slice A0_3 l0_3.length c0_3, .slice A0_4 l0_4.length c0_4, .slice A0_5 l0_5.length c0_5] 88 (0, 0)) (by (with_reducible repeat (first | refine blk_drewN ?_ _ | refine blk_drew ?_ | refine blk_alloc ?_ _)); exact BK753.out) hb); have n1_ := Aside0.mk (below_step (by repeat (first | (with_reducible first | exact HB.out | apply below_alloc | apply pw_below_drewN | apply below_drew1 | refine below_set ?_ GE753.out) | exact HB.out)) hb); clear BK753; clear HB; have BK753 := n0_; have HB := n1_; clear n0_ n1_; (try clear hb); (try clear hb2); (try clear hk); (try clear hi); have hcz13_0 : w12.cell? ⟨gb753, 0, none⟩ = some (.string a0_0) := (blk_cell BK753.out 0).trans rfl; have hcz13_1 : w12.cell? ⟨gb753, 1, none⟩ = some (.slice A0_1 l0_1.length c0_1) := (blk_cell BK753.out 1).trans rfl; have hcz13_2 : w12.cell? ⟨gb753, 2, none⟩ = some (.int .i64 a0_2) := (blk_cell BK753.out 2).trans rfl; have hcz13_3 : w12.cell? ⟨gb753, 3, none⟩ = some (.slice A0_3 l0_3.length c0_3) := (blk_cell BK753.out 3).trans rfl; have hcz13_4 : w12.cell? ⟨gb753, 4, none⟩ = some (.slice A0_4 l0_4.length c0_4) := (blk_cell BK753.out 4).trans rfl; have hcz13_5 : w12.cell? ⟨gb753, 5, none⟩ = some (.slice A0_5 l0_5.length c0_5) := (blk_cell BK753.out 5).trans rfl; have hfz13_0 := blk_frozen BK753.out 0; have hfz13_1 := blk_frozen BK753.out 1; have hfz13_2 := blk_frozen BK753.out 2; have hfz13_3 := blk_frozen BK753.out 3; have hfz13_4 := blk_frozen BK753.out 4; have hfz13_5 := blk_frozen BK753.out 5) | ((with_reducible refine gate_callee (f := 117) rfl ?_); refine goesL_ (some 29) rfl rfl Try.func117 (by kernel_rfl) rfl #[.agg #[.string a0_0, .slice A0_1 l0_1.length c0_1, .int .i64 a0_2, .slice A0_3 l0_3.length c0_3, .slice A0_4 l0_4.length c0_4, .slice A0_5 l0_5.length c0_5]] rfl (by (try simp only [List.map_toArray, List.map_cons, List.map_nil]); first | done | rfl | (simp only [List.length_drop, List.length_take]; rfl)) ?_; (with_reducible refine (pleatref03_relocs.calls k a0_0 _ _ l0_1 a0_2 _ _ l0_3 _ _ l0_4 _ _ l0_5 t758 t759 _ ?side1 ?side2 ?side3 ?side4 ?side5 ?side6 ?side7 ?side8 A6.out).mono ?_); (case side1 => repeat (first | exact (Kd.C_below HR0_1.out HB.out) | (with_reducible refine Kd.C_alloc ?_ _) | (with_reducible refine Kd.C_drewN ?_ _) | (with_reducible refine Kd.C_drew ?_))); (case side2 => exact HC0_1.out); (case side3 => repeat (first | exact (Kd.C_below HR0_3.out HB.out) | (with_reducible refine Kd.C_alloc ?_ _) | (with_reducible refine Kd.C_drewN ?_ _) | (with_reducible refine Kd.C_drew ?_))); (case side4 => exact HC0_3.out); (case side5 => repeat (first | exact (Kd.C_below HR0_4.out HB.out) | (with_reducible refine Kd.C_alloc ?_ _) | (with_reducible refine Kd.C_drewN ?_ _) | (with_reducible refine Kd.C_drew ?_))); (case side6 => exact HC0_4.out); (case side7 => repeat (first | exact (Kd.C_below HR0_5.out HB.out) | (with_reducible refine Kd.C_alloc ?_ _) | (with_reducible refine Kd.C_drewN ?_ _) | (with_reducible refine Kd.C_drew ?_))); (case side8 => exact HC0_5.out); rintro e w14 ⟨rfl, hb⟩; refine ⟨_, rfl, ?_⟩; have n0_ := Aside0.mk (blk_below (g := gb753) (o := .cells #[.string a0_0, .slice A0_1 l0_1.length c0_1, .int .i64 a0_2, .slice A0_3 l0_3.length c0_3, .slice A0_4 l0_4.length c0_4, .slice A0_5 l0_5.length c0_5] 88 (0, 0)) (by (with_reducible repeat (first | refine blk_drewN ?_ _ | refine blk_drew ?_ | refine blk_alloc ?_ _)); exact BK753.out) hb); have n1_ := Aside0.mk (below_step (by repeat (first | (with_reducible first | exact HB.out | apply below_alloc | apply pw_below_drewN | apply below_drew1 | refine below_set ?_ GE753.out) | exact HB.out)) hb); clear BK753; clear HB; have BK753 := n0_; have HB := n1_; clear n0_ n1_; (try clear hb); (try clear hb2); (try clear hk); (try clear hi)))
        go_loopg [6] k (fun kq v6 w' => ∃ (x6_1 : Int), v6 = .int .i64 x6_1 ∧ Aside0 (pleatref03_Check.l0 kq x6_1 a0_0 l0_1 a0_2 l0_3 l0_4 l0_5 = some (r1, r2)) ∧ Aside0 (kq ≤ k) ∧ Aside0 (w'.heap[gb753]? = some (.cells #[.string a0_0, (.slice A0_1 l0_1.length c0_1), .int .i64 a0_2, (.slice A0_3 l0_3.length c0_3), (.slice A0_4 l0_4.length c0_4), (.slice A0_5 l0_5.length c0_5)] 88 (0, 0))) ∧ Aside0 (Below w.heap.size w w'))
        case atStart => exact ⟨(0), (by first | rfl | (simp; done) | (simp [*]; done)), H', ⟨Nat.le_refl _⟩, ⟨by (with_reducible repeat (first | refine blk_drewN ?_ _ | refine blk_drew ?_ | refine blk_alloc ?_ _)); exact BK753.out⟩, ⟨by repeat (first | (with_reducible first | exact HB.out | apply below_alloc | apply pw_below_drewN | apply below_drew1 | refine below_set ?_ GE753.out) | exact HB.out)⟩⟩
        case round =>
          clear H'
          try clear c1
          try clear p2
          try clear c3
          try clear c3b0
          try clear c3b1
          try clear c5
          try clear c5b0
          try clear c5b1
          try clear c7
          try clear c7b0
          try clear c7b1
          try clear c11
          try clear hcz11_0
          try clear hcz11_1
          try clear hcz11_2
          try clear hcz11_3
          try clear hcz11_4
          try clear hcz11_5
          try clear hcz13_0
          try clear hcz13_1
          try clear hcz13_2
          try clear hcz13_3
          try clear hcz13_4
          try clear hcz13_5
          try clear hcz9_0
          try clear hcz9_1
          try clear hcz9_2
          try clear hcz9_3
          try clear hcz9_4
          try clear hcz9_5
          try clear hfz11_0
          try clear hfz11_1
          try clear hfz11_2
          try clear hfz11_3
          try clear hfz11_4
          try clear hfz11_5
          try clear hfz13_0
          try clear hfz13_1
          try clear hfz13_2
          try clear hfz13_3
          try clear hfz13_4
          try clear hfz13_5
          try clear hfz9_0
          try clear hfz9_1
          try clear hfz9_2
          try clear hfz9_3
          try clear hfz9_4
          try clear hfz9_5
          obtain ⟨x6_1, rfl, HA, HK1, BK753, HB⟩ := hrel
          cases gk with
          | zero => exact absurd HA.out (by simp [pleatref03_Check.l0])
          | succ k1 =>
            have H := HA.out
            clear HA
            simp only [pleatref03_Check.l0] at H
            by_cases c15 : x6_1 < (l0_1.length : Int)
            · rw [if_pos c15] at H
              have c15b0 : decide (x6_1 < (l0_1.length : Int)) = true := decide_eq_true c15
              clear c15
              by_cases c16 : 0 ≤ x6_1
              · rw [if_pos c16] at H
                have c16b0 : decide (0 ≤ x6_1) = true := decide_eq_true c16
                clear c16
                replace H := Option.bind_eq_some_iff.mp H
                obtain ⟨⟨t761, t762⟩, A170, H⟩ := H
                replace H : (if t762 = true then (if t761 > (l0_1.length : Int) then (some (22, wrap64 ((-1) - x6_1))) else (pleatref03_Check.l0 k1 (wrap64 (x6_1 + 1)) a0_0 l0_1 a0_2 l0_3 l0_4 l0_5)) else (pleatref03_Check.l0 k1 (wrap64 (x6_1 + 1)) a0_0 l0_1 a0_2 l0_3 l0_4 l0_5)) = some (r1, r2) := H
                have A17 := Aside0.mk A170
                clear A170
                by_cases c18 : t762 = true
                · subst c18
                  have H1 : (if t761 > (l0_1.length : Int) then (some (22, wrap64 ((-1) - x6_1))) else (pleatref03_Check.l0 k1 (wrap64 (x6_1 + 1)) a0_0 l0_1 a0_2 l0_3 l0_4 l0_5)) = some (r1, r2) := by rw [if_pos rfl] at H; exact H
                  clear H
                  have H := H1
                  clear H1
                  by_cases c19 : t761 > (l0_1.length : Int)
                  · rw [if_pos c19] at H
                    have c19b0 : decide ((l0_1.length : Int) < t761) = true := decide_eq_true c19
                    clear c19
                    simp only [Option.some.injEq, Prod.mk.injEq] at H
                    obtain ⟨rfl, rfl⟩ := H
                    have hcz20_0 : wr.cell? ⟨gb753, 0, none⟩ = some (.string a0_0) := (blk_cell BK753.out 0).trans rfl
                    have hcz20_1 : wr.cell? ⟨gb753, 1, none⟩ = some (.slice A0_1 l0_1.length c0_1) := (blk_cell BK753.out 1).trans rfl
                    have hcz20_2 : wr.cell? ⟨gb753, 2, none⟩ = some (.int .i64 a0_2) := (blk_cell BK753.out 2).trans rfl
                    have hcz20_3 : wr.cell? ⟨gb753, 3, none⟩ = some (.slice A0_3 l0_3.length c0_3) := (blk_cell BK753.out 3).trans rfl
                    have hcz20_4 : wr.cell? ⟨gb753, 4, none⟩ = some (.slice A0_4 l0_4.length c0_4) := (blk_cell BK753.out 4).trans rfl
                    have hcz20_5 : wr.cell? ⟨gb753, 5, none⟩ = some (.slice A0_5 l0_5.length c0_5) := (blk_cell BK753.out 5).trans rfl
                    have hfz20_0 := blk_frozen BK753.out 0
                    have hfz20_1 := blk_frozen BK753.out 1
                    have hfz20_2 := blk_frozen BK753.out 2
                    have hfz20_3 := blk_frozen BK753.out 3
                    have hfz20_4 := blk_frozen BK753.out 4
                    have hfz20_5 := blk_frozen BK753.out 5
                    have p760 : 0 ≤ (x6_1 : Int) := of_decide_eq_true (by first | (with_reducible assumption) | assumption)
                    have q760 : x6_1 < (l0_1.length : Int) := of_decide_eq_true (by first | (with_reducible assumption) | assumption)
                    obtain ⟨ad760, e760, hx760_0⟩ := Kd.at_int HR0_1.out x6_1 p760 q760
                    cases e760
                    replace hx760_0 := (HB.out.cell (World.block_lt_of_cell? w _ hx760_0)).trans hx760_0
                    replace p760 := eq_true p760
                    replace q760 := eq_true q760
                    go_wp2_with (first | ((with_reducible refine gate_callee (f := 26) rfl ?_); refine goesL_ (some 49) rfl rfl Try.func26 (by kernel_rfl) rfl #[.int .u32 (rd l0_1 x6_1)] rfl (by (try simp only [List.map_toArray, List.map_cons, List.map_nil]); first | done | rfl | (simp only [List.length_drop, List.length_take]; rfl)) ?_; (with_reducible refine (pleatref02_Target.calls k1 (rd l0_1 x6_1) t761 true _ A17.out).mono ?_); rintro e w21 ⟨rfl, hb⟩; refine ⟨_, rfl, ?_⟩; have n0_ := Aside0.mk (blk_below (g := gb753) (o := .cells #[.string a0_0, .slice (some ad760) l0_1.length c0_1, .int .i64 a0_2, .slice A0_3 l0_3.length c0_3, .slice A0_4 l0_4.length c0_4, .slice A0_5 l0_5.length c0_5] 88 (0, 0)) (by (with_reducible repeat (first | refine blk_drewN ?_ _ | refine blk_drew ?_ | refine blk_alloc ?_ _)); exact BK753.out) hb); have n1_ := Aside0.mk (below_step (by repeat (first | (with_reducible first | exact HB.out | apply below_alloc | apply pw_below_drewN | apply below_drew1 | refine below_set ?_ GE753.out) | exact HB.out)) hb); clear BK753; clear HB; have BK753 := n0_; have HB := n1_; clear n0_ n1_; (try clear hb); (try clear hb2); (try clear hk); (try clear hi); have hcz22_0 : w21.cell? ⟨gb753, 0, none⟩ = some (.string a0_0) := (blk_cell BK753.out 0).trans rfl; have hcz22_1 : w21.cell? ⟨gb753, 1, none⟩ = some (.slice (some ad760) l0_1.length c0_1) := (blk_cell BK753.out 1).trans rfl; have hcz22_2 : w21.cell? ⟨gb753, 2, none⟩ = some (.int .i64 a0_2) := (blk_cell BK753.out 2).trans rfl; have hcz22_3 : w21.cell? ⟨gb753, 3, none⟩ = some (.slice A0_3 l0_3.length c0_3) := (blk_cell BK753.out 3).trans rfl; have hcz22_4 : w21.cell? ⟨gb753, 4, none⟩ = some (.slice A0_4 l0_4.length c0_4) := (blk_cell BK753.out 4).trans rfl; have hcz22_5 : w21.cell? ⟨gb753, 5, none⟩ = some (.slice A0_5 l0_5.length c0_5) := (blk_cell BK753.out 5).trans rfl; have hfz22_0 := blk_frozen BK753.out 0; have hfz22_1 := blk_frozen BK753.out 1; have hfz22_2 := blk_frozen BK753.out 2; have hfz22_3 := blk_frozen BK753.out 3; have hfz22_4 := blk_frozen BK753.out 4; have hfz22_5 := blk_frozen BK753.out 5))
                    go_ret2
                    exact ⟨by first | rfl | (simp [errW_none, errW_some] <;> rfl) | (simp [*, errW_none, errW_some] <;> rfl), by repeat (first | (with_reducible first | exact HB.out | apply below_alloc | apply pw_below_drewN | apply below_drew1 | refine below_set ?_ GE753.out) | exact HB.out)⟩
                  · rw [if_neg c19] at H
                    have c19b0 : decide ((l0_1.length : Int) < t761) = false := decide_eq_false c19
                    clear c19
                    have H' := Aside0.mk H
                    clear H
                    have hcz23_0 : wr.cell? ⟨gb753, 0, none⟩ = some (.string a0_0) := (blk_cell BK753.out 0).trans rfl
                    have hcz23_1 : wr.cell? ⟨gb753, 1, none⟩ = some (.slice A0_1 l0_1.length c0_1) := (blk_cell BK753.out 1).trans rfl
                    have hcz23_2 : wr.cell? ⟨gb753, 2, none⟩ = some (.int .i64 a0_2) := (blk_cell BK753.out 2).trans rfl
                    have hcz23_3 : wr.cell? ⟨gb753, 3, none⟩ = some (.slice A0_3 l0_3.length c0_3) := (blk_cell BK753.out 3).trans rfl
                    have hcz23_4 : wr.cell? ⟨gb753, 4, none⟩ = some (.slice A0_4 l0_4.length c0_4) := (blk_cell BK753.out 4).trans rfl
                    have hcz23_5 : wr.cell? ⟨gb753, 5, none⟩ = some (.slice A0_5 l0_5.length c0_5) := (blk_cell BK753.out 5).trans rfl
                    have hfz23_0 := blk_frozen BK753.out 0
                    have hfz23_1 := blk_frozen BK753.out 1
                    have hfz23_2 := blk_frozen BK753.out 2
                    have hfz23_3 := blk_frozen BK753.out 3
                    have hfz23_4 := blk_frozen BK753.out 4
                    have hfz23_5 := blk_frozen BK753.out 5
                    have p760 : 0 ≤ (x6_1 : Int) := of_decide_eq_true (by first | (with_reducible assumption) | assumption)
                    have q760 : x6_1 < (l0_1.length : Int) := of_decide_eq_true (by first | (with_reducible assumption) | assumption)
                    obtain ⟨ad760, e760, hx760_0⟩ := Kd.at_int HR0_1.out x6_1 p760 q760
                    cases e760
                    replace hx760_0 := (HB.out.cell (World.block_lt_of_cell? w _ hx760_0)).trans hx760_0
                    replace p760 := eq_true p760
                    replace q760 := eq_true q760
                    go_wp2_with (first | ((with_reducible refine gate_callee (f := 26) rfl ?_); refine goesL_ (some 49) rfl rfl Try.func26 (by kernel_rfl) rfl #[.int .u32 (rd l0_1 x6_1)] rfl (by (try simp only [List.map_toArray, List.map_cons, List.map_nil]); first | done | rfl | (simp only [List.length_drop, List.length_take]; rfl)) ?_; (with_reducible refine (pleatref02_Target.calls k1 (rd l0_1 x6_1) t761 true _ A17.out).mono ?_); rintro e w24 ⟨rfl, hb⟩; refine ⟨_, rfl, ?_⟩; have n0_ := Aside0.mk (blk_below (g := gb753) (o := .cells #[.string a0_0, .slice (some ad760) l0_1.length c0_1, .int .i64 a0_2, .slice A0_3 l0_3.length c0_3, .slice A0_4 l0_4.length c0_4, .slice A0_5 l0_5.length c0_5] 88 (0, 0)) (by (with_reducible repeat (first | refine blk_drewN ?_ _ | refine blk_drew ?_ | refine blk_alloc ?_ _)); exact BK753.out) hb); have n1_ := Aside0.mk (below_step (by repeat (first | (with_reducible first | exact HB.out | apply below_alloc | apply pw_below_drewN | apply below_drew1 | refine below_set ?_ GE753.out) | exact HB.out)) hb); clear BK753; clear HB; have BK753 := n0_; have HB := n1_; clear n0_ n1_; (try clear hb); (try clear hb2); (try clear hk); (try clear hi); have hcz25_0 : w24.cell? ⟨gb753, 0, none⟩ = some (.string a0_0) := (blk_cell BK753.out 0).trans rfl; have hcz25_1 : w24.cell? ⟨gb753, 1, none⟩ = some (.slice (some ad760) l0_1.length c0_1) := (blk_cell BK753.out 1).trans rfl; have hcz25_2 : w24.cell? ⟨gb753, 2, none⟩ = some (.int .i64 a0_2) := (blk_cell BK753.out 2).trans rfl; have hcz25_3 : w24.cell? ⟨gb753, 3, none⟩ = some (.slice A0_3 l0_3.length c0_3) := (blk_cell BK753.out 3).trans rfl; have hcz25_4 : w24.cell? ⟨gb753, 4, none⟩ = some (.slice A0_4 l0_4.length c0_4) := (blk_cell BK753.out 4).trans rfl; have hcz25_5 : w24.cell? ⟨gb753, 5, none⟩ = some (.slice A0_5 l0_5.length c0_5) := (blk_cell BK753.out 5).trans rfl; have hfz25_0 := blk_frozen BK753.out 0; have hfz25_1 := blk_frozen BK753.out 1; have hfz25_2 := blk_frozen BK753.out 2; have hfz25_3 := blk_frozen BK753.out 3; have hfz25_4 := blk_frozen BK753.out 4; have hfz25_5 := blk_frozen BK753.out 5))
                    go_roundg k1
                    case measure => have := HK1.out; omega
                    case rel => exact ⟨(wrap64 (x6_1 + 1)), (by first | rfl | (simp; done) | (simp [*]; done)), H', ⟨by have := HK1.out; omega⟩, ⟨by (with_reducible repeat (first | refine blk_drewN ?_ _ | refine blk_drew ?_ | refine blk_alloc ?_ _)); exact BK753.out⟩, ⟨by repeat (first | (with_reducible first | exact HB.out | apply below_alloc | apply pw_below_drewN | apply below_drew1 | refine below_set ?_ GE753.out) | exact HB.out)⟩⟩
                · replace c18 := Bool.eq_false_iff.mpr c18
                  subst c18
                  have H1 : (pleatref03_Check.l0 k1 (wrap64 (x6_1 + 1)) a0_0 l0_1 a0_2 l0_3 l0_4 l0_5) = some (r1, r2) := by rw [if_neg (show ¬ (false = true) by decide)] at H; exact H
                  clear H
                  have H := H1
                  clear H1
                  have H' := Aside0.mk H
                  clear H
                  have hcz26_0 : wr.cell? ⟨gb753, 0, none⟩ = some (.string a0_0) := (blk_cell BK753.out 0).trans rfl
                  have hcz26_1 : wr.cell? ⟨gb753, 1, none⟩ = some (.slice A0_1 l0_1.length c0_1) := (blk_cell BK753.out 1).trans rfl
                  have hcz26_2 : wr.cell? ⟨gb753, 2, none⟩ = some (.int .i64 a0_2) := (blk_cell BK753.out 2).trans rfl
                  have hcz26_3 : wr.cell? ⟨gb753, 3, none⟩ = some (.slice A0_3 l0_3.length c0_3) := (blk_cell BK753.out 3).trans rfl
                  have hcz26_4 : wr.cell? ⟨gb753, 4, none⟩ = some (.slice A0_4 l0_4.length c0_4) := (blk_cell BK753.out 4).trans rfl
                  have hcz26_5 : wr.cell? ⟨gb753, 5, none⟩ = some (.slice A0_5 l0_5.length c0_5) := (blk_cell BK753.out 5).trans rfl
                  have hfz26_0 := blk_frozen BK753.out 0
                  have hfz26_1 := blk_frozen BK753.out 1
                  have hfz26_2 := blk_frozen BK753.out 2
                  have hfz26_3 := blk_frozen BK753.out 3
                  have hfz26_4 := blk_frozen BK753.out 4
                  have hfz26_5 := blk_frozen BK753.out 5
                  have p760 : 0 ≤ (x6_1 : Int) := of_decide_eq_true (by first | (with_reducible assumption) | assumption)
                  have q760 : x6_1 < (l0_1.length : Int) := of_decide_eq_true (by first | (with_reducible assumption) | assumption)
                  obtain ⟨ad760, e760, hx760_0⟩ := Kd.at_int HR0_1.out x6_1 p760 q760
                  cases e760
                  replace hx760_0 := (HB.out.cell (World.block_lt_of_cell? w _ hx760_0)).trans hx760_0
                  replace p760 := eq_true p760
                  replace q760 := eq_true q760
                  go_wp2_with (first | ((with_reducible refine gate_callee (f := 26) rfl ?_); refine goesL_ (some 49) rfl rfl Try.func26 (by kernel_rfl) rfl #[.int .u32 (rd l0_1 x6_1)] rfl (by (try simp only [List.map_toArray, List.map_cons, List.map_nil]); first | done | rfl | (simp only [List.length_drop, List.length_take]; rfl)) ?_; (with_reducible refine (pleatref02_Target.calls k1 (rd l0_1 x6_1) t761 false _ A17.out).mono ?_); rintro e w27 ⟨rfl, hb⟩; refine ⟨_, rfl, ?_⟩; have n0_ := Aside0.mk (blk_below (g := gb753) (o := .cells #[.string a0_0, .slice (some ad760) l0_1.length c0_1, .int .i64 a0_2, .slice A0_3 l0_3.length c0_3, .slice A0_4 l0_4.length c0_4, .slice A0_5 l0_5.length c0_5] 88 (0, 0)) (by (with_reducible repeat (first | refine blk_drewN ?_ _ | refine blk_drew ?_ | refine blk_alloc ?_ _)); exact BK753.out) hb); have n1_ := Aside0.mk (below_step (by repeat (first | (with_reducible first | exact HB.out | apply below_alloc | apply pw_below_drewN | apply below_drew1 | refine below_set ?_ GE753.out) | exact HB.out)) hb); clear BK753; clear HB; have BK753 := n0_; have HB := n1_; clear n0_ n1_; (try clear hb); (try clear hb2); (try clear hk); (try clear hi)))
                  go_roundg k1
                  case measure => have := HK1.out; omega
                  case rel => exact ⟨(wrap64 (x6_1 + 1)), (by first | rfl | (simp; done) | (simp [*]; done)), H', ⟨by have := HK1.out; omega⟩, ⟨by (with_reducible repeat (first | refine blk_drewN ?_ _ | refine blk_drew ?_ | refine blk_alloc ?_ _)); exact BK753.out⟩, ⟨by repeat (first | (with_reducible first | exact HB.out | apply below_alloc | apply pw_below_drewN | apply below_drew1 | refine below_set ?_ GE753.out) | exact HB.out)⟩⟩
              · rw [if_neg c16] at H
                exact absurd H (by simp)
            · rw [if_neg c15] at H
              have c15b0 : decide (x6_1 < (l0_1.length : Int)) = false := decide_eq_false c15
              clear c15
              simp only [Option.some.injEq, Prod.mk.injEq] at H
              obtain ⟨rfl, rfl⟩ := H
              have hcz28_0 : wr.cell? ⟨gb753, 0, none⟩ = some (.string a0_0) := (blk_cell BK753.out 0).trans rfl
              have hcz28_1 : wr.cell? ⟨gb753, 1, none⟩ = some (.slice A0_1 l0_1.length c0_1) := (blk_cell BK753.out 1).trans rfl
              have hcz28_2 : wr.cell? ⟨gb753, 2, none⟩ = some (.int .i64 a0_2) := (blk_cell BK753.out 2).trans rfl
              have hcz28_3 : wr.cell? ⟨gb753, 3, none⟩ = some (.slice A0_3 l0_3.length c0_3) := (blk_cell BK753.out 3).trans rfl
              have hcz28_4 : wr.cell? ⟨gb753, 4, none⟩ = some (.slice A0_4 l0_4.length c0_4) := (blk_cell BK753.out 4).trans rfl
              have hcz28_5 : wr.cell? ⟨gb753, 5, none⟩ = some (.slice A0_5 l0_5.length c0_5) := (blk_cell BK753.out 5).trans rfl
              have hfz28_0 := blk_frozen BK753.out 0
              have hfz28_1 := blk_frozen BK753.out 1
              have hfz28_2 := blk_frozen BK753.out 2
              have hfz28_3 := blk_frozen BK753.out 3
              have hfz28_4 := blk_frozen BK753.out 4
              have hfz28_5 := blk_frozen BK753.out 5
              go_wp2
              go_ret2
              exact ⟨by first | rfl | (simp [errW_none, errW_some] <;> rfl) | (simp [*, errW_none, errW_some] <;> rfl), by repeat (first | (with_reducible first | exact HB.out | apply below_alloc | apply pw_below_drewN | apply below_drew1 | refine below_set ?_ GE753.out) | exact HB.out)⟩
      · rw [if_neg c7] at H
        have c7b0 : (t758 == 0) = false := beq_eq_false_iff_ne.mpr c7
        have c7b1 : (t758 != 0) = true := bne_iff_ne.mpr c7
        simp only [Option.some.injEq, Prod.mk.injEq] at H
        obtain ⟨rfl, rfl⟩ := H
        go_enter Try.func76, Try.ntmps76
        go_wp2_with (first | ((with_reducible refine gate_dst (N := 1) rfl ?_); (try (refine gate_guard (by rfl) ?_; dsimp only)); refine box_event ?hg (N := 1) ?hd (cs := #[.string a0_0, .slice A0_1 l0_1.length c0_1, .int .i64 a0_2, .slice A0_3 l0_3.length c0_3, .slice A0_4 l0_4.length c0_4, .slice A0_5 l0_5.length c0_5]) (t := 88) ?hr ?_; (case hd => rfl); (case hg => rfl); (case hr => first | (go_simp; done) | (go_simp; rfl)); intro gb753 hg w29 hbox hb; have n0_ := Aside0.mk (below_step (by repeat (first | (with_reducible first | exact HB.out | apply below_alloc | apply pw_below_drewN | apply below_drew1) | exact HB.out)) hb); have n1_ := Aside0.mk (hbox); have n2_ := Aside0.mk ((by rw [hg]; exact (below_size (by repeat (first | (with_reducible first | exact HB.out | apply below_alloc | apply pw_below_drewN | apply below_drew1) | exact HB.out))) : w.heap.size ≤ gb753)); have n3_ := Aside0.mk ((by rw [hg]; exact (below_size (by repeat (first | (with_reducible first | exact HB.out | apply below_alloc | apply pw_below_drewN | apply below_drew1) | exact HB.out))) : w.heap.size ≤ gb753)); clear HB; have HB := n0_; have BK753 := n1_; have GW753 := n2_; have GE753 := n3_; clear n0_ n1_ n2_ n3_; clear hb hbox hg; have hcz30_0 : w29.cell? ⟨gb753, 0, none⟩ = some (.string a0_0) := (blk_cell BK753.out 0).trans rfl; have hcz30_1 : w29.cell? ⟨gb753, 1, none⟩ = some (.slice A0_1 l0_1.length c0_1) := (blk_cell BK753.out 1).trans rfl; have hcz30_2 : w29.cell? ⟨gb753, 2, none⟩ = some (.int .i64 a0_2) := (blk_cell BK753.out 2).trans rfl; have hcz30_3 : w29.cell? ⟨gb753, 3, none⟩ = some (.slice A0_3 l0_3.length c0_3) := (blk_cell BK753.out 3).trans rfl; have hcz30_4 : w29.cell? ⟨gb753, 4, none⟩ = some (.slice A0_4 l0_4.length c0_4) := (blk_cell BK753.out 4).trans rfl; have hcz30_5 : w29.cell? ⟨gb753, 5, none⟩ = some (.slice A0_5 l0_5.length c0_5) := (blk_cell BK753.out 5).trans rfl; have hfz30_0 := blk_frozen BK753.out 0; have hfz30_1 := blk_frozen BK753.out 1; have hfz30_2 := blk_frozen BK753.out 2; have hfz30_3 := blk_frozen BK753.out 3; have hfz30_4 := blk_frozen BK753.out 4; have hfz30_5 := blk_frozen BK753.out 5) | ((with_reducible refine gate_callee (f := 115) rfl ?_); refine goesL_ (some 11) rfl rfl Try.func115 (by kernel_rfl) rfl #[.agg #[.string a0_0, .slice A0_1 l0_1.length c0_1, .int .i64 a0_2, .slice A0_3 l0_3.length c0_3, .slice A0_4 l0_4.length c0_4, .slice A0_5 l0_5.length c0_5]] rfl (by (try simp only [List.map_toArray, List.map_cons, List.map_nil]); first | done | rfl | (simp only [List.length_drop, List.length_take]; rfl)) ?_; (with_reducible refine (pleatref03_size.calls k a0_0 _ _ l0_1 a0_2 _ _ l0_3 _ _ l0_4 _ _ l0_5 t754 t755 _ ?side1 ?side2 ?side3 ?side4 ?side5 ?side6 ?side7 ?side8 A2.out).mono ?_); (case side1 => repeat (first | exact (Kd.C_below HR0_1.out HB.out) | (with_reducible refine Kd.C_alloc ?_ _) | (with_reducible refine Kd.C_drewN ?_ _) | (with_reducible refine Kd.C_drew ?_))); (case side2 => exact HC0_1.out); (case side3 => repeat (first | exact (Kd.C_below HR0_3.out HB.out) | (with_reducible refine Kd.C_alloc ?_ _) | (with_reducible refine Kd.C_drewN ?_ _) | (with_reducible refine Kd.C_drew ?_))); (case side4 => exact HC0_3.out); (case side5 => repeat (first | exact (Kd.C_below HR0_4.out HB.out) | (with_reducible refine Kd.C_alloc ?_ _) | (with_reducible refine Kd.C_drewN ?_ _) | (with_reducible refine Kd.C_drew ?_))); (case side6 => exact HC0_4.out); (case side7 => repeat (first | exact (Kd.C_below HR0_5.out HB.out) | (with_reducible refine Kd.C_alloc ?_ _) | (with_reducible refine Kd.C_drewN ?_ _) | (with_reducible refine Kd.C_drew ?_))); (case side8 => exact HC0_5.out); rintro e w31 ⟨rfl, hb⟩; refine ⟨_, rfl, ?_⟩; have n0_ := Aside0.mk (blk_below (g := gb753) (o := .cells #[.string a0_0, .slice A0_1 l0_1.length c0_1, .int .i64 a0_2, .slice A0_3 l0_3.length c0_3, .slice A0_4 l0_4.length c0_4, .slice A0_5 l0_5.length c0_5] 88 (0, 0)) (by (with_reducible repeat (first | refine blk_drewN ?_ _ | refine blk_drew ?_ | refine blk_alloc ?_ _)); exact BK753.out) hb); have n1_ := Aside0.mk (below_step (by repeat (first | (with_reducible first | exact HB.out | apply below_alloc | apply pw_below_drewN | apply below_drew1 | refine below_set ?_ GE753.out) | exact HB.out)) hb); clear BK753; clear HB; have BK753 := n0_; have HB := n1_; clear n0_ n1_; (try clear hb); (try clear hb2); (try clear hk); (try clear hi); have hcz32_0 : w31.cell? ⟨gb753, 0, none⟩ = some (.string a0_0) := (blk_cell BK753.out 0).trans rfl; have hcz32_1 : w31.cell? ⟨gb753, 1, none⟩ = some (.slice A0_1 l0_1.length c0_1) := (blk_cell BK753.out 1).trans rfl; have hcz32_2 : w31.cell? ⟨gb753, 2, none⟩ = some (.int .i64 a0_2) := (blk_cell BK753.out 2).trans rfl; have hcz32_3 : w31.cell? ⟨gb753, 3, none⟩ = some (.slice A0_3 l0_3.length c0_3) := (blk_cell BK753.out 3).trans rfl; have hcz32_4 : w31.cell? ⟨gb753, 4, none⟩ = some (.slice A0_4 l0_4.length c0_4) := (blk_cell BK753.out 4).trans rfl; have hcz32_5 : w31.cell? ⟨gb753, 5, none⟩ = some (.slice A0_5 l0_5.length c0_5) := (blk_cell BK753.out 5).trans rfl; have hfz32_0 := blk_frozen BK753.out 0; have hfz32_1 := blk_frozen BK753.out 1; have hfz32_2 := blk_frozen BK753.out 2; have hfz32_3 := blk_frozen BK753.out 3; have hfz32_4 := blk_frozen BK753.out 4; have hfz32_5 := blk_frozen BK753.out 5) | ((with_reducible refine gate_callee (f := 116) rfl ?_); refine goesL_ (some 20) rfl rfl Try.func116 (by kernel_rfl) rfl #[.agg #[.string a0_0, .slice A0_1 l0_1.length c0_1, .int .i64 a0_2, .slice A0_3 l0_3.length c0_3, .slice A0_4 l0_4.length c0_4, .slice A0_5 l0_5.length c0_5]] rfl (by (try simp only [List.map_toArray, List.map_cons, List.map_nil]); first | done | rfl | (simp only [List.length_drop, List.length_take]; rfl)) ?_; (with_reducible refine (pleatref03_symbols.calls k a0_0 _ _ l0_1 a0_2 _ _ l0_3 _ _ l0_4 _ _ l0_5 t756 t757 _ ?side1 ?side2 ?side3 ?side4 ?side5 ?side6 ?side7 ?side8 A4.out).mono ?_); (case side1 => repeat (first | exact (Kd.C_below HR0_1.out HB.out) | (with_reducible refine Kd.C_alloc ?_ _) | (with_reducible refine Kd.C_drewN ?_ _) | (with_reducible refine Kd.C_drew ?_))); (case side2 => exact HC0_1.out); (case side3 => repeat (first | exact (Kd.C_below HR0_3.out HB.out) | (with_reducible refine Kd.C_alloc ?_ _) | (with_reducible refine Kd.C_drewN ?_ _) | (with_reducible refine Kd.C_drew ?_))); (case side4 => exact HC0_3.out); (case side5 => repeat (first | exact (Kd.C_below HR0_4.out HB.out) | (with_reducible refine Kd.C_alloc ?_ _) | (with_reducible refine Kd.C_drewN ?_ _) | (with_reducible refine Kd.C_drew ?_))); (case side6 => exact HC0_4.out); (case side7 => repeat (first | exact (Kd.C_below HR0_5.out HB.out) | (with_reducible refine Kd.C_alloc ?_ _) | (with_reducible refine Kd.C_drewN ?_ _) | (with_reducible refine Kd.C_drew ?_))); (case side8 => exact HC0_5.out); rintro e w33 ⟨rfl, hb⟩; refine ⟨_, rfl, ?_⟩; have n0_ := Aside0.mk (blk_below (g := gb753) (o := .cells #[.string a0_0, .slice A0_1 l0_1.length c0_1, .int .i64 a0_2, .slice A0_3 l0_3.length c0_3, .slice A0_4 l0_4.length c0_4, .slice A0_5 l0_5.length c0_5] 88 (0, 0)) (by (with_reducible repeat (first | refine blk_drewN ?_ _ | refine blk_drew ?_ | refine blk_alloc ?_ _)); exact BK753.out) hb); have n1_ := Aside0.mk (below_step (by repeat (first | (with_reducible first | exact HB.out | apply below_alloc | apply pw_below_drewN | apply below_drew1 | refine below_set ?_ GE753.out) | exact HB.out)) hb); clear BK753; clear HB; have BK753 := n0_; have HB := n1_; clear n0_ n1_; (try clear hb); (try clear hb2); (try clear hk); (try clear hi); have hcz34_0 : w33.cell? ⟨gb753, 0, none⟩ = some (.string a0_0) := (blk_cell BK753.out 0).trans rfl; have hcz34_1 : w33.cell? ⟨gb753, 1, none⟩ = some (.slice A0_1 l0_1.length c0_1) := (blk_cell BK753.out 1).trans rfl; have hcz34_2 : w33.cell? ⟨gb753, 2, none⟩ = some (.int .i64 a0_2) := (blk_cell BK753.out 2).trans rfl; have hcz34_3 : w33.cell? ⟨gb753, 3, none⟩ = some (.slice A0_3 l0_3.length c0_3) := (blk_cell BK753.out 3).trans rfl; have hcz34_4 : w33.cell? ⟨gb753, 4, none⟩ = some (.slice A0_4 l0_4.length c0_4) := (blk_cell BK753.out 4).trans rfl; have hcz34_5 : w33.cell? ⟨gb753, 5, none⟩ = some (.slice A0_5 l0_5.length c0_5) := (blk_cell BK753.out 5).trans rfl; have hfz34_0 := blk_frozen BK753.out 0; have hfz34_1 := blk_frozen BK753.out 1; have hfz34_2 := blk_frozen BK753.out 2; have hfz34_3 := blk_frozen BK753.out 3; have hfz34_4 := blk_frozen BK753.out 4; have hfz34_5 := blk_frozen BK753.out 5) | ((with_reducible refine gate_callee (f := 117) rfl ?_); refine goesL_ (some 29) rfl rfl Try.func117 (by kernel_rfl) rfl #[.agg #[.string a0_0, .slice A0_1 l0_1.length c0_1, .int .i64 a0_2, .slice A0_3 l0_3.length c0_3, .slice A0_4 l0_4.length c0_4, .slice A0_5 l0_5.length c0_5]] rfl (by (try simp only [List.map_toArray, List.map_cons, List.map_nil]); first | done | rfl | (simp only [List.length_drop, List.length_take]; rfl)) ?_; (with_reducible refine (pleatref03_relocs.calls k a0_0 _ _ l0_1 a0_2 _ _ l0_3 _ _ l0_4 _ _ l0_5 t758 t759 _ ?side1 ?side2 ?side3 ?side4 ?side5 ?side6 ?side7 ?side8 A6.out).mono ?_); (case side1 => repeat (first | exact (Kd.C_below HR0_1.out HB.out) | (with_reducible refine Kd.C_alloc ?_ _) | (with_reducible refine Kd.C_drewN ?_ _) | (with_reducible refine Kd.C_drew ?_))); (case side2 => exact HC0_1.out); (case side3 => repeat (first | exact (Kd.C_below HR0_3.out HB.out) | (with_reducible refine Kd.C_alloc ?_ _) | (with_reducible refine Kd.C_drewN ?_ _) | (with_reducible refine Kd.C_drew ?_))); (case side4 => exact HC0_3.out); (case side5 => repeat (first | exact (Kd.C_below HR0_4.out HB.out) | (with_reducible refine Kd.C_alloc ?_ _) | (with_reducible refine Kd.C_drewN ?_ _) | (with_reducible refine Kd.C_drew ?_))); (case side6 => exact HC0_4.out); (case side7 => repeat (first | exact (Kd.C_below HR0_5.out HB.out) | (with_reducible refine Kd.C_alloc ?_ _) | (with_reducible refine Kd.C_drewN ?_ _) | (with_reducible refine Kd.C_drew ?_))); (case side8 => exact HC0_5.out); rintro e w35 ⟨rfl, hb⟩; refine ⟨_, rfl, ?_⟩; have n0_ := Aside0.mk (blk_below (g := gb753) (o := .cells #[.string a0_0, .slice A0_1 l0_1.length c0_1, .int .i64 a0_2, .slice A0_3 l0_3.length c0_3, .slice A0_4 l0_4.length c0_4, .slice A0_5 l0_5.length c0_5] 88 (0, 0)) (by (with_reducible repeat (first | refine blk_drewN ?_ _ | refine blk_drew ?_ | refine blk_alloc ?_ _)); exact BK753.out) hb); have n1_ := Aside0.mk (below_step (by repeat (first | (with_reducible first | exact HB.out | apply below_alloc | apply pw_below_drewN | apply below_drew1 | refine below_set ?_ GE753.out) | exact HB.out)) hb); clear BK753; clear HB; have BK753 := n0_; have HB := n1_; clear n0_ n1_; (try clear hb); (try clear hb2); (try clear hk); (try clear hi)))
        go_ret2
        exact ⟨by first | rfl | (simp [errW_none, errW_some] <;> rfl) | (simp [*, errW_none, errW_some] <;> rfl), by repeat (first | (with_reducible first | exact HB.out | apply below_alloc | apply pw_below_drewN | apply below_drew1 | refine below_set ?_ GE753.out) | exact HB.out)⟩
    · rw [if_neg c5] at H
      have c5b0 : (t756 == 0) = false := beq_eq_false_iff_ne.mpr c5
      have c5b1 : (t756 != 0) = true := bne_iff_ne.mpr c5
      simp only [Option.some.injEq, Prod.mk.injEq] at H
      obtain ⟨rfl, rfl⟩ := H
      go_enter Try.func76, Try.ntmps76
      go_wp2_with (first | ((with_reducible refine gate_dst (N := 1) rfl ?_); (try (refine gate_guard (by rfl) ?_; dsimp only)); refine box_event ?hg (N := 1) ?hd (cs := #[.string a0_0, .slice A0_1 l0_1.length c0_1, .int .i64 a0_2, .slice A0_3 l0_3.length c0_3, .slice A0_4 l0_4.length c0_4, .slice A0_5 l0_5.length c0_5]) (t := 88) ?hr ?_; (case hd => rfl); (case hg => rfl); (case hr => first | (go_simp; done) | (go_simp; rfl)); intro gb753 hg w36 hbox hb; have n0_ := Aside0.mk (below_step (by repeat (first | (with_reducible first | exact HB.out | apply below_alloc | apply pw_below_drewN | apply below_drew1) | exact HB.out)) hb); have n1_ := Aside0.mk (hbox); have n2_ := Aside0.mk ((by rw [hg]; exact (below_size (by repeat (first | (with_reducible first | exact HB.out | apply below_alloc | apply pw_below_drewN | apply below_drew1) | exact HB.out))) : w.heap.size ≤ gb753)); have n3_ := Aside0.mk ((by rw [hg]; exact (below_size (by repeat (first | (with_reducible first | exact HB.out | apply below_alloc | apply pw_below_drewN | apply below_drew1) | exact HB.out))) : w.heap.size ≤ gb753)); clear HB; have HB := n0_; have BK753 := n1_; have GW753 := n2_; have GE753 := n3_; clear n0_ n1_ n2_ n3_; clear hb hbox hg; have hcz37_0 : w36.cell? ⟨gb753, 0, none⟩ = some (.string a0_0) := (blk_cell BK753.out 0).trans rfl; have hcz37_1 : w36.cell? ⟨gb753, 1, none⟩ = some (.slice A0_1 l0_1.length c0_1) := (blk_cell BK753.out 1).trans rfl; have hcz37_2 : w36.cell? ⟨gb753, 2, none⟩ = some (.int .i64 a0_2) := (blk_cell BK753.out 2).trans rfl; have hcz37_3 : w36.cell? ⟨gb753, 3, none⟩ = some (.slice A0_3 l0_3.length c0_3) := (blk_cell BK753.out 3).trans rfl; have hcz37_4 : w36.cell? ⟨gb753, 4, none⟩ = some (.slice A0_4 l0_4.length c0_4) := (blk_cell BK753.out 4).trans rfl; have hcz37_5 : w36.cell? ⟨gb753, 5, none⟩ = some (.slice A0_5 l0_5.length c0_5) := (blk_cell BK753.out 5).trans rfl; have hfz37_0 := blk_frozen BK753.out 0; have hfz37_1 := blk_frozen BK753.out 1; have hfz37_2 := blk_frozen BK753.out 2; have hfz37_3 := blk_frozen BK753.out 3; have hfz37_4 := blk_frozen BK753.out 4; have hfz37_5 := blk_frozen BK753.out 5) | ((with_reducible refine gate_callee (f := 115) rfl ?_); refine goesL_ (some 11) rfl rfl Try.func115 (by kernel_rfl) rfl #[.agg #[.string a0_0, .slice A0_1 l0_1.length c0_1, .int .i64 a0_2, .slice A0_3 l0_3.length c0_3, .slice A0_4 l0_4.length c0_4, .slice A0_5 l0_5.length c0_5]] rfl (by (try simp only [List.map_toArray, List.map_cons, List.map_nil]); first | done | rfl | (simp only [List.length_drop, List.length_take]; rfl)) ?_; (with_reducible refine (pleatref03_size.calls k a0_0 _ _ l0_1 a0_2 _ _ l0_3 _ _ l0_4 _ _ l0_5 t754 t755 _ ?side1 ?side2 ?side3 ?side4 ?side5 ?side6 ?side7 ?side8 A2.out).mono ?_); (case side1 => repeat (first | exact (Kd.C_below HR0_1.out HB.out) | (with_reducible refine Kd.C_alloc ?_ _) | (with_reducible refine Kd.C_drewN ?_ _) | (with_reducible refine Kd.C_drew ?_))); (case side2 => exact HC0_1.out); (case side3 => repeat (first | exact (Kd.C_below HR0_3.out HB.out) | (with_reducible refine Kd.C_alloc ?_ _) | (with_reducible refine Kd.C_drewN ?_ _) | (with_reducible refine Kd.C_drew ?_))); (case side4 => exact HC0_3.out); (case side5 => repeat (first | exact (Kd.C_below HR0_4.out HB.out) | (with_reducible refine Kd.C_alloc ?_ _) | (with_reducible refine Kd.C_drewN ?_ _) | (with_reducible refine Kd.C_drew ?_))); (case side6 => exact HC0_4.out); (case side7 => repeat (first | exact (Kd.C_below HR0_5.out HB.out) | (with_reducible refine Kd.C_alloc ?_ _) | (with_reducible refine Kd.C_drewN ?_ _) | (with_reducible refine Kd.C_drew ?_))); (case side8 => exact HC0_5.out); rintro e w38 ⟨rfl, hb⟩; refine ⟨_, rfl, ?_⟩; have n0_ := Aside0.mk (blk_below (g := gb753) (o := .cells #[.string a0_0, .slice A0_1 l0_1.length c0_1, .int .i64 a0_2, .slice A0_3 l0_3.length c0_3, .slice A0_4 l0_4.length c0_4, .slice A0_5 l0_5.length c0_5] 88 (0, 0)) (by (with_reducible repeat (first | refine blk_drewN ?_ _ | refine blk_drew ?_ | refine blk_alloc ?_ _)); exact BK753.out) hb); have n1_ := Aside0.mk (below_step (by repeat (first | (with_reducible first | exact HB.out | apply below_alloc | apply pw_below_drewN | apply below_drew1 | refine below_set ?_ GE753.out) | exact HB.out)) hb); clear BK753; clear HB; have BK753 := n0_; have HB := n1_; clear n0_ n1_; (try clear hb); (try clear hb2); (try clear hk); (try clear hi); have hcz39_0 : w38.cell? ⟨gb753, 0, none⟩ = some (.string a0_0) := (blk_cell BK753.out 0).trans rfl; have hcz39_1 : w38.cell? ⟨gb753, 1, none⟩ = some (.slice A0_1 l0_1.length c0_1) := (blk_cell BK753.out 1).trans rfl; have hcz39_2 : w38.cell? ⟨gb753, 2, none⟩ = some (.int .i64 a0_2) := (blk_cell BK753.out 2).trans rfl; have hcz39_3 : w38.cell? ⟨gb753, 3, none⟩ = some (.slice A0_3 l0_3.length c0_3) := (blk_cell BK753.out 3).trans rfl; have hcz39_4 : w38.cell? ⟨gb753, 4, none⟩ = some (.slice A0_4 l0_4.length c0_4) := (blk_cell BK753.out 4).trans rfl; have hcz39_5 : w38.cell? ⟨gb753, 5, none⟩ = some (.slice A0_5 l0_5.length c0_5) := (blk_cell BK753.out 5).trans rfl; have hfz39_0 := blk_frozen BK753.out 0; have hfz39_1 := blk_frozen BK753.out 1; have hfz39_2 := blk_frozen BK753.out 2; have hfz39_3 := blk_frozen BK753.out 3; have hfz39_4 := blk_frozen BK753.out 4; have hfz39_5 := blk_frozen BK753.out 5) | ((with_reducible refine gate_callee (f := 116) rfl ?_); refine goesL_ (some 20) rfl rfl Try.func116 (by kernel_rfl) rfl #[.agg #[.string a0_0, .slice A0_1 l0_1.length c0_1, .int .i64 a0_2, .slice A0_3 l0_3.length c0_3, .slice A0_4 l0_4.length c0_4, .slice A0_5 l0_5.length c0_5]] rfl (by (try simp only [List.map_toArray, List.map_cons, List.map_nil]); first | done | rfl | (simp only [List.length_drop, List.length_take]; rfl)) ?_; (with_reducible refine (pleatref03_symbols.calls k a0_0 _ _ l0_1 a0_2 _ _ l0_3 _ _ l0_4 _ _ l0_5 t756 t757 _ ?side1 ?side2 ?side3 ?side4 ?side5 ?side6 ?side7 ?side8 A4.out).mono ?_); (case side1 => repeat (first | exact (Kd.C_below HR0_1.out HB.out) | (with_reducible refine Kd.C_alloc ?_ _) | (with_reducible refine Kd.C_drewN ?_ _) | (with_reducible refine Kd.C_drew ?_))); (case side2 => exact HC0_1.out); (case side3 => repeat (first | exact (Kd.C_below HR0_3.out HB.out) | (with_reducible refine Kd.C_alloc ?_ _) | (with_reducible refine Kd.C_drewN ?_ _) | (with_reducible refine Kd.C_drew ?_))); (case side4 => exact HC0_3.out); (case side5 => repeat (first | exact (Kd.C_below HR0_4.out HB.out) | (with_reducible refine Kd.C_alloc ?_ _) | (with_reducible refine Kd.C_drewN ?_ _) | (with_reducible refine Kd.C_drew ?_))); (case side6 => exact HC0_4.out); (case side7 => repeat (first | exact (Kd.C_below HR0_5.out HB.out) | (with_reducible refine Kd.C_alloc ?_ _) | (with_reducible refine Kd.C_drewN ?_ _) | (with_reducible refine Kd.C_drew ?_))); (case side8 => exact HC0_5.out); rintro e w40 ⟨rfl, hb⟩; refine ⟨_, rfl, ?_⟩; have n0_ := Aside0.mk (blk_below (g := gb753) (o := .cells #[.string a0_0, .slice A0_1 l0_1.length c0_1, .int .i64 a0_2, .slice A0_3 l0_3.length c0_3, .slice A0_4 l0_4.length c0_4, .slice A0_5 l0_5.length c0_5] 88 (0, 0)) (by (with_reducible repeat (first | refine blk_drewN ?_ _ | refine blk_drew ?_ | refine blk_alloc ?_ _)); exact BK753.out) hb); have n1_ := Aside0.mk (below_step (by repeat (first | (with_reducible first | exact HB.out | apply below_alloc | apply pw_below_drewN | apply below_drew1 | refine below_set ?_ GE753.out) | exact HB.out)) hb); clear BK753; clear HB; have BK753 := n0_; have HB := n1_; clear n0_ n1_; (try clear hb); (try clear hb2); (try clear hk); (try clear hi)))
      go_ret2
      exact ⟨by first | rfl | (simp [errW_none, errW_some] <;> rfl) | (simp [*, errW_none, errW_some] <;> rfl), by repeat (first | (with_reducible first | exact HB.out | apply below_alloc | apply pw_below_drewN | apply below_drew1 | refine below_set ?_ GE753.out) | exact HB.out)⟩
  · rw [if_neg c3] at H
    have c3b0 : (t754 == 0) = false := beq_eq_false_iff_ne.mpr c3
    have c3b1 : (t754 != 0) = true := bne_iff_ne.mpr c3
    simp only [Option.some.injEq, Prod.mk.injEq] at H
    obtain ⟨rfl, rfl⟩ := H
    go_enter Try.func76, Try.ntmps76
    go_wp2_with (first | ((with_reducible refine gate_dst (N := 1) rfl ?_); (try (refine gate_guard (by rfl) ?_; dsimp only)); refine box_event ?hg (N := 1) ?hd (cs := #[.string a0_0, .slice A0_1 l0_1.length c0_1, .int .i64 a0_2, .slice A0_3 l0_3.length c0_3, .slice A0_4 l0_4.length c0_4, .slice A0_5 l0_5.length c0_5]) (t := 88) ?hr ?_; (case hd => rfl); (case hg => rfl); (case hr => first | (go_simp; done) | (go_simp; rfl)); intro gb753 hg w41 hbox hb; have n0_ := Aside0.mk (below_step (by repeat (first | (with_reducible first | exact HB.out | apply below_alloc | apply pw_below_drewN | apply below_drew1) | exact HB.out)) hb); have n1_ := Aside0.mk (hbox); have n2_ := Aside0.mk ((by rw [hg]; exact (below_size (by repeat (first | (with_reducible first | exact HB.out | apply below_alloc | apply pw_below_drewN | apply below_drew1) | exact HB.out))) : w.heap.size ≤ gb753)); have n3_ := Aside0.mk ((by rw [hg]; exact (below_size (by repeat (first | (with_reducible first | exact HB.out | apply below_alloc | apply pw_below_drewN | apply below_drew1) | exact HB.out))) : w.heap.size ≤ gb753)); clear HB; have HB := n0_; have BK753 := n1_; have GW753 := n2_; have GE753 := n3_; clear n0_ n1_ n2_ n3_; clear hb hbox hg; have hcz42_0 : w41.cell? ⟨gb753, 0, none⟩ = some (.string a0_0) := (blk_cell BK753.out 0).trans rfl; have hcz42_1 : w41.cell? ⟨gb753, 1, none⟩ = some (.slice A0_1 l0_1.length c0_1) := (blk_cell BK753.out 1).trans rfl; have hcz42_2 : w41.cell? ⟨gb753, 2, none⟩ = some (.int .i64 a0_2) := (blk_cell BK753.out 2).trans rfl; have hcz42_3 : w41.cell? ⟨gb753, 3, none⟩ = some (.slice A0_3 l0_3.length c0_3) := (blk_cell BK753.out 3).trans rfl; have hcz42_4 : w41.cell? ⟨gb753, 4, none⟩ = some (.slice A0_4 l0_4.length c0_4) := (blk_cell BK753.out 4).trans rfl; have hcz42_5 : w41.cell? ⟨gb753, 5, none⟩ = some (.slice A0_5 l0_5.length c0_5) := (blk_cell BK753.out 5).trans rfl; have hfz42_0 := blk_frozen BK753.out 0; have hfz42_1 := blk_frozen BK753.out 1; have hfz42_2 := blk_frozen BK753.out 2; have hfz42_3 := blk_frozen BK753.out 3; have hfz42_4 := blk_frozen BK753.out 4; have hfz42_5 := blk_frozen BK753.out 5) | ((with_reducible refine gate_callee (f := 115) rfl ?_); refine goesL_ (some 11) rfl rfl Try.func115 (by kernel_rfl) rfl #[.agg #[.string a0_0, .slice A0_1 l0_1.length c0_1, .int .i64 a0_2, .slice A0_3 l0_3.length c0_3, .slice A0_4 l0_4.length c0_4, .slice A0_5 l0_5.length c0_5]] rfl (by (try simp only [List.map_toArray, List.map_cons, List.map_nil]); first | done | rfl | (simp only [List.length_drop, List.length_take]; rfl)) ?_; (with_reducible refine (pleatref03_size.calls k a0_0 _ _ l0_1 a0_2 _ _ l0_3 _ _ l0_4 _ _ l0_5 t754 t755 _ ?side1 ?side2 ?side3 ?side4 ?side5 ?side6 ?side7 ?side8 A2.out).mono ?_); (case side1 => repeat (first | exact (Kd.C_below HR0_1.out HB.out) | (with_reducible refine Kd.C_alloc ?_ _) | (with_reducible refine Kd.C_drewN ?_ _) | (with_reducible refine Kd.C_drew ?_))); (case side2 => exact HC0_1.out); (case side3 => repeat (first | exact (Kd.C_below HR0_3.out HB.out) | (with_reducible refine Kd.C_alloc ?_ _) | (with_reducible refine Kd.C_drewN ?_ _) | (with_reducible refine Kd.C_drew ?_))); (case side4 => exact HC0_3.out); (case side5 => repeat (first | exact (Kd.C_below HR0_4.out HB.out) | (with_reducible refine Kd.C_alloc ?_ _) | (with_reducible refine Kd.C_drewN ?_ _) | (with_reducible refine Kd.C_drew ?_))); (case side6 => exact HC0_4.out); (case side7 => repeat (first | exact (Kd.C_below HR0_5.out HB.out) | (with_reducible refine Kd.C_alloc ?_ _) | (with_reducible refine Kd.C_drewN ?_ _) | (with_reducible refine Kd.C_drew ?_))); (case side8 => exact HC0_5.out); rintro e w43 ⟨rfl, hb⟩; refine ⟨_, rfl, ?_⟩; have n0_ := Aside0.mk (blk_below (g := gb753) (o := .cells #[.string a0_0, .slice A0_1 l0_1.length c0_1, .int .i64 a0_2, .slice A0_3 l0_3.length c0_3, .slice A0_4 l0_4.length c0_4, .slice A0_5 l0_5.length c0_5] 88 (0, 0)) (by (with_reducible repeat (first | refine blk_drewN ?_ _ | refine blk_drew ?_ | refine blk_alloc ?_ _)); exact BK753.out) hb); have n1_ := Aside0.mk (below_step (by repeat (first | (with_reducible first | exact HB.out | apply below_alloc | apply pw_below_drewN | apply below_drew1 | refine below_set ?_ GE753.out) | exact HB.out)) hb); clear BK753; clear HB; have BK753 := n0_; have HB := n1_; clear n0_ n1_; (try clear hb); (try clear hb2); (try clear hk); (try clear hi)))
    go_ret2
    exact ⟨by first | rfl | (simp [errW_none, errW_some] <;> rfl) | (simp [*, errW_none, errW_some] <;> rfl), by repeat (first | (with_reducible first | exact HB.out | apply below_alloc | apply pw_below_drewN | apply below_drew1 | refine below_set ?_ GE753.out) | exact HB.out)⟩

/-! ### pleatref03_At: function 80 -/
def pleatref03_At.l0 : Nat → Int → Int → ByteArray → List Int → Int → List Int → List (S120) → List (S130) → Option (Int)
  | 0, _, _, _, _, _, _, _, _ => none
  | k + 1, x1, x5, x764000, x764001, x764002, x764003, x764004, x764005 => if x5 < (x764005.length : Int) then (if 0 ≤ x5 then (if ((rd_T130 x764005 x5).f0) = x1 then (some x5) else (pleatref03_At.l0 k x1 (wrap64 (x5 + 1)) x764000 x764001 x764002 x764003 x764004 x764005)) else (none)) else (some (-1))
def pleatref03_At.f (k : Nat) (a0_0 : ByteArray) (l0_1 : List Int) (a0_2 : Int) (l0_3 : List Int) (l0_4 : List (S120)) (l0_5 : List (S130)) (a1 : Int) : Option (Int) := pleatref03_At.l0 k a1 0 a0_0 l0_1 a0_2 l0_3 l0_4 l0_5
theorem pleatref03_At.mono_l : ∀ k, (∀ y0 y1 y2 y3 y4 y5 y6 y7, LeO (pleatref03_At.l0 k y0 y1 y2 y3 y4 y5 y6 y7) (pleatref03_At.l0 (k + 1) y0 y1 y2 y3 y4 y5 y6 y7))
  | 0 => fun _ _ _ _ _ _ _ _ r h => by simp [pleatref03_At.l0] at h
  | k + 1 => by
    have ih0 := pleatref03_At.mono_l k
    · intro y0 y1 y2 y3 y4 y5 y6 y7
      unfold pleatref03_At.l0
      repeat' first
      | (with_reducible exact ih0 _ _ _ _ _ _ _ _)
      | (with_reducible exact LeO.refl _)
      | (with_reducible exact LeO.none _)
      | (with_reducible refine LeO.ite ?_ ?_)
      | (with_reducible refine LeO.bind ?_ (fun _ => ?_))
      | exact ih0 _ _ _ _ _ _ _ _
      | exact LeO.none _
      | refine LeO.ite ?_ ?_
      | refine LeO.bind ?_ (fun _ => ?_)
theorem pleatref03_At.mono : ∀ a0 a1 a2 a3 a4 a5 a6 k, LeO (pleatref03_At.f k a0 a1 a2 a3 a4 a5 a6) (pleatref03_At.f (k + 1) a0 a1 a2 a3 a4 a5 a6) := by
  intro a0 a1 a2 a3 a4 a5 a6 k
  have ih0 := pleatref03_At.mono_l k
  unfold pleatref03_At.f
  repeat' first
      | (with_reducible exact ih0 _ _ _ _ _ _ _ _)
      | (with_reducible exact LeO.refl _)
      | (with_reducible exact LeO.none _)
      | (with_reducible refine LeO.ite ?_ ?_)
      | (with_reducible refine LeO.bind ?_ (fun _ => ?_))
      | exact ih0 _ _ _ _ _ _ _ _
      | exact LeO.none _
      | refine LeO.ite ?_ ?_
      | refine LeO.bind ?_ (fun _ => ?_)
set_option maxHeartbeats 8000000 in
set_option maxRecDepth 100000 in
theorem pleatref03_At.calls (k : Nat) (a0_0 : ByteArray) (A0_1 : Option Addr) (c0_1 : Nat) (l0_1 : List Int) (a0_2 : Int) (A0_3 : Option Addr) (c0_3 : Nat) (l0_3 : List Int) (A0_4 : Option Addr) (c0_4 : Nat) (l0_4 : List (S120)) (A0_5 : Option Addr) (c0_5 : Nat) (l0_5 : List (S130)) (a1 : Int) (r : Int) (w : World) (hr0_1 : Kd.C (Kd.int .u32) w A0_1 l0_1.length l0_1) (hc0_1 : l0_1.length ≤ c0_1) (hr0_3 : Kd.C (Kd.int .i64) w A0_3 l0_3.length l0_3) (hc0_3 : l0_3.length ≤ c0_3) (hr0_4 : Kd.C k120 w A0_4 l0_4.length l0_4) (hc0_4 : l0_4.length ≤ c0_4) (hr0_5 : Kd.C k130 w A0_5 l0_5.length l0_5) (hc0_5 : l0_5.length ≤ c0_5) (h : pleatref03_At.f k a0_0 l0_1 a0_2 l0_3 l0_4 l0_5 a1 = some r) :
    Calls Try.prog 80 #[.agg #[.string a0_0, .slice A0_1 l0_1.length c0_1, .int .i64 a0_2, .slice A0_3 l0_3.length c0_3, .slice A0_4 l0_4.length c0_4, .slice A0_5 l0_5.length c0_5], .int .i64 a1] w fun e w' => e = .returned (.int .i64 r) ∧ Below w.heap.size w w' := by
  have hu88 := Try.underlying88
  have HR0_1 := Aside0.mk hr0_1
  have HC0_1 := Aside0.mk hc0_1
  clear hr0_1 hc0_1
  have HR0_3 := Aside0.mk hr0_3
  have HC0_3 := Aside0.mk hc0_3
  clear hr0_3 hc0_3
  have HR0_4 := Aside0.mk hr0_4
  have HC0_4 := Aside0.mk hc0_4
  clear hr0_4 hc0_4
  have HR0_5 := Aside0.mk hr0_5
  have HC0_5 := Aside0.mk hc0_5
  clear hr0_5 hc0_5
  have HB := Aside0.mk (Below.refl w.heap.size w)
  have H : (pleatref03_At.l0 k a1 0 a0_0 l0_1 a0_2 l0_3 l0_4 l0_5) = some r := h
  clear h
  have H' := Aside0.mk H
  clear H
  go_enter Try.func80, Try.ntmps80
  go_wp2_with (first | ((with_reducible refine gate_dst (N := 2) rfl ?_); refine box_event ?hg (N := 2) ?hd (cs := #[.string a0_0, .slice A0_1 l0_1.length c0_1, .int .i64 a0_2, .slice A0_3 l0_3.length c0_3, .slice A0_4 l0_4.length c0_4, .slice A0_5 l0_5.length c0_5]) (t := 88) ?hr ?_; (case hd => rfl); (case hg => rfl); (case hr => first | (go_simp; done) | (go_simp; rfl)); intro gb763 hg w3 hbox hb; have n0_ := Aside0.mk (below_step (by repeat (first | (with_reducible first | exact HB.out | apply below_alloc | apply pw_below_drewN | apply below_drew1) | exact HB.out)) hb); have n1_ := Aside0.mk (hbox); have n2_ := Aside0.mk ((by rw [hg]; exact (below_size (by repeat (first | (with_reducible first | exact HB.out | apply below_alloc | apply pw_below_drewN | apply below_drew1) | exact HB.out))) : w.heap.size ≤ gb763)); have n3_ := Aside0.mk ((by rw [hg]; exact (below_size (by repeat (first | (with_reducible first | exact HB.out | apply below_alloc | apply pw_below_drewN | apply below_drew1) | exact HB.out))) : w.heap.size ≤ gb763)); clear HB; have HB := n0_; have BK763 := n1_; have GW763 := n2_; have GE763 := n3_; clear n0_ n1_ n2_ n3_; clear hb hbox hg))
  go_loopg [5] k (fun kq v5 w' => ∃ (x5_1 : Int), v5 = .int .i64 x5_1 ∧ Aside0 (pleatref03_At.l0 kq a1 x5_1 a0_0 l0_1 a0_2 l0_3 l0_4 l0_5 = some r) ∧ Aside0 (kq ≤ k) ∧ Aside0 (w'.heap[gb763]? = some (.cells #[.string a0_0, (.slice A0_1 l0_1.length c0_1), .int .i64 a0_2, (.slice A0_3 l0_3.length c0_3), (.slice A0_4 l0_4.length c0_4), (.slice A0_5 l0_5.length c0_5)] 88 (0, 0))) ∧ Aside0 (Below w.heap.size w w'))
  case atStart => exact ⟨(0), (by first | rfl | (simp; done) | (simp [*]; done)), H', ⟨Nat.le_refl _⟩, ⟨by (with_reducible repeat (first | refine blk_drewN ?_ _ | refine blk_drew ?_ | refine blk_alloc ?_ _)); exact BK763.out⟩, ⟨by repeat (first | (with_reducible first | exact HB.out | apply below_alloc | apply pw_below_drewN | apply below_drew1 | refine below_set ?_ GE763.out) | exact HB.out)⟩⟩
  case round =>
    clear H'
    try clear p2
    obtain ⟨x5_1, rfl, HA, HK1, BK763, HB⟩ := hrel
    cases gk with
    | zero => exact absurd HA.out (by simp [pleatref03_At.l0])
    | succ k1 =>
      have H := HA.out
      clear HA
      simp only [pleatref03_At.l0] at H
      by_cases c4 : x5_1 < (l0_5.length : Int)
      · rw [if_pos c4] at H
        have c4b0 : decide (x5_1 < (l0_5.length : Int)) = true := decide_eq_true c4
        clear c4
        by_cases c5 : 0 ≤ x5_1
        · rw [if_pos c5] at H
          have c5b0 : decide (0 ≤ x5_1) = true := decide_eq_true c5
          clear c5
          by_cases c6 : ((rd_T130 l0_5 x5_1).f0) = a1
          · rw [if_pos c6] at H
            have c6b0 : (((rd_T130 l0_5 x5_1).f0) == a1) = true := beq_iff_eq.mpr c6
            have c6b1 : (((rd_T130 l0_5 x5_1).f0) != a1) = false := bne_eq_false_iff_eq.mpr c6
            clear c6
            obtain rfl := Option.some.inj H
            have hcz7_0 : wr.cell? ⟨gb763, 0, none⟩ = some (.string a0_0) := (blk_cell BK763.out 0).trans rfl
            have hcz7_1 : wr.cell? ⟨gb763, 1, none⟩ = some (.slice A0_1 l0_1.length c0_1) := (blk_cell BK763.out 1).trans rfl
            have hcz7_2 : wr.cell? ⟨gb763, 2, none⟩ = some (.int .i64 a0_2) := (blk_cell BK763.out 2).trans rfl
            have hcz7_3 : wr.cell? ⟨gb763, 3, none⟩ = some (.slice A0_3 l0_3.length c0_3) := (blk_cell BK763.out 3).trans rfl
            have hcz7_4 : wr.cell? ⟨gb763, 4, none⟩ = some (.slice A0_4 l0_4.length c0_4) := (blk_cell BK763.out 4).trans rfl
            have hcz7_5 : wr.cell? ⟨gb763, 5, none⟩ = some (.slice A0_5 l0_5.length c0_5) := (blk_cell BK763.out 5).trans rfl
            have hfz7_0 := blk_frozen BK763.out 0
            have hfz7_1 := blk_frozen BK763.out 1
            have hfz7_2 := blk_frozen BK763.out 2
            have hfz7_3 := blk_frozen BK763.out 3
            have hfz7_4 := blk_frozen BK763.out 4
            have hfz7_5 := blk_frozen BK763.out 5
            have p764 : 0 ≤ (x5_1 : Int) := of_decide_eq_true (by first | (with_reducible assumption) | assumption)
            have q764 : x5_1 < (l0_5.length : Int) := of_decide_eq_true (by first | (with_reducible assumption) | assumption)
            obtain ⟨ad764, e764, hx764_0, hx764_1⟩ := at_T130 HR0_5.out x5_1 p764 q764
            cases e764
            replace hx764_0 := (HB.out.cell (World.block_lt_of_cell? w _ hx764_0)).trans hx764_0
            replace hx764_1 := (HB.out.cell (World.block_lt_of_cell? w _ hx764_1)).trans hx764_1
            replace p764 := eq_true p764
            replace q764 := eq_true q764
            go_wp2
            go_ret
            exact ⟨by first | rfl | (simp [errW_none, errW_some] <;> rfl) | (simp [*, errW_none, errW_some] <;> rfl), by repeat (first | (with_reducible first | exact HB.out | apply below_alloc | apply pw_below_drewN | apply below_drew1 | refine below_set ?_ GE763.out) | exact HB.out)⟩
          · rw [if_neg c6] at H
            have c6b0 : (((rd_T130 l0_5 x5_1).f0) == a1) = false := beq_eq_false_iff_ne.mpr c6
            have c6b1 : (((rd_T130 l0_5 x5_1).f0) != a1) = true := bne_iff_ne.mpr c6
            have H' := Aside0.mk H
            clear H
            have hcz8_0 : wr.cell? ⟨gb763, 0, none⟩ = some (.string a0_0) := (blk_cell BK763.out 0).trans rfl
            have hcz8_1 : wr.cell? ⟨gb763, 1, none⟩ = some (.slice A0_1 l0_1.length c0_1) := (blk_cell BK763.out 1).trans rfl
            have hcz8_2 : wr.cell? ⟨gb763, 2, none⟩ = some (.int .i64 a0_2) := (blk_cell BK763.out 2).trans rfl
            have hcz8_3 : wr.cell? ⟨gb763, 3, none⟩ = some (.slice A0_3 l0_3.length c0_3) := (blk_cell BK763.out 3).trans rfl
            have hcz8_4 : wr.cell? ⟨gb763, 4, none⟩ = some (.slice A0_4 l0_4.length c0_4) := (blk_cell BK763.out 4).trans rfl
            have hcz8_5 : wr.cell? ⟨gb763, 5, none⟩ = some (.slice A0_5 l0_5.length c0_5) := (blk_cell BK763.out 5).trans rfl
            have hfz8_0 := blk_frozen BK763.out 0
            have hfz8_1 := blk_frozen BK763.out 1
            have hfz8_2 := blk_frozen BK763.out 2
            have hfz8_3 := blk_frozen BK763.out 3
            have hfz8_4 := blk_frozen BK763.out 4
            have hfz8_5 := blk_frozen BK763.out 5
            have p764 : 0 ≤ (x5_1 : Int) := of_decide_eq_true (by first | (with_reducible assumption) | assumption)
            have q764 : x5_1 < (l0_5.length : Int) := of_decide_eq_true (by first | (with_reducible assumption) | assumption)
            obtain ⟨ad764, e764, hx764_0, hx764_1⟩ := at_T130 HR0_5.out x5_1 p764 q764
            cases e764
            replace hx764_0 := (HB.out.cell (World.block_lt_of_cell? w _ hx764_0)).trans hx764_0
            replace hx764_1 := (HB.out.cell (World.block_lt_of_cell? w _ hx764_1)).trans hx764_1
            replace p764 := eq_true p764
            replace q764 := eq_true q764
            go_wp2
            go_roundg k1
            case measure => have := HK1.out; omega
            case rel => exact ⟨(wrap64 (x5_1 + 1)), (by first | rfl | (simp; done) | (simp [*]; done)), H', ⟨by have := HK1.out; omega⟩, ⟨by (with_reducible repeat (first | refine blk_drewN ?_ _ | refine blk_drew ?_ | refine blk_alloc ?_ _)); exact BK763.out⟩, ⟨by repeat (first | (with_reducible first | exact HB.out | apply below_alloc | apply pw_below_drewN | apply below_drew1 | refine below_set ?_ GE763.out) | exact HB.out)⟩⟩
        · rw [if_neg c5] at H
          exact absurd H (by simp)
      · rw [if_neg c4] at H
        have c4b0 : decide (x5_1 < (l0_5.length : Int)) = false := decide_eq_false c4
        clear c4
        obtain rfl := Option.some.inj H
        have hcz9_0 : wr.cell? ⟨gb763, 0, none⟩ = some (.string a0_0) := (blk_cell BK763.out 0).trans rfl
        have hcz9_1 : wr.cell? ⟨gb763, 1, none⟩ = some (.slice A0_1 l0_1.length c0_1) := (blk_cell BK763.out 1).trans rfl
        have hcz9_2 : wr.cell? ⟨gb763, 2, none⟩ = some (.int .i64 a0_2) := (blk_cell BK763.out 2).trans rfl
        have hcz9_3 : wr.cell? ⟨gb763, 3, none⟩ = some (.slice A0_3 l0_3.length c0_3) := (blk_cell BK763.out 3).trans rfl
        have hcz9_4 : wr.cell? ⟨gb763, 4, none⟩ = some (.slice A0_4 l0_4.length c0_4) := (blk_cell BK763.out 4).trans rfl
        have hcz9_5 : wr.cell? ⟨gb763, 5, none⟩ = some (.slice A0_5 l0_5.length c0_5) := (blk_cell BK763.out 5).trans rfl
        have hfz9_0 := blk_frozen BK763.out 0
        have hfz9_1 := blk_frozen BK763.out 1
        have hfz9_2 := blk_frozen BK763.out 2
        have hfz9_3 := blk_frozen BK763.out 3
        have hfz9_4 := blk_frozen BK763.out 4
        have hfz9_5 := blk_frozen BK763.out 5
        go_wp2
        go_ret
        exact ⟨by first | rfl | (simp [errW_none, errW_some] <;> rfl) | (simp [*, errW_none, errW_some] <;> rfl), by repeat (first | (with_reducible first | exact HB.out | apply below_alloc | apply pw_below_drewN | apply below_drew1 | refine below_set ?_ GE763.out) | exact HB.out)⟩
end Go.Proofs.Ytiaohbbafaaibaa.P

/- OWN TEXT: objects over plain lists: names, what is found by a name or a place, the reference's check: all come to the same as the program's. -/
set_option linter.unusedVariables false
set_option linter.unusedSimpArgs false
namespace Go.Proofs.Ytiaohbbafaaibaa.P
open Go.RowKit Go.Maps Go.Proofs.YtiaohbbafaaibaaW.PrintWords Go.Proofs.YtiaohbbafaaibaaW.PrintLast Go.Proofs.YtiaohbbafaaibaaW.PrintMore Go.Proofs.Ytiaohbbafaaibaa.MapB

theorem Ev.upto {α : Type} {g : Nat → Int → Option α} {r : α} {n : Nat} (p : Nat → Prop) (step : ∀ i : Nat, i < n → p i → (p (i + 1) → Ev (fun k => g k ((i + 1 : Nat) : Int)) r) → Ev (fun k => g k (i : Int)) r) (last : p n → Ev (fun k => g k (n : Int)) r) : ∀ i : Nat, i ≤ n → p i → Ev (fun k => g k (i : Int)) r := by
  have : ∀ d i : Nat, i + d = n → p i → Ev (fun k => g k (i : Int)) r := by
    intro d
    induction d with
    | zero => intro i hi hp; obtain rfl : i = n := by omega
              exact last hp
    | succ d ih => intro i hi hp; exact step i (by omega) hp (ih (i + 1) (by omega))
  intro i hi
  exact this (n - i) i (by omega)
theorem wrapS {i n : Nat} (hi : i < n) (hn : n ≤ 1000000000) : wrap64 ((i : Int) + 1) = ((i + 1 : Nat) : Int) := by rw [wrap64_id (by omega) (by omega)]; rfl
theorem sy_get {l : List Sym} {i : Nat} (h : i < l.length) : rd_T120 l (i : Int) = l[i] := by
  unfold rd_T120
  simp [List.getD_eq_getElem?_getD, List.getElem?_eq_getElem h]
theorem rl_get {l : List Rel} {i : Nat} (h : i < l.length) : rd_T130 l (i : Int) = l[i] := by
  unfold rd_T130
  simp [List.getD_eq_getElem?_getD, List.getElem?_eq_getElem h]
theorem sy_at {l : List Sym} {i : Nat} (h : i < l.length) : sy l i = l[i] := sy_get h
theorem rl_at {l : List Rel} {i : Nat} (h : i < l.length) : rl l i = l[i] := rl_get h
theorem toList_loop (s : ByteArray) : ∀ (d i : Nat) (r : List UInt8), i + d = s.size → ByteArray.toList.loop s i r = r.reverse ++ s.data.toList.drop i := by
  intro d
  induction d with
  | zero =>
    intro i r hi
    rw [ByteArray.toList.loop, if_neg (by omega), List.drop_eq_nil_of_le (by rw [data_length]; omega), List.append_nil]
  | succ d ih =>
    intro i r hi
    have hlt : i < s.data.toList.length := by rw [data_length]; omega
    rw [ByteArray.toList.loop, if_pos (by omega), ih (i + 1) _ (by omega), List.drop_eq_getElem_cons hlt, List.reverse_cons, List.append_assoc]
    have e : s.get! i = s.data.toList[i] := by
      have h2 : i < s.data.size := by simpa using hlt
      simp only [ByteArray.get!]
      exact getElem!_pos s.data i h2
    rw [e]
    rfl
theorem toList_eq (s : ByteArray) : s.toList = s.data.toList := by
  have := toList_loop s s.size 0 [] (by omega)
  simpa [ByteArray.toList] using this
theorem toList_inj {a b : ByteArray} : a.toList = b.toList ↔ a = b := by
  rw [toList_eq, toList_eq]
  constructor
  · intro h
    have : a.data = b.data := Array.toList_inj.1 h
    cases a; cases b; simp at this; subst this; rfl
  · intro h; rw [h]
theorem key_inj {a b : ByteArray} : (keyN a).sameKey (keyN b) = true ↔ a = b := by
  unfold keyN
  show (a.data.toList == b.data.toList) = true ↔ _
  rw [beq_iff_eq, ← toList_eq, ← toList_eq]
  exact toList_inj
theorem seen_iff (l : List Sym) (s : ByteArray) : ∀ i, nameSeen l i (keyN s) = true ↔ ∃ j, j < i ∧ (sy l j).f0 = s
  | 0 => by simp [nameSeen]
  | i + 1 => by
    show addS (nameSeen l i) (keyN (sy l i).f0) (keyN s) = true ↔ _
    unfold addS
    rw [Bool.or_eq_true, seen_iff l s i, key_inj]
    constructor
    · rintro (h | ⟨j, hj, h⟩)
      · exact ⟨i, by omega, h.symm⟩
      · exact ⟨j, by omega, h⟩
    · rintro ⟨j, hj, h⟩
      by_cases e : j = i
      · subst e; exact .inl h.symm
      · exact .inr ⟨j, by omega, h⟩

def ofN (nm : ByteArray) : List Sym → Nat → Int
  | [], _ => -1
  | s :: r, i => if s.f0.toList = nm.toList then (i : Int) else ofN nm r (i + 1)
def atN (p : Int) : List Rel → Nat → Int
  | [], _ => -1
  | s :: r, i => if s.f0 = p then (i : Int) else atN p r (i + 1)
theorem ofo1 (l : List Sym) (hl : l.length ≤ 1000000000) (a : ByteArray) (c : List Int) (d : Int) (e : List Int) (f : List Rel) (nm : ByteArray) : Ev (fun k => object_Of.f k a c d e l f nm) (ofN nm l 0) := by
  unfold object_Of.f
  have : ∀ d i : Nat, i + d = l.length → Ev (fun k => object_Of.l0 k nm l (l.length : Int) (i : Int)) (ofN nm (l.drop i) i) := by
    intro d
    induction d with
    | zero =>
      intro i hi
      rw [List.drop_eq_nil_of_le (by omega)]
      exact Ev.succ (Ev.iteF (by omega) (Ev.val rfl))
    | succ d ih =>
      intro i hi
      have hlt : i < l.length := by omega
      rw [drop_get hlt]
      unfold ofN
      refine Ev.succ (Ev.iteT (by omega) (Ev.iteT (by omega) (Ev.iteT (by omega) ?_)))
      simp only [sy_get hlt, wrapS hlt hl]
      refine Ev.ite2 (fun h => Ev.val (by rw [if_pos h])) (fun h => ?_)
      rw [if_neg h]
      exact ih (i + 1) (by omega)
  exact this l.length 0 (by omega)
theorem ofo2 (l : List Sym) (hl : l.length ≤ 1000000000) (a : ByteArray) (c : List Int) (dd : Int) (e : List Int) (f : List Rel) (nm : ByteArray) : Ev (fun k => pleatref03_Of.f k a c dd e l f nm) (ofN nm l 0) := by
  unfold pleatref03_Of.f
  have : ∀ d i : Nat, i + d = l.length → Ev (fun k => pleatref03_Of.l0 k nm (i : Int) a c dd e l f) (ofN nm (l.drop i) i) := by
    intro d
    induction d with
    | zero =>
      intro i hi
      rw [List.drop_eq_nil_of_le (by omega)]
      exact Ev.succ (Ev.iteF (by omega) (Ev.val rfl))
    | succ d ih =>
      intro i hi
      have hlt : i < l.length := by omega
      rw [drop_get hlt]
      unfold ofN
      refine Ev.succ (Ev.iteT (by omega) (Ev.iteT (by omega) ?_))
      simp only [sy_get hlt, wrapS hlt hl]
      refine Ev.ite2 (fun h => Ev.val (by rw [if_pos h])) (fun h => ?_)
      rw [if_neg h]
      exact ih (i + 1) (by omega)
  exact this l.length 0 (by omega)
theorem ato1 (l : List Rel) (hl : l.length ≤ 1000000000) (a : ByteArray) (c : List Int) (d : Int) (e : List Int) (f : List Sym) (p : Int) : Ev (fun k => object_At.f k a c d e f l p) (atN p l 0) := by
  unfold object_At.f
  have : ∀ d i : Nat, i + d = l.length → Ev (fun k => object_At.l0 k p l (l.length : Int) (i : Int)) (atN p (l.drop i) i) := by
    intro d
    induction d with
    | zero =>
      intro i hi
      rw [List.drop_eq_nil_of_le (by omega)]
      exact Ev.succ (Ev.iteF (by omega) (Ev.val rfl))
    | succ d ih =>
      intro i hi
      have hlt : i < l.length := by omega
      rw [drop_get hlt]
      unfold atN
      refine Ev.succ (Ev.iteT (by omega) (Ev.iteT (by omega) (Ev.iteT (by omega) ?_)))
      simp only [rl_get hlt, wrapS hlt hl]
      refine Ev.ite2 (fun h => Ev.val (by rw [if_pos h])) (fun h => ?_)
      rw [if_neg h]
      exact ih (i + 1) (by omega)
  exact this l.length 0 (by omega)
theorem ato2 (l : List Rel) (hl : l.length ≤ 1000000000) (a : ByteArray) (c : List Int) (dd : Int) (e : List Int) (f : List Sym) (p : Int) : Ev (fun k => pleatref03_At.f k a c dd e f l p) (atN p l 0) := by
  unfold pleatref03_At.f
  have : ∀ d i : Nat, i + d = l.length → Ev (fun k => pleatref03_At.l0 k p (i : Int) a c dd e f l) (atN p (l.drop i) i) := by
    intro d
    induction d with
    | zero =>
      intro i hi
      rw [List.drop_eq_nil_of_le (by omega)]
      exact Ev.succ (Ev.iteF (by omega) (Ev.val rfl))
    | succ d ih =>
      intro i hi
      have hlt : i < l.length := by omega
      rw [drop_get hlt]
      unfold atN
      refine Ev.succ (Ev.iteT (by omega) (Ev.iteT (by omega) ?_))
      simp only [rl_get hlt, wrapS hlt hl]
      refine Ev.ite2 (fun h => Ev.val (by rw [if_pos h])) (fun h => ?_)
      rw [if_neg h]
      exact ih (i + 1) (by omega)
  exact this l.length 0 (by omega)
/-- it is i just if none before it has the name, where i itself has it. -/
theorem ofN_at (nm : ByteArray) : ∀ (l : List Sym) (b i : Nat), (h : i < l.length) → l[i].f0 = nm → (∀ j, (hj : j < i) → (l[j]'(by omega)).f0 ≠ nm) → ofN nm l b = ((b + i : Nat) : Int)
  | s :: r, b, 0, h, hn, _ => by
    unfold ofN
    rw [if_pos (by rw [← hn]; rfl)]
    rfl
  | s :: r, b, i + 1, h, hn, hb => by
    unfold ofN
    have h0 : s.f0 ≠ nm := hb 0 (by omega)
    rw [if_neg (fun e => h0 (toList_inj.1 e)), ofN_at nm r (b + 1) i (by simpa using h) (by simpa using hn) (fun j hj => by have := hb (j + 1) (by omega); simpa using this)]
    congr 1
    omega
theorem ofN_lt (nm : ByteArray) : ∀ (l : List Sym) (b j : Nat), (h : j < l.length) → l[j].f0 = nm → ofN nm l b ≤ ((b + j : Nat) : Int)
  | s :: r, b, j, h, hn => by
    unfold ofN
    by_cases c : s.f0.toList = nm.toList
    · rw [if_pos c]; omega
    · rw [if_neg c]
      cases j with
      | zero => exact absurd (toList_inj.2 hn) c
      | succ j =>
        have := ofN_lt nm r (b + 1) j (by simpa using h) (by simpa using hn)
        omega
theorem ofN_seen {l : List Sym} {i : Nat} (h : i < l.length) : ofN (sy l i).f0 l 0 = (i : Int) ↔ nameSeen l i (keyN (sy l i).f0) = false := by
  rw [← Bool.not_eq_true, seen_iff]
  constructor
  · rintro e ⟨j, hj, hn⟩
    rw [sy_at (by omega)] at hn
    have := ofN_lt (sy l i).f0 l 0 j (by omega) hn
    omega
  · intro hn
    have := ofN_at (sy l i).f0 l 0 i h (by rw [sy_at h]) (fun j hj e => hn ⟨j, hj, by rw [sy_at (by omega)]; exact e⟩)
    rw [this]
    simp

def LetC (c : Int) : Prop := (97 ≤ c ∧ c ≤ 122) ∨ (65 ≤ c ∧ c ≤ 90) ∨ c = 95
instance (c : Int) : Decidable (LetC c) := by unfold LetC; infer_instance
theorem letter1 (c : Int) : pleatref03_letter.f c = some (decide (LetC c)) := by
  by_cases h : LetC c
  · rw [decide_eq_true h]
    unfold LetC at h
    unfold pleatref03_letter.f
    repeat' split
    all_goals first
      | rfl
      | exact congrArg some (beq_iff_eq.mpr (by omega))
  · rw [decide_eq_false h]
    unfold LetC at h
    unfold pleatref03_letter.f
    repeat' split
    all_goals first
      | (exfalso; omega)
      | exact congrArg some (beq_eq_false_iff_ne.mpr (by omega))
def restS (s : ByteArray) : Nat → Nat → Bool
  | 0, _ => true
  | d + 1, i => decide (OkC i (bt s (i : Int))) && restS s d (i + 1)
theorem restS_iff (s : ByteArray) : ∀ d i, restS s d i = true ↔ ∀ j, i ≤ j → j < i + d → OkC j (bt s (j : Int))
  | 0, i => by simp [restS]; intro j h1 h2; omega
  | d + 1, i => by
    unfold restS
    rw [Bool.and_eq_true, restS_iff s d (i + 1), decide_eq_true_eq]
    constructor
    · rintro ⟨h1, h2⟩ j hj hk
      by_cases e : j = i
      · subst e; exact h1
      · exact h2 j (by omega) (by omega)
    · intro h
      exact ⟨h i (by omega) (by omega), fun j hj hk => h j (by omega) (by omega)⟩
theorem name3 (s : ByteArray) : Ev (fun k => pleatref03_Name.f k s) (nameS s) := by
  unfold pleatref03_Name.f
  refine Ev.ite2 (fun h => ?_) (fun h => ?_)
  · refine Ev.succ ?_
    simp only [pleatref03_Name.j0, if_true]
    refine Ev.val ?_
    unfold nameS
    exact (decide_eq_false (by omega)).symm
  refine Ev.ite2 (fun h2 => ?_) (fun h2 => ?_)
  · refine Ev.succ ?_
    simp only [pleatref03_Name.j0, if_true]
    refine Ev.val ?_
    unfold nameS
    exact (decide_eq_false (by omega)).symm
  refine Ev.iteT (by omega) (Ev.bind0 (letter1 _) ?_)
  by_cases c : LetC (bt s 0)
  · rw [decide_eq_true c]
    have hl : ∀ d i : Nat, 0 < i → i + d = s.size → Ev (fun k => pleatref03_Name.l0 k s (i : Int)) (restS s d i) := by
      intro d
      induction d with
      | zero => intro i hp hi; exact Ev.succ (Ev.iteF (by omega) (Ev.val rfl))
      | succ d ih =>
        intro i hp hi
        have IH := ih (i + 1) (by omega) (by omega)
        have hw := wrapS (i := i) (n := s.size) (by omega) (by omega)
        refine Ev.succ (Ev.iteT (by omega) (Ev.iteT (by omega) (Ev.bind0 (letter1 _) ?_)))
        simp only [hw]
        unfold restS
        refine Ev.ite2 (fun h => ?_) (fun h => ?_)
        · rw [decide_eq_true_eq] at h
          unfold LetC at h
          rw [decide_eq_true (show OkC i (bt s (i : Int)) by unfold OkC; omega), Bool.true_and]
          exact IH
        · rw [decide_eq_true_eq] at h
          unfold LetC at h
          refine Ev.ite2 (fun h3 => Ev.ite2 (fun h4 => ?_) (fun h4 => Ev.ite2 (fun h5 => ?_) (fun h5 => Ev.val ?_))) (fun h3 => Ev.ite2 (fun h5 => ?_) (fun h5 => Ev.val ?_))
          · rw [decide_eq_true (show OkC i (bt s (i : Int)) by unfold OkC; omega), Bool.true_and]
            exact IH
          · rw [decide_eq_true (show OkC i (bt s (i : Int)) by unfold OkC; omega), Bool.true_and]
            exact IH
          · rw [decide_eq_false (show ¬ OkC i (bt s (i : Int)) by unfold OkC; omega), Bool.false_and]
          · rw [decide_eq_true (show OkC i (bt s (i : Int)) by unfold OkC; omega), Bool.true_and]
            exact IH
          · rw [decide_eq_false (show ¬ OkC i (bt s (i : Int)) by unfold OkC; omega), Bool.false_and]
    refine Ev.succ ?_
    simp only [pleatref03_Name.j0, Bool.not_true, Bool.false_eq_true, if_false]
    refine (hl (s.size - 1) 1 (by omega) (by omega)).to ?_
    unfold nameS
    rw [Bool.eq_iff_iff, restS_iff, decide_eq_true_eq]
    constructor
    · intro hr
      refine ⟨by omega, by omega, fun j hj => ?_⟩
      by_cases e : j = 0
      · subst e
        unfold LetC at c
        unfold OkC
        simp only [Int.natCast_zero]
        omega
      · exact hr j (by omega) (by omega)
    · rintro ⟨_, _, hr⟩ j h1 h2
      exact hr j (by omega)
  · rw [decide_eq_false c]
    refine Ev.succ ?_
    simp only [pleatref03_Name.j0, Bool.not_false, if_true]
    refine Ev.val ?_
    unfold nameS
    refine (decide_eq_false (fun hall => c ?_)).symm
    have := hall.2.2 0 (by omega)
    unfold OkC at this
    simp only [Int.natCast_zero] at this
    unfold LetC
    omega

section
variable (nm : ByteArray) (code : List Int) (dat : Int) (data : List Int) (syms : List Sym) (rels : List Rel)
theorem size3 : Ev (fun k => pleatref03_size.f k nm code dat data syms rels) (sizeS nm code dat data syms.length rels.length) := by
  have h := size_eq nm code dat data syms rels
  unfold object_size.f object_Name.f at h
  simp only [Option.bind_some] at h
  unfold pleatref03_size.f
  exact Ev.bind (name3 nm) (h ▸ Ev.now _)
theorem symbols3 (hl : syms.length ≤ 1000000) : Ev (fun k => pleatref03_symbols.f k nm code dat data syms rels) (symsS syms (code.length : Int)) := by
  unfold pleatref03_symbols.f
  refine Ev.upto (g := fun k i => pleatref03_symbols.l0 k i nm code dat data syms rels) (n := syms.length) (fun i => ∀ j, j < i → symE syms (code.length : Int) j = 0) (fun i hi hz IH => ?_) (fun hz => ?_) 0 (by omega) (fun j hj => absurd hj (Nat.not_lt_zero _))
  · have hse := symE_eq syms (code.length : Int) i
    have hbad : symE syms (code.length : Int) i ≠ 0 → symsS syms (code.length : Int) = (symE syms (code.length : Int) i, (i : Int)) := fun hne => firstS_at hi hz hne
    have hgo : symE syms (code.length : Int) i = 0 → _ := fun h0 => IH (fun j hj => by
      by_cases e : j = i
      · rw [e]; exact h0
      · exact hz j (by omega))
    clear IH hz
    have hos := ofN_seen hi
    rw [sy_at hi] at hos
    rw [sy_at hi] at hse
    have hlen : (syms.length : Int) ≤ 1000000 := by omega
    refine Ev.succ (Ev.iteT (by omega) (Ev.iteT (by omega) ?_))
    simp only [sy_get hi, wrapS hi (by omega)]
    generalize hs : syms[i] = s at hos hse ⊢
    obtain ⟨sn, sk, sa⟩ := s
    simp only at hos hse ⊢
    generalize symE syms (code.length : Int) i = g at hse hbad hgo
    refine Ev.bind (name3 sn) (Ev.ite2 (fun h => ?_) (fun h => ?_))
    · rw [if_pos h] at hse
      refine Ev.bind (ofo2 syms (by omega) nm code dat data rels sn) (Ev.ite2 (fun h2 => ?_) (fun h2 => ?_))
      · rw [if_neg (by rw [hos.1 h2]; decide)] at hse
        refine Ev.ite2 (fun h3 => ?_) (fun h3 => ?_)
        · rw [if_pos h3] at hse
          refine Ev.succ ?_
          simp only [pleatref03_symbols.j1, if_true]
          exact Ev.val (by rw [hbad (by rw [hse]; decide), hse])
        · rw [if_neg h3] at hse
          refine Ev.succ ?_
          simp only [pleatref03_symbols.j1, decide_eq_true_eq]
          refine Ev.ite2 (fun h4 => ?_) (fun h4 => ?_)
          · rw [if_pos h4] at hse
            exact Ev.val (by rw [hbad (by rw [hse]; decide), hse])
          · rw [if_neg h4] at hse
            refine Ev.ite2 (fun h5 => ?_) (fun h5 => ?_)
            · rw [if_pos h5] at hse
              exact Ev.val (by rw [hbad (by rw [hse]; decide), hse])
            rw [if_neg h5] at hse
            refine Ev.ite2 (fun h6 => ?_) (fun h6 => ?_)
            · rw [if_pos h6] at hse
              exact Ev.val (by rw [hbad (by rw [hse]; decide), hse])
            rw [if_neg h6] at hse
            refine Ev.ite2 (fun h7 => Ev.ite2 (fun h8 => ?_) (fun h8 => ?_)) (fun h7 => ?_)
            · rw [if_pos h7, if_pos h8] at hse
              simp only [wrapS hi (show syms.length ≤ 1000000000 by omega)]
              exact hgo hse
            · rw [if_pos h7, if_neg h8] at hse
              exact Ev.val (by rw [hbad (by rw [hse]; decide), hse])
            · rw [if_neg h7] at hse
              simp only [wrapS hi (show syms.length ≤ 1000000000 by omega)]
              exact hgo hse
      · rw [if_pos (by
          rw [← Bool.not_eq_false]
          exact fun e => h2 (hos.2 e))] at hse
        exact Ev.val (by rw [hbad (by rw [hse]; decide), hse])
    · rw [if_neg h] at hse
      exact Ev.val (by rw [hbad (by rw [hse]; decide), hse])
  · exact Ev.succ (Ev.iteF (by omega) (Ev.val (firstS_zero hz).symm))
theorem relocs3 (hw : wordsO code = true) (hc : code.length ≤ 1000000) (hl : rels.length ≤ 1000000) : Ev (fun k => pleatref03_relocs.f k nm code dat data syms rels) (firstS (relE code (syms.length : Int) rels) rels.length rels.length) := by
  unfold pleatref03_relocs.f
  refine Ev.upto (g := fun k i => pleatref03_relocs.l0 k i nm code dat data syms rels) (n := rels.length) (fun i => ∀ j, j < i → relE code (syms.length : Int) rels j = 0) (fun i hi hz IH => ?_) (fun hz => ?_) 0 (by omega) (fun j hj => absurd hj (Nat.not_lt_zero _))
  · have hse := relE_eq code (syms.length : Int) rels i
    have hlo := lastR_lo _ _ _ i hz
    have hbad : relE code (syms.length : Int) rels i = 24 → firstS (relE code (syms.length : Int) rels) rels.length rels.length = (24, (i : Int)) := fun h24 => by rw [firstS_at hi hz (by rw [h24]; decide), h24]
    have hgo : relE code (syms.length : Int) rels i = 0 → _ := fun h0 => IH (fun j hj => by
      by_cases e : j = i
      · rw [e]; exact h0
      · exact hz j (by omega))
    clear IH hz
    rw [rl_at hi] at hse
    have hprev : 0 < i → lastR rels i = (rd_T130 rels (wrap64 ((i : Int) - 1))).f0 := fun hp => by
      obtain ⟨m, rfl⟩ : ∃ m, i = m + 1 := ⟨i - 1, by omega⟩
      rw [show wrap64 (((m + 1 : Nat) : Int) - 1) = (m : Int) by rw [wrap64_id (by omega) (by omega)]; omega]
      rfl
    have hw1 : 0 < i → wrap64 ((i : Int) - 1) = (i : Int) - 1 := fun hp => wrap64_id (by omega) (by omega)
    refine Ev.succ (Ev.iteT (by omega) (Ev.iteT (by omega) ?_))
    simp only [rl_get hi]
    generalize hs : rels[i] = s at hse ⊢
    obtain ⟨sa, sm⟩ := s
    simp only at hse ⊢
    have bad : ∀ {c : Bool}, c = true → relE code (syms.length : Int) rels i = 24 → Ev (fun k => pleatref03_relocs.j1 k (i : Int) c nm code dat data syms rels sa sm) (firstS (relE code (syms.length : Int) rels) rels.length rels.length) := fun hc h24 => by
      subst hc
      refine Ev.succ ?_
      simp only [pleatref03_relocs.j1, if_true]
      exact Ev.val (hbad h24).symm
    have tail : ¬ sa ≤ lastR rels i → ¬ sa < 0 → ¬ sa ≥ (code.length : Int) → Ev (fun k => if sm < 0 then pleatref03_relocs.j1 k (i : Int) true nm code dat data syms rels sa sm else pleatref03_relocs.j1 k (i : Int) (decide (sm ≥ (syms.length : Int))) nm code dat data syms rels sa sm) (firstS (relE code (syms.length : Int) rels) rels.length rels.length) := fun n1 n2 n3 => by
      rw [if_neg n1, if_neg n3] at hse
      refine Ev.ite2 (fun h => bad rfl (by rw [hse, if_pos h])) (fun h => ?_)
      rw [if_neg h] at hse
      by_cases h4 : sm ≥ (syms.length : Int)
      · exact bad (decide_eq_true h4) (by rw [hse, if_pos h4])
      rw [if_neg h4] at hse
      rw [decide_eq_false h4]
      have hxr : 0 ≤ rd code sa ∧ rd code sa < 4294967296 := by
        rw [show sa = ((sa.toNat : Nat) : Int) by omega, rd_get (by omega)]
        exact wordsO_at hw (List.getElem_mem _)
      refine Ev.succ ?_
      simp only [pleatref03_relocs.j1, Bool.false_eq_true, if_false]
      refine Ev.iteT (by omega) (Ev.iteT (by omega) (Ev.bind (tgt2 hxr.1 hxr.2) (Ev.ite2 (fun h5 => Ev.ite2 (fun h6 => ?_) (fun h6 => ?_)) (fun h5 => ?_))))
      · rw [if_pos h5, if_pos h6] at hse
        simp only [wrapS hi (show rels.length ≤ 1000000000 by omega)]
        exact hgo hse
      · rw [if_pos h5, if_neg h6] at hse
        exact Ev.val (hbad hse).symm
      · rw [if_neg h5] at hse
        exact Ev.val (hbad hse).symm
    refine Ev.ite2 (fun h1 => bad rfl (by rw [hse, if_pos (by omega)])) (fun h1 => ?_)
    refine Ev.ite2 (fun h2 => bad rfl ?_) (fun h2 => ?_)
    · rw [hse]
      by_cases h3 : sa ≤ lastR rels i
      · rw [if_pos h3]
      · rw [if_neg h3, if_pos h2]
    refine Ev.ite2 (fun h3 => ?_) (fun h3 => ?_)
    · have hp : 0 < i := by omega
      rw [hw1 hp] at hprev ⊢
      have hprev := hprev hp
      refine Ev.iteT (by omega) (Ev.iteT (by omega) ?_)
      simp only [← hprev]
      refine Ev.ite2 (fun h4 => bad rfl (by rw [hse, if_pos h4])) (fun h4 => tail h4 h1 h2)
    · obtain rfl : i = 0 := by omega
      exact tail (by show ¬ sa ≤ -1; omega) h1 h2
  · exact Ev.succ (Ev.iteF (by omega) (Ev.val (firstS_zero hz).symm))
theorem mark_of {l : List Rel} {k : Nat} : ∀ {n : Nat}, markB l n k = true → ∃ j, j < n ∧ k = (rl l j).f0.toNat
  | 0, h => by cases h
  | n + 1, h => by
    have h : (decide (k = (rl l n).f0.toNat) || markB l n k) = true := h
    rw [Bool.or_eq_true, decide_eq_true_eq] at h
    rcases h with h | h
    · exact ⟨n, by omega, h⟩
    · obtain ⟨j, hj, e⟩ := mark_of h
      exact ⟨j, by omega, e⟩
theorem relE_ok {code : List Int} {ns : Int} {l : List Rel} {i : Nat} (h : relE code ns l i = 0) : lastR l i < (rl l i).f0 ∧ (rl l i).f0 < (code.length : Int) ∧ 0 ≤ (rl l i).f1 ∧ (rl l i).f1 < ns ∧ (tgtS (rd code (rl l i).f0)).2 = true ∧ (tgtS (rd code (rl l i).f0)).1 = 0 := by
  rw [relE_eq] at h
  split at h
  · exact absurd h (by decide)
  split at h
  · exact absurd h (by decide)
  split at h
  · exact absurd h (by decide)
  split at h
  · exact absurd h (by decide)
  split at h
  · rename_i h5
    split at h
    · rename_i h6
      exact ⟨by omega, by omega, by omega, by omega, h5, h6⟩
    · exact absurd h (by decide)
  · exact absurd h (by decide)
theorem scan_plain {code : List Int} {ns : Int} {l : List Rel} (hz : ∀ j, j < l.length → relE code ns l j = 0) (k : Nat) : scanE code (markB l l.length) k = if (tgtS (rd code (k : Int))).2 = true then (if (tgtS (rd code (k : Int))).1 > (code.length : Int) then 22 else 0) else 0 := by
  rw [scanE_eq]
  by_cases h : (tgtS (rd code (k : Int))).2 = true
  · rw [if_pos h, if_pos h]
    by_cases hn : markB l l.length k = true
    · rw [if_pos hn]
      obtain ⟨j, hj, e⟩ := mark_of hn
      obtain ⟨h1, _, _, _, _, h6⟩ := relE_ok (hz j hj)
      have hlo := lastR_lo code ns l j (fun q hq => hz q (by omega))
      rw [show ((rl l j).f0) = (k : Int) by omega] at h6
      rw [if_neg (by omega)]
    · rw [if_neg hn]
  · rw [if_neg h, if_neg h]
theorem firstS_iff {g : Nat → Int} {n : Nat} (h : (firstS g n n).1 = 0) : ∀ j, j < n → g j = 0 := by
  intro j hj
  have key : ∀ d i, i + d = n → (∀ q, q < i → g q = 0) → ∀ q, q < n → g q = 0 := by
    intro d
    induction d with
    | zero => intro i hi hz q hq; exact hz q (by omega)
    | succ d ih =>
      intro i hi hz q hq
      by_cases e : g i = 0
      · exact ih (i + 1) (by omega) (fun p hp => by
          by_cases e2 : p = i
          · rw [e2]; exact e
          · exact hz p (by omega)) q hq
      · rw [firstS_at (by omega) hz e] at h
        exact absurd h e
  exact key n 0 (by omega) (fun q hq => absurd hq (Nat.not_lt_zero _)) j hj
theorem chk3 (hw : wordsO code = true) (hs : syms.length ≤ 1000000) (hc : code.length ≤ 1000000) (hl : rels.length ≤ 1000000) : Ev (fun k => pleatref03_Check.f k nm code dat data syms rels) (chkO nm code dat data syms rels) := by
  unfold pleatref03_Check.f chkO
  refine Ev.bind (size3 nm code dat data syms rels) (Ev.ite2 (fun h => ?_) (fun h => Ev.val (by rw [if_neg h])))
  rw [if_pos h]
  refine Ev.bind (symbols3 nm code dat data syms rels hs) (Ev.ite2 (fun h => ?_) (fun h => Ev.val (by rw [if_neg h])))
  rw [if_pos h]
  refine Ev.bind (relocs3 nm code dat data syms rels hw hc hl) (Ev.ite2 (fun h => ?_) (fun h => ?_))
  · have hz := firstS_iff h
    have hrs : relocsS code (syms.length : Int) rels = scanS (scanE code (markB rels rels.length)) code.length code.length := relocs_scan hz
    have hpl := scan_plain hz
    have hpair : (if (relocsS code (syms.length : Int) rels).1 = 0 then ((0 : Int), (0 : Int)) else relocsS code (syms.length : Int) rels) = relocsS code (syms.length : Int) rels := by
      rw [hrs]
      have key : ∀ d i, i + d = code.length → (∀ q, q < i → scanE code (markB rels rels.length) q = 0) → (if (scanS (scanE code (markB rels rels.length)) code.length code.length).1 = 0 then ((0 : Int), (0 : Int)) else scanS (scanE code (markB rels rels.length)) code.length code.length) = scanS (scanE code (markB rels rels.length)) code.length code.length := by
        intro d
        induction d with
        | zero => intro i hi hq; rw [scanS_zero (fun q h => hq q (by omega)), if_pos rfl]
        | succ d ih =>
          intro i hi hq
          by_cases e : scanE code (markB rels rels.length) i = 0
          · exact ih (i + 1) (by omega) (fun p hp => by
              by_cases e2 : p = i
              · rw [e2]; exact e
              · exact hq p (by omega))
          · rw [scanS_at (by omega) hq e, if_neg e]
      exact key code.length 0 (by omega) (fun q hq => absurd hq (Nat.not_lt_zero _))
    rw [hpair, hrs]
    refine Ev.upto (g := fun k i => pleatref03_Check.l0 k i nm code dat data syms rels) (n := code.length) (fun i => ∀ j, j < i → scanE code (markB rels rels.length) j = 0) (fun i hi hq IH => ?_) (fun hq => ?_) 0 (by omega) (fun j hj => absurd hj (Nat.not_lt_zero _))
    · have hse := hpl i
      have hgo : scanE code (markB rels rels.length) i = 0 → _ := fun h0 => IH (fun j hj => by
        by_cases e : j = i
        · rw [e]; exact h0
        · exact hq j (by omega))
      have hxr : 0 ≤ rd code (i : Int) ∧ rd code (i : Int) < 4294967296 := by
        rw [rd_get hi]
        exact wordsO_at hw (List.getElem_mem _)
      refine Ev.succ (Ev.iteT (by omega) (Ev.iteT (by omega) (Ev.bind (tgt2 hxr.1 hxr.2) (Ev.ite2 (fun h1 => Ev.ite2 (fun h2 => ?_) (fun h2 => ?_)) (fun h1 => ?_)))))
      · rw [if_pos h1, if_pos h2] at hse
        refine Ev.val ?_
        rw [scanS_at hi hq (by rw [hse]; decide), hse, wrap64_id (by omega) (by omega)]
      · rw [if_pos h1, if_neg h2] at hse
        simp only [wrapS hi (show code.length ≤ 1000000000 by omega)]
        exact hgo hse
      · rw [if_neg h1] at hse
        simp only [wrapS hi (show code.length ≤ 1000000000 by omega)]
        exact hgo hse
    · exact Ev.succ (Ev.iteF (by omega) (Ev.val (scanS_zero hq).symm))
  · refine Ev.val ?_
    have e : relocsS code (syms.length : Int) rels = firstS (relE code (syms.length : Int) rels) rels.length rels.length := by
      unfold relocsS
      rw [if_neg h]
    rw [e, if_neg h]
end
end Go.Proofs.Ytiaohbbafaaibaa.P

/- The statement ObjectNames: of every text its law's Go function answers true; no further condition. This text: the law over numbers and lists, no memory. -/
namespace Go.Proofs.Ytiaohbbafaaibaa.P
open Go.RowKit Go.Proofs.YtiaohbbafaaibaaW.PrintWords Go.Proofs.YtiaohbbafaaibaaW.PrintLast Go.Proofs.YtiaohbbafaaibaaW.PrintMore Go.Proofs.Ytiaohbbafaaibaa.Opn
set_option linter.unusedVariables false
set_option linter.unusedSimpArgs false

set_option maxRecDepth 100000 in
theorem works3 : Ev (fun k => pleatlaw03_lives.f k) true := Ev.of (fun k => pleatlaw03_lives.mono k) (k := 20) (by kernel_rfl)
theorem pureObjectNames : pleatlaw03_ObjectNames.Pure := by
  intro s hs
  refine Ev.rounds ?_
  unfold pleatlaw03_ObjectNames.f pleatref00_Long.f object_Name.f
  refine Ev.bind0 rfl (Ev.ite2 (fun h => Ev.val rfl) (fun h => ?_))
  refine Ev.bind0 rfl (Ev.bind (name3 s) (Ev.iteT (by simp) (Ev.bind works3 (Ev.val rfl))))

end Go.Proofs.Ytiaohbbafaaibaa.P
