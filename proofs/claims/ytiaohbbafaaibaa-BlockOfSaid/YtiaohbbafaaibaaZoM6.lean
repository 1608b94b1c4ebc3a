/- OWN TEXT and printed parts of this claim, laid together: P24, Ev, IsaL, BlkC, HMap. -/
import Derived.Test.YtiaohbbafaaibaaZoM0
import Derived.Test.YtiaohbbafaaibaaZoM5
import Derived.Test.YtiaohbbafaaibaaWWords
import Derived.OpenShut
import Derived.Test.YtiaohbbafaaibaaZoM1
import Derived.Test.YtiaohbbafaaibaaZoM3
import Derived.Test.YtiaohbbafaaibaaZoM4
import Derived.Test.YtiaohbbafaaibaaZoM2
import Derived.Maps.OwnSet
import Derived.WalkKit
/- What the Go functions named below come to, as plain functions, each with its proof; written by this session's prt.py over the kit's print. -/
namespace Go.Proofs.Ytiaohbbafaaibaa.P
open Go.RowKit Go.Proofs.YtiaohbbafaaibaaW.PrintWords Go.Proofs.YtiaohbbafaaibaaW.PrintLast Go.Proofs.YtiaohbbafaaibaaW.PrintMore
attribute [local go_sem] max2_int min2_int max_two min_two max_three min_three max_four min_four   -- for this text's walks alone
set_option linter.unusedVariables false
set_option linter.unusedSimpArgs false
/-! ### pleatref07_Check: function 63 -/
mutual
def pleatref07_Check.j0 : Nat → Int → Bool → List Int → Int → List Int → Option (Int × Int)
  | 0, _, _, _, _, _ => none
  | k + 1, x4, x27, x460000, x460001, x460002 => if x27 = true then (some (41, 0)) else (pleatref07_Check.l0 k x4 0 x460000 x460001 x460002)
def pleatref07_Check.l0 : Nat → Int → Int → List Int → Int → List Int → Option (Int × Int)
  | 0, _, _, _, _, _ => none
  | k + 1, x4, x5, x460000, x460001, x460002 => if x5 < x4 then (if 0 ≤ x5 then (if x5 < (x460000.length : Int) then ((pleatref02_Target.f k (rd x460000 x5)).bind fun bt461 => (if bt461.2 = true then (if bt461.1 ≥ x4 then (some (22, x5)) else (pleatref07_Check.l0 k x4 (wrap64 (x5 + 1)) x460000 x460001 x460002)) else (pleatref07_Check.l0 k x4 (wrap64 (x5 + 1)) x460000 x460001 x460002))) else (none)) else (none)) else (if 0 ≤ (wrap64 (x4 - 1)) then (if (wrap64 (x4 - 1)) < (x460000.length : Int) then ((pleatref02_Decode.f k (rd x460000 (wrap64 (x4 - 1)))).bind fun bt464 => (if bt464.1 = 0 then (some (0, 0)) else (if bt464.1 = 15 then (some (0, 0)) else (if bt464.1 = 19 then (some (0, 0)) else (if bt464.1 = 21 then (some (0, 0)) else (some (50, wrap64 (x4 - 1)))))))) else (none)) else (none))
end
def pleatref07_Check.f (k : Nat) (l0_0 : List Int) (a0_1 : Int) (l0_2 : List Int) : Option (Int × Int) := if (l0_0.length : Int) = 0 then (some (50, 0)) else (if (l0_0.length : Int) > 16384 then (some (42, 16384)) else (if (l0_2.length : Int) > 4096 then (some (25, 4096)) else (if a0_1 < 0 then (pleatref07_Check.j0 k (l0_0.length : Int) true l0_0 a0_1 l0_2) else (pleatref07_Check.j0 k (l0_0.length : Int) (decide (a0_1 ≥ (l0_0.length : Int))) l0_0 a0_1 l0_2))))
theorem pleatref07_Check.mono_l : ∀ k, (∀ y0 y1 y2 y3 y4, LeO (pleatref07_Check.j0 k y0 y1 y2 y3 y4) (pleatref07_Check.j0 (k + 1) y0 y1 y2 y3 y4)) ∧ (∀ y0 y1 y2 y3 y4, LeO (pleatref07_Check.l0 k y0 y1 y2 y3 y4) (pleatref07_Check.l0 (k + 1) y0 y1 y2 y3 y4))
  | 0 => ⟨fun _ _ _ _ _ r h => by simp [pleatref07_Check.j0] at h, fun _ _ _ _ _ r h => by simp [pleatref07_Check.l0] at h⟩
  | k + 1 => by
    obtain ⟨ih0, ih1⟩ := pleatref07_Check.mono_l k
    refine ⟨?_, ?_⟩
    · intro y0 y1 y2 y3 y4
      unfold pleatref07_Check.j0
      repeat' first
      | (with_reducible exact ih0 _ _ _ _ _)
      | (with_reducible exact ih1 _ _ _ _ _)
      | (with_reducible exact pleatref02_Decode.mono _ _)
      | (with_reducible exact pleatref02_Target.mono _ _)
      | (with_reducible exact LeO.refl _)
      | (with_reducible exact LeO.none _)
      | (with_reducible refine LeO.ite ?_ ?_)
      | (with_reducible refine LeO.bind ?_ (fun _ => ?_))
      | exact ih0 _ _ _ _ _
      | exact ih1 _ _ _ _ _
      | exact pleatref02_Decode.mono _ _
      | exact pleatref02_Target.mono _ _
      | exact LeO.none _
      | refine LeO.ite ?_ ?_
      | refine LeO.bind ?_ (fun _ => ?_)
    · intro y0 y1 y2 y3 y4
      unfold pleatref07_Check.l0
      repeat' first
      | (with_reducible exact ih0 _ _ _ _ _)
      | (with_reducible exact ih1 _ _ _ _ _)
      | (with_reducible exact pleatref02_Decode.mono _ _)
      | (with_reducible exact pleatref02_Target.mono _ _)
      | (with_reducible exact LeO.refl _)
      | (with_reducible exact LeO.none _)
      | (with_reducible refine LeO.ite ?_ ?_)
      | (with_reducible refine LeO.bind ?_ (fun _ => ?_))
      | exact ih0 _ _ _ _ _
      | exact ih1 _ _ _ _ _
      | exact pleatref02_Decode.mono _ _
      | exact pleatref02_Target.mono _ _
      | exact LeO.none _
      | refine LeO.ite ?_ ?_
      | refine LeO.bind ?_ (fun _ => ?_)
theorem pleatref07_Check.mono : ∀ a0 a1 a2 k, LeO (pleatref07_Check.f k a0 a1 a2) (pleatref07_Check.f (k + 1) a0 a1 a2) := by
  intro a0 a1 a2 k
  obtain ⟨ih0, ih1⟩ := pleatref07_Check.mono_l k
  unfold pleatref07_Check.f
  repeat' first
      | (with_reducible exact ih0 _ _ _ _ _)
      | (with_reducible exact ih1 _ _ _ _ _)
      | (with_reducible exact pleatref02_Decode.mono _ _)
      | (with_reducible exact pleatref02_Target.mono _ _)
      | (with_reducible exact LeO.refl _)
      | (with_reducible exact LeO.none _)
      | (with_reducible refine LeO.ite ?_ ?_)
      | (with_reducible refine LeO.bind ?_ (fun _ => ?_))
      | exact ih0 _ _ _ _ _
      | exact ih1 _ _ _ _ _
      | exact pleatref02_Decode.mono _ _
      | exact pleatref02_Target.mono _ _
      | exact LeO.none _
      | refine LeO.ite ?_ ?_
      | refine LeO.bind ?_ (fun _ => ?_)
set_option maxHeartbeats 8000000 in
set_option maxRecDepth 100000 in
theorem pleatref07_Check.calls (k : Nat) (A0_0 : Option Addr) (c0_0 : Nat) (l0_0 : List Int) (a0_1 : Int) (A0_2 : Option Addr) (c0_2 : Nat) (l0_2 : List Int) (r1 : Int) (r2 : Int) (w : World) (hr0_0 : Kd.C (Kd.int .u32) w A0_0 l0_0.length l0_0) (hc0_0 : l0_0.length ≤ c0_0) (hr0_2 : Kd.C (Kd.int .i64) w A0_2 l0_2.length l0_2) (hc0_2 : l0_2.length ≤ c0_2) (h : pleatref07_Check.f k l0_0 a0_1 l0_2 = some (r1, r2)) :
    Calls Try.prog 63 #[.agg #[.slice A0_0 l0_0.length c0_0, .int .i64 a0_1, .slice A0_2 l0_2.length c0_2]] w fun e w' => e = .returned (.tuple #[.int .i64 r1, .int .i64 r2]) ∧ Below w.heap.size w w' := by
  have hu69 := Try.underlying69
  have hu36 := Try.underlying36
  have hfl36_0 : ∀ (c0_ c1_ c2_ c3_ c4_ : Value) (W_ : World), (Instr.field 36 (.agg #[c0_, c1_, c2_, c3_, c4_]) 0).run Try.prog W_ = .ok c0_ W_ := fun _ _ _ _ _ _ => by kernel_rfl
  have HR0_0 := Aside0.mk hr0_0
  have HC0_0 := Aside0.mk hc0_0
  clear hr0_0 hc0_0
  have HR0_2 := Aside0.mk hr0_2
  have HC0_2 := Aside0.mk hc0_2
  clear hr0_2 hc0_2
  have HB := Aside0.mk (Below.refl w.heap.size w)
  have H : (if (l0_0.length : Int) = 0 then (some (50, 0)) else (if (l0_0.length : Int) > 16384 then (some (42, 16384)) else (if (l0_2.length : Int) > 4096 then (some (25, 4096)) else (if a0_1 < 0 then (pleatref07_Check.j0 k (l0_0.length : Int) true l0_0 a0_1 l0_2) else (pleatref07_Check.j0 k (l0_0.length : Int) (decide (a0_1 ≥ (l0_0.length : Int))) l0_0 a0_1 l0_2))))) = some (r1, r2) := h
  clear h
  by_cases c2 : (l0_0.length : Int) = 0
  · rw [if_pos c2] at H
    have c2b0 : ((l0_0.length : Int) == 0) = true := beq_iff_eq.mpr c2
    have c2b1 : ((l0_0.length : Int) != 0) = false := bne_eq_false_iff_eq.mpr c2
    clear c2
    simp only [Option.some.injEq, Prod.mk.injEq] at H
    obtain ⟨rfl, rfl⟩ := H
    go_enter Try.func63, Try.ntmps63
    go_wp2_with (first | ((with_reducible refine gate_dst (N := 1) rfl ?_); refine box_event ?hg (N := 1) ?hd (cs := #[.slice A0_0 l0_0.length c0_0, .int .i64 a0_1, .slice A0_2 l0_2.length c0_2]) (t := 69) ?hr ?_; (case hd => rfl); (case hg => rfl); (case hr => first | (go_simp; done) | (go_simp; rfl)); intro gb459 hg w3 hbox hb; have n0_ := Aside0.mk (below_step (by repeat (first | (with_reducible first | exact HB.out | apply below_alloc | apply pw_below_drewN | apply below_drew1) | exact HB.out)) hb); have n1_ := Aside0.mk (hbox); have n2_ := Aside0.mk ((by rw [hg]; exact (below_size (by repeat (first | (with_reducible first | exact HB.out | apply below_alloc | apply pw_below_drewN | apply below_drew1) | exact HB.out))) : w.heap.size ≤ gb459)); have n3_ := Aside0.mk ((by rw [hg]; exact (below_size (by repeat (first | (with_reducible first | exact HB.out | apply below_alloc | apply pw_below_drewN | apply below_drew1) | exact HB.out))) : w.heap.size ≤ gb459)); clear HB; have HB := n0_; have BK459 := n1_; have GW459 := n2_; have GE459 := n3_; clear n0_ n1_ n2_ n3_; clear hb hbox hg; have hcz4_0 : w3.cell? ⟨gb459, 0, none⟩ = some (.slice A0_0 l0_0.length c0_0) := (blk_cell BK459.out 0).trans rfl; have hcz4_1 : w3.cell? ⟨gb459, 1, none⟩ = some (.int .i64 a0_1) := (blk_cell BK459.out 1).trans rfl; have hcz4_2 : w3.cell? ⟨gb459, 2, none⟩ = some (.slice A0_2 l0_2.length c0_2) := (blk_cell BK459.out 2).trans rfl; have hfz4_0 := blk_frozen BK459.out 0; have hfz4_1 := blk_frozen BK459.out 1; have hfz4_2 := blk_frozen BK459.out 2))
    go_ret2
    exact ⟨by first | rfl | (simp [errW_none, errW_some] <;> rfl) | (simp [*, errW_none, errW_some] <;> rfl), by repeat (first | (with_reducible first | exact HB.out | apply below_alloc | apply pw_below_drewN | apply below_drew1 | refine below_set ?_ GE459.out) | exact HB.out)⟩
  · rw [if_neg c2] at H
    have c2b0 : ((l0_0.length : Int) == 0) = false := beq_eq_false_iff_ne.mpr c2
    have c2b1 : ((l0_0.length : Int) != 0) = true := bne_iff_ne.mpr c2
    have c2b2 : ¬ (l0_0 = []) := fun h_ => c2 (by rw [h_]; rfl)
    by_cases c5 : (l0_0.length : Int) > 16384
    · rw [if_pos c5] at H
      have c5b0 : decide (16384 < (l0_0.length : Int)) = true := decide_eq_true c5
      have c5b1 : decide (16384 < l0_0.length) = true := decide_eq_true (by omega)
      clear c5
      simp only [Option.some.injEq, Prod.mk.injEq] at H
      obtain ⟨rfl, rfl⟩ := H
      go_enter Try.func63, Try.ntmps63
      go_wp2_with (first | ((with_reducible refine gate_dst (N := 1) rfl ?_); refine box_event ?hg (N := 1) ?hd (cs := #[.slice A0_0 l0_0.length c0_0, .int .i64 a0_1, .slice A0_2 l0_2.length c0_2]) (t := 69) ?hr ?_; (case hd => rfl); (case hg => rfl); (case hr => first | (go_simp; done) | (go_simp; rfl)); intro gb459 hg w6 hbox hb; have n0_ := Aside0.mk (below_step (by repeat (first | (with_reducible first | exact HB.out | apply below_alloc | apply pw_below_drewN | apply below_drew1) | exact HB.out)) hb); have n1_ := Aside0.mk (hbox); have n2_ := Aside0.mk ((by rw [hg]; exact (below_size (by repeat (first | (with_reducible first | exact HB.out | apply below_alloc | apply pw_below_drewN | apply below_drew1) | exact HB.out))) : w.heap.size ≤ gb459)); have n3_ := Aside0.mk ((by rw [hg]; exact (below_size (by repeat (first | (with_reducible first | exact HB.out | apply below_alloc | apply pw_below_drewN | apply below_drew1) | exact HB.out))) : w.heap.size ≤ gb459)); clear HB; have HB := n0_; have BK459 := n1_; have GW459 := n2_; have GE459 := n3_; clear n0_ n1_ n2_ n3_; clear hb hbox hg; have hcz7_0 : w6.cell? ⟨gb459, 0, none⟩ = some (.slice A0_0 l0_0.length c0_0) := (blk_cell BK459.out 0).trans rfl; have hcz7_1 : w6.cell? ⟨gb459, 1, none⟩ = some (.int .i64 a0_1) := (blk_cell BK459.out 1).trans rfl; have hcz7_2 : w6.cell? ⟨gb459, 2, none⟩ = some (.slice A0_2 l0_2.length c0_2) := (blk_cell BK459.out 2).trans rfl; have hfz7_0 := blk_frozen BK459.out 0; have hfz7_1 := blk_frozen BK459.out 1; have hfz7_2 := blk_frozen BK459.out 2))
      go_ret2
      exact ⟨by first | rfl | (simp [errW_none, errW_some] <;> rfl) | (simp [*, errW_none, errW_some] <;> rfl), by repeat (first | (with_reducible first | exact HB.out | apply below_alloc | apply pw_below_drewN | apply below_drew1 | refine below_set ?_ GE459.out) | exact HB.out)⟩
    · rw [if_neg c5] at H
      have c5b0 : decide (16384 < (l0_0.length : Int)) = false := decide_eq_false c5
      have c5b1 : decide (16384 < l0_0.length) = false := decide_eq_false (by omega)
      clear c5
      by_cases c8 : (l0_2.length : Int) > 4096
      · rw [if_pos c8] at H
        have c8b0 : decide (4096 < (l0_2.length : Int)) = true := decide_eq_true c8
        have c8b1 : decide (4096 < l0_2.length) = true := decide_eq_true (by omega)
        clear c8
        simp only [Option.some.injEq, Prod.mk.injEq] at H
        obtain ⟨rfl, rfl⟩ := H
        go_enter Try.func63, Try.ntmps63
        go_wp2_with (first | ((with_reducible refine gate_dst (N := 1) rfl ?_); refine box_event ?hg (N := 1) ?hd (cs := #[.slice A0_0 l0_0.length c0_0, .int .i64 a0_1, .slice A0_2 l0_2.length c0_2]) (t := 69) ?hr ?_; (case hd => rfl); (case hg => rfl); (case hr => first | (go_simp; done) | (go_simp; rfl)); intro gb459 hg w9 hbox hb; have n0_ := Aside0.mk (below_step (by repeat (first | (with_reducible first | exact HB.out | apply below_alloc | apply pw_below_drewN | apply below_drew1) | exact HB.out)) hb); have n1_ := Aside0.mk (hbox); have n2_ := Aside0.mk ((by rw [hg]; exact (below_size (by repeat (first | (with_reducible first | exact HB.out | apply below_alloc | apply pw_below_drewN | apply below_drew1) | exact HB.out))) : w.heap.size ≤ gb459)); have n3_ := Aside0.mk ((by rw [hg]; exact (below_size (by repeat (first | (with_reducible first | exact HB.out | apply below_alloc | apply pw_below_drewN | apply below_drew1) | exact HB.out))) : w.heap.size ≤ gb459)); clear HB; have HB := n0_; have BK459 := n1_; have GW459 := n2_; have GE459 := n3_; clear n0_ n1_ n2_ n3_; clear hb hbox hg; have hcz10_0 : w9.cell? ⟨gb459, 0, none⟩ = some (.slice A0_0 l0_0.length c0_0) := (blk_cell BK459.out 0).trans rfl; have hcz10_1 : w9.cell? ⟨gb459, 1, none⟩ = some (.int .i64 a0_1) := (blk_cell BK459.out 1).trans rfl; have hcz10_2 : w9.cell? ⟨gb459, 2, none⟩ = some (.slice A0_2 l0_2.length c0_2) := (blk_cell BK459.out 2).trans rfl; have hfz10_0 := blk_frozen BK459.out 0; have hfz10_1 := blk_frozen BK459.out 1; have hfz10_2 := blk_frozen BK459.out 2))
        go_ret2
        exact ⟨by first | rfl | (simp [errW_none, errW_some] <;> rfl) | (simp [*, errW_none, errW_some] <;> rfl), by repeat (first | (with_reducible first | exact HB.out | apply below_alloc | apply pw_below_drewN | apply below_drew1 | refine below_set ?_ GE459.out) | exact HB.out)⟩
      · rw [if_neg c8] at H
        have c8b0 : decide (4096 < (l0_2.length : Int)) = false := decide_eq_false c8
        have c8b1 : decide (4096 < l0_2.length) = false := decide_eq_false (by omega)
        clear c8
        have HC11 := Aside0.mk H
        clear H
        go_enter Try.func63, Try.ntmps63
        go_upto_region 8 with (first | ((with_reducible refine gate_dst (N := 1) rfl ?_); refine box_event ?hg (N := 1) ?hd (cs := #[.slice A0_0 l0_0.length c0_0, .int .i64 a0_1, .slice A0_2 l0_2.length c0_2]) (t := 69) ?hr ?_; (case hd => rfl); (case hg => rfl); (case hr => first | (go_simp; done) | (go_simp; rfl)); intro gb459 hg w12 hbox hb; have n0_ := Aside0.mk (below_step (by repeat (first | (with_reducible first | exact HB.out | apply below_alloc | apply pw_below_drewN | apply below_drew1) | exact HB.out)) hb); have n1_ := Aside0.mk (hbox); have n2_ := Aside0.mk ((by rw [hg]; exact (below_size (by repeat (first | (with_reducible first | exact HB.out | apply below_alloc | apply pw_below_drewN | apply below_drew1) | exact HB.out))) : w.heap.size ≤ gb459)); have n3_ := Aside0.mk ((by rw [hg]; exact (below_size (by repeat (first | (with_reducible first | exact HB.out | apply below_alloc | apply pw_below_drewN | apply below_drew1) | exact HB.out))) : w.heap.size ≤ gb459)); clear HB; have HB := n0_; have BK459 := n1_; have GW459 := n2_; have GE459 := n3_; clear n0_ n1_ n2_ n3_; clear hb hbox hg; have hcz13_0 : w12.cell? ⟨gb459, 0, none⟩ = some (.slice A0_0 l0_0.length c0_0) := (blk_cell BK459.out 0).trans rfl; have hcz13_1 : w12.cell? ⟨gb459, 1, none⟩ = some (.int .i64 a0_1) := (blk_cell BK459.out 1).trans rfl; have hcz13_2 : w12.cell? ⟨gb459, 2, none⟩ = some (.slice A0_2 l0_2.length c0_2) := (blk_cell BK459.out 2).trans rfl; have hfz13_0 := blk_frozen BK459.out 0; have hfz13_1 := blk_frozen BK459.out 1; have hfz13_2 := blk_frozen BK459.out 2))
        (try simp only [Act.put, List.setIfInBounds_toArray, List.set_cons_zero, List.set_cons_succ])
        go_cut [27] (fun v27 wc => ∃ (kq : Nat) (x27_10 : Bool), v27 = .bool x27_10 ∧ Aside0 (pleatref07_Check.j0 kq (l0_0.length : Int) x27_10 l0_0 a0_1 l0_2 = some (r1, r2)) ∧ Aside0 (kq ≤ k) ∧ Aside0 (wc.heap[gb459]? = some (.cells #[(.slice A0_0 l0_0.length c0_0), .int .i64 a0_1, (.slice A0_2 l0_2.length c0_2)] 69 (0, 0))) ∧ Aside0 (Below w.heap.size w wc))
        case first =>
          have H := HC11.out
          clear HC11
          by_cases c14 : a0_1 < 0
          · rw [if_pos c14] at H
            have c14b0 : decide (a0_1 < 0) = true := decide_eq_true c14
            clear c14
            (first | rw [c14b0] | (simp only [i64_w, i32_w]; rw [c14b0]) | skip)
            have H' := Aside0.mk H
            clear H
            have hcz15_0 : w12.cell? ⟨gb459, 0, none⟩ = some (.slice A0_0 l0_0.length c0_0) := (blk_cell BK459.out 0).trans rfl
            have hcz15_1 : w12.cell? ⟨gb459, 1, none⟩ = some (.int .i64 a0_1) := (blk_cell BK459.out 1).trans rfl
            have hcz15_2 : w12.cell? ⟨gb459, 2, none⟩ = some (.slice A0_2 l0_2.length c0_2) := (blk_cell BK459.out 2).trans rfl
            have hfz15_0 := blk_frozen BK459.out 0
            have hfz15_1 := blk_frozen BK459.out 1
            have hfz15_2 := blk_frozen BK459.out 2
            go_wp2
            go_meet
            case rel => exact ⟨_, (true), (by first | rfl | (simp; done) | (simp [*]; done)), H', ⟨by first | omega | exact Nat.le_refl _⟩, ⟨by (with_reducible repeat (first | refine blk_drewN ?_ _ | refine blk_drew ?_ | refine blk_alloc ?_ _)); exact BK459.out⟩, ⟨by repeat (first | (with_reducible first | exact HB.out | apply below_alloc | apply pw_below_drewN | apply below_drew1 | refine below_set ?_ GE459.out) | exact HB.out)⟩⟩
          · rw [if_neg c14] at H
            have c14b0 : decide (a0_1 < 0) = false := decide_eq_false c14
            clear c14
            (first | rw [c14b0] | (simp only [i64_w, i32_w]; rw [c14b0]) | skip)
            have H' := Aside0.mk H
            clear H
            have hcz16_0 : w12.cell? ⟨gb459, 0, none⟩ = some (.slice A0_0 l0_0.length c0_0) := (blk_cell BK459.out 0).trans rfl
            have hcz16_1 : w12.cell? ⟨gb459, 1, none⟩ = some (.int .i64 a0_1) := (blk_cell BK459.out 1).trans rfl
            have hcz16_2 : w12.cell? ⟨gb459, 2, none⟩ = some (.slice A0_2 l0_2.length c0_2) := (blk_cell BK459.out 2).trans rfl
            have hfz16_0 := blk_frozen BK459.out 0
            have hfz16_1 := blk_frozen BK459.out 1
            have hfz16_2 := blk_frozen BK459.out 2
            go_wp2
            go_meet
            case rel => exact ⟨_, (decide (a0_1 ≥ (l0_0.length : Int))), (by first | rfl | (simp; done) | (simp [*]; done)), H', ⟨by first | omega | exact Nat.le_refl _⟩, ⟨by (with_reducible repeat (first | refine blk_drewN ?_ _ | refine blk_drew ?_ | refine blk_alloc ?_ _)); exact BK459.out⟩, ⟨by repeat (first | (with_reducible first | exact HB.out | apply below_alloc | apply pw_below_drewN | apply below_drew1 | refine below_set ?_ GE459.out) | exact HB.out)⟩⟩
        case rest =>
          clear HC11
          try clear c1
          try clear c2
          try clear c2b0
          try clear c2b1
          try clear c2b2
          try clear p2
          try clear c5
          try clear c5b0
          try clear c5b1
          try clear c6
          try clear c8
          try clear c8b0
          try clear c8b1
          try clear c14
          try clear c14b0
          try clear hcz10_0
          try clear hcz10_1
          try clear hcz10_2
          try clear hcz13_0
          try clear hcz13_1
          try clear hcz13_2
          try clear hcz15_0
          try clear hcz15_1
          try clear hcz15_2
          try clear hcz16_0
          try clear hcz16_1
          try clear hcz16_2
          try clear hcz4_0
          try clear hcz4_1
          try clear hcz4_2
          try clear hcz7_0
          try clear hcz7_1
          try clear hcz7_2
          try clear hfz10_0
          try clear hfz10_1
          try clear hfz10_2
          try clear hfz13_0
          try clear hfz13_1
          try clear hfz13_2
          try clear hfz15_0
          try clear hfz15_1
          try clear hfz15_2
          try clear hfz16_0
          try clear hfz16_1
          try clear hfz16_2
          try clear hfz4_0
          try clear hfz4_1
          try clear hfz4_2
          try clear hfz7_0
          try clear hfz7_1
          try clear hfz7_2
          obtain ⟨kq, x27_10, rfl, HA, HJ10, BK459, HB⟩ := hcut
          cases kq with
          | zero => exact absurd HA.out (by simp [pleatref07_Check.j0])
          | succ kj10 =>
            have H := HA.out
            clear HA
            simp only [pleatref07_Check.j0] at H
            by_cases c17 : x27_10 = true
            · subst c17
              have H1 : (some (41, 0)) = some (r1, r2) := by rw [if_pos rfl] at H; exact H
              clear H
              have H := H1
              clear H1
              simp only [Option.some.injEq, Prod.mk.injEq] at H
              obtain ⟨rfl, rfl⟩ := H
              go_wp2
              go_ret2
              exact ⟨by first | rfl | (simp [errW_none, errW_some] <;> rfl) | (simp [*, errW_none, errW_some] <;> rfl), by repeat (first | (with_reducible first | exact HB.out | apply below_alloc | apply pw_below_drewN | apply below_drew1 | refine below_set ?_ GE459.out) | exact HB.out)⟩
            · replace c17 := Bool.eq_false_iff.mpr c17
              subst c17
              have H1 : (pleatref07_Check.l0 kj10 (l0_0.length : Int) 0 l0_0 a0_1 l0_2) = some (r1, r2) := by rw [if_neg (show ¬ (false = true) by decide)] at H; exact H
              clear H
              have H := H1
              clear H1
              have H' := Aside0.mk H
              clear H
              go_wp2
              go_loopg [5] kj10 (fun kq v5 w' => ∃ (x5_2 : Int), v5 = .int .i64 x5_2 ∧ Aside0 (pleatref07_Check.l0 kq (l0_0.length : Int) x5_2 l0_0 a0_1 l0_2 = some (r1, r2)) ∧ Aside0 (kq ≤ kj10) ∧ Aside0 (w'.heap[gb459]? = some (.cells #[(.slice A0_0 l0_0.length c0_0), .int .i64 a0_1, (.slice A0_2 l0_2.length c0_2)] 69 (0, 0))) ∧ Aside0 (Below w.heap.size w w'))
              case atStart => exact ⟨(0), (by first | rfl | (simp; done) | (simp [*]; done)), H', ⟨Nat.le_refl _⟩, ⟨by (with_reducible repeat (first | refine blk_drewN ?_ _ | refine blk_drew ?_ | refine blk_alloc ?_ _)); exact BK459.out⟩, ⟨by repeat (first | (with_reducible first | exact HB.out | apply below_alloc | apply pw_below_drewN | apply below_drew1 | refine below_set ?_ GE459.out) | exact HB.out)⟩⟩
              case round =>
                clear H'
                try clear c1
                try clear c2
                try clear c2b0
                try clear c2b1
                try clear c2b2
                try clear p2
                try clear c5
                try clear c5b0
                try clear c5b1
                try clear c6
                try clear c8
                try clear c8b0
                try clear c8b1
                try clear c14
                try clear c14b0
                try clear c17
                try clear hcz10_0
                try clear hcz10_1
                try clear hcz10_2
                try clear hcz13_0
                try clear hcz13_1
                try clear hcz13_2
                try clear hcz15_0
                try clear hcz15_1
                try clear hcz15_2
                try clear hcz16_0
                try clear hcz16_1
                try clear hcz16_2
                try clear hcz4_0
                try clear hcz4_1
                try clear hcz4_2
                try clear hcz7_0
                try clear hcz7_1
                try clear hcz7_2
                try clear hfz10_0
                try clear hfz10_1
                try clear hfz10_2
                try clear hfz13_0
                try clear hfz13_1
                try clear hfz13_2
                try clear hfz15_0
                try clear hfz15_1
                try clear hfz15_2
                try clear hfz16_0
                try clear hfz16_1
                try clear hfz16_2
                try clear hfz4_0
                try clear hfz4_1
                try clear hfz4_2
                try clear hfz7_0
                try clear hfz7_1
                try clear hfz7_2
                try clear p2
                obtain ⟨x5_2, rfl, HA, HK2, BK459, HB⟩ := hrel
                cases gk with
                | zero => exact absurd HA.out (by simp [pleatref07_Check.l0])
                | succ k2 =>
                  have H := HA.out
                  clear HA
                  simp only [pleatref07_Check.l0] at H
                  by_cases c18 : x5_2 < (l0_0.length : Int)
                  · rw [if_pos c18] at H
                    have c18b0 : decide (x5_2 < (l0_0.length : Int)) = true := decide_eq_true c18
                    clear c18
                    by_cases c19 : 0 ≤ x5_2
                    · rw [if_pos c19] at H
                      have c19b0 : decide (0 ≤ x5_2) = true := decide_eq_true c19
                      clear c19
                      by_cases c20 : x5_2 < (l0_0.length : Int)
                      · rw [if_pos c20] at H
                        have c20b0 : decide (x5_2 < (l0_0.length : Int)) = true := decide_eq_true c20
                        clear c20
                        replace H := Option.bind_eq_some_iff.mp H
                        obtain ⟨⟨t461, t462⟩, A210, H⟩ := H
                        replace H : (if t462 = true then (if t461 ≥ (l0_0.length : Int) then (some (22, x5_2)) else (pleatref07_Check.l0 k2 (l0_0.length : Int) (wrap64 (x5_2 + 1)) l0_0 a0_1 l0_2)) else (pleatref07_Check.l0 k2 (l0_0.length : Int) (wrap64 (x5_2 + 1)) l0_0 a0_1 l0_2)) = some (r1, r2) := H
                        have A21 := Aside0.mk A210
                        clear A210
                        by_cases c22 : t462 = true
                        · subst c22
                          have H1 : (if t461 ≥ (l0_0.length : Int) then (some (22, x5_2)) else (pleatref07_Check.l0 k2 (l0_0.length : Int) (wrap64 (x5_2 + 1)) l0_0 a0_1 l0_2)) = some (r1, r2) := by rw [if_pos rfl] at H; exact H
                          clear H
                          have H := H1
                          clear H1
                          by_cases c23 : t461 ≥ (l0_0.length : Int)
                          · rw [if_pos c23] at H
                            have c23b0 : decide ((l0_0.length : Int) ≤ t461) = true := decide_eq_true c23
                            clear c23
                            simp only [Option.some.injEq, Prod.mk.injEq] at H
                            obtain ⟨rfl, rfl⟩ := H
                            have hcz24_0 : wr.cell? ⟨gb459, 0, none⟩ = some (.slice A0_0 l0_0.length c0_0) := (blk_cell BK459.out 0).trans rfl
                            have hcz24_1 : wr.cell? ⟨gb459, 1, none⟩ = some (.int .i64 a0_1) := (blk_cell BK459.out 1).trans rfl
                            have hcz24_2 : wr.cell? ⟨gb459, 2, none⟩ = some (.slice A0_2 l0_2.length c0_2) := (blk_cell BK459.out 2).trans rfl
                            have hfz24_0 := blk_frozen BK459.out 0
                            have hfz24_1 := blk_frozen BK459.out 1
                            have hfz24_2 := blk_frozen BK459.out 2
                            have p460 : 0 ≤ (x5_2 : Int) := of_decide_eq_true (by first | (with_reducible assumption) | assumption)
                            have q460 : x5_2 < (l0_0.length : Int) := of_decide_eq_true (by first | (with_reducible assumption) | assumption)
                            obtain ⟨ad460, e460, hx460_0⟩ := Kd.at_int HR0_0.out x5_2 p460 q460
                            cases e460
                            replace hx460_0 := (HB.out.cell (World.block_lt_of_cell? w _ hx460_0)).trans hx460_0
                            replace p460 := eq_true p460
                            replace q460 := eq_true q460
                            go_wp2_with (first | ((with_reducible refine gate_callee (f := 26) rfl ?_); refine goesL_ (some 39) rfl rfl Try.func26 (by kernel_rfl) rfl #[.int .u32 (rd l0_0 x5_2)] rfl (by (try simp only [List.map_toArray, List.map_cons, List.map_nil]); first | done | rfl | (simp only [List.length_drop, List.length_take]; rfl)) ?_; (with_reducible refine (pleatref02_Target.calls k2 (rd l0_0 x5_2) t461 true _ A21.out).mono ?_); rintro e w25 ⟨rfl, hb⟩; refine ⟨_, rfl, ?_⟩; have n0_ := Aside0.mk (blk_below (g := gb459) (o := .cells #[.slice (some ad460) l0_0.length c0_0, .int .i64 a0_1, .slice A0_2 l0_2.length c0_2] 69 (0, 0)) (by (with_reducible repeat (first | refine blk_drewN ?_ _ | refine blk_drew ?_ | refine blk_alloc ?_ _)); exact BK459.out) hb); have n1_ := Aside0.mk (below_step (by repeat (first | (with_reducible first | exact HB.out | apply below_alloc | apply pw_below_drewN | apply below_drew1 | refine below_set ?_ GE459.out) | exact HB.out)) hb); clear BK459; clear HB; have BK459 := n0_; have HB := n1_; clear n0_ n1_; (try clear hb); (try clear hb2); (try clear hk); (try clear hi)))
                            go_ret2
                            exact ⟨by first | rfl | (simp [errW_none, errW_some] <;> rfl) | (simp [*, errW_none, errW_some] <;> rfl), by repeat (first | (with_reducible first | exact HB.out | apply below_alloc | apply pw_below_drewN | apply below_drew1 | refine below_set ?_ GE459.out) | exact HB.out)⟩
                          · rw [if_neg c23] at H
                            have c23b0 : decide ((l0_0.length : Int) ≤ t461) = false := decide_eq_false c23
                            clear c23
                            have H' := Aside0.mk H
                            clear H
                            have hcz26_0 : wr.cell? ⟨gb459, 0, none⟩ = some (.slice A0_0 l0_0.length c0_0) := (blk_cell BK459.out 0).trans rfl
                            have hcz26_1 : wr.cell? ⟨gb459, 1, none⟩ = some (.int .i64 a0_1) := (blk_cell BK459.out 1).trans rfl
                            have hcz26_2 : wr.cell? ⟨gb459, 2, none⟩ = some (.slice A0_2 l0_2.length c0_2) := (blk_cell BK459.out 2).trans rfl
                            have hfz26_0 := blk_frozen BK459.out 0
                            have hfz26_1 := blk_frozen BK459.out 1
                            have hfz26_2 := blk_frozen BK459.out 2
                            have p460 : 0 ≤ (x5_2 : Int) := of_decide_eq_true (by first | (with_reducible assumption) | assumption)
                            have q460 : x5_2 < (l0_0.length : Int) := of_decide_eq_true (by first | (with_reducible assumption) | assumption)
                            obtain ⟨ad460, e460, hx460_0⟩ := Kd.at_int HR0_0.out x5_2 p460 q460
                            cases e460
                            replace hx460_0 := (HB.out.cell (World.block_lt_of_cell? w _ hx460_0)).trans hx460_0
                            replace p460 := eq_true p460
                            replace q460 := eq_true q460
                            go_wp2_with (first | ((with_reducible refine gate_callee (f := 26) rfl ?_); refine goesL_ (some 39) rfl rfl Try.func26 (by kernel_rfl) rfl #[.int .u32 (rd l0_0 x5_2)] rfl (by (try simp only [List.map_toArray, List.map_cons, List.map_nil]); first | done | rfl | (simp only [List.length_drop, List.length_take]; rfl)) ?_; (with_reducible refine (pleatref02_Target.calls k2 (rd l0_0 x5_2) t461 true _ A21.out).mono ?_); rintro e w27 ⟨rfl, hb⟩; refine ⟨_, rfl, ?_⟩; have n0_ := Aside0.mk (blk_below (g := gb459) (o := .cells #[.slice (some ad460) l0_0.length c0_0, .int .i64 a0_1, .slice A0_2 l0_2.length c0_2] 69 (0, 0)) (by (with_reducible repeat (first | refine blk_drewN ?_ _ | refine blk_drew ?_ | refine blk_alloc ?_ _)); exact BK459.out) hb); have n1_ := Aside0.mk (below_step (by repeat (first | (with_reducible first | exact HB.out | apply below_alloc | apply pw_below_drewN | apply below_drew1 | refine below_set ?_ GE459.out) | exact HB.out)) hb); clear BK459; clear HB; have BK459 := n0_; have HB := n1_; clear n0_ n1_; (try clear hb); (try clear hb2); (try clear hk); (try clear hi)))
                            go_roundg k2
                            case measure => have := HJ10.out; have := HK2.out; omega
                            case rel => exact ⟨(wrap64 (x5_2 + 1)), (by first | rfl | (simp; done) | (simp [*]; done)), H', ⟨by have := HJ10.out; have := HK2.out; omega⟩, ⟨by (with_reducible repeat (first | refine blk_drewN ?_ _ | refine blk_drew ?_ | refine blk_alloc ?_ _)); exact BK459.out⟩, ⟨by repeat (first | (with_reducible first | exact HB.out | apply below_alloc | apply pw_below_drewN | apply below_drew1 | refine below_set ?_ GE459.out) | exact HB.out)⟩⟩
                        · replace c22 := Bool.eq_false_iff.mpr c22
                          subst c22
                          have H1 : (pleatref07_Check.l0 k2 (l0_0.length : Int) (wrap64 (x5_2 + 1)) l0_0 a0_1 l0_2) = some (r1, r2) := by rw [if_neg (show ¬ (false = true) by decide)] at H; exact H
                          clear H
                          have H := H1
                          clear H1
                          have H' := Aside0.mk H
                          clear H
                          have hcz28_0 : wr.cell? ⟨gb459, 0, none⟩ = some (.slice A0_0 l0_0.length c0_0) := (blk_cell BK459.out 0).trans rfl
                          have hcz28_1 : wr.cell? ⟨gb459, 1, none⟩ = some (.int .i64 a0_1) := (blk_cell BK459.out 1).trans rfl
                          have hcz28_2 : wr.cell? ⟨gb459, 2, none⟩ = some (.slice A0_2 l0_2.length c0_2) := (blk_cell BK459.out 2).trans rfl
                          have hfz28_0 := blk_frozen BK459.out 0
                          have hfz28_1 := blk_frozen BK459.out 1
                          have hfz28_2 := blk_frozen BK459.out 2
                          have p460 : 0 ≤ (x5_2 : Int) := of_decide_eq_true (by first | (with_reducible assumption) | assumption)
                          have q460 : x5_2 < (l0_0.length : Int) := of_decide_eq_true (by first | (with_reducible assumption) | assumption)
                          obtain ⟨ad460, e460, hx460_0⟩ := Kd.at_int HR0_0.out x5_2 p460 q460
                          cases e460
                          replace hx460_0 := (HB.out.cell (World.block_lt_of_cell? w _ hx460_0)).trans hx460_0
                          replace p460 := eq_true p460
                          replace q460 := eq_true q460
                          go_wp2_with (first | ((with_reducible refine gate_callee (f := 26) rfl ?_); refine goesL_ (some 39) rfl rfl Try.func26 (by kernel_rfl) rfl #[.int .u32 (rd l0_0 x5_2)] rfl (by (try simp only [List.map_toArray, List.map_cons, List.map_nil]); first | done | rfl | (simp only [List.length_drop, List.length_take]; rfl)) ?_; (with_reducible refine (pleatref02_Target.calls k2 (rd l0_0 x5_2) t461 false _ A21.out).mono ?_); rintro e w29 ⟨rfl, hb⟩; refine ⟨_, rfl, ?_⟩; have n0_ := Aside0.mk (blk_below (g := gb459) (o := .cells #[.slice (some ad460) l0_0.length c0_0, .int .i64 a0_1, .slice A0_2 l0_2.length c0_2] 69 (0, 0)) (by (with_reducible repeat (first | refine blk_drewN ?_ _ | refine blk_drew ?_ | refine blk_alloc ?_ _)); exact BK459.out) hb); have n1_ := Aside0.mk (below_step (by repeat (first | (with_reducible first | exact HB.out | apply below_alloc | apply pw_below_drewN | apply below_drew1 | refine below_set ?_ GE459.out) | exact HB.out)) hb); clear BK459; clear HB; have BK459 := n0_; have HB := n1_; clear n0_ n1_; (try clear hb); (try clear hb2); (try clear hk); (try clear hi)))
                          go_roundg k2
                          case measure => have := HJ10.out; have := HK2.out; omega
                          case rel => exact ⟨(wrap64 (x5_2 + 1)), (by first | rfl | (simp; done) | (simp [*]; done)), H', ⟨by have := HJ10.out; have := HK2.out; omega⟩, ⟨by (with_reducible repeat (first | refine blk_drewN ?_ _ | refine blk_drew ?_ | refine blk_alloc ?_ _)); exact BK459.out⟩, ⟨by repeat (first | (with_reducible first | exact HB.out | apply below_alloc | apply pw_below_drewN | apply below_drew1 | refine below_set ?_ GE459.out) | exact HB.out)⟩⟩
                      · rw [if_neg c20] at H
                        exact absurd H (by simp)
                    · rw [if_neg c19] at H
                      exact absurd H (by simp)
                  · rw [if_neg c18] at H
                    have c18b0 : decide (x5_2 < (l0_0.length : Int)) = false := decide_eq_false c18
                    clear c18
                    obtain ⟨ji30, hji30⟩ : ∃ j_ : Int, (wrap64 ((l0_0.length : Int) - 1)) = j_ := ⟨_, rfl⟩
                    replace H : (if 0 ≤ (ji30) then (if (ji30) < (l0_0.length : Int) then ((pleatref02_Decode.f k2 (rd l0_0 (ji30))).bind fun bt464 => (if bt464.1 = 0 then (some (0, 0)) else (if bt464.1 = 15 then (some (0, 0)) else (if bt464.1 = 19 then (some (0, 0)) else (if bt464.1 = 21 then (some (0, 0)) else (some (50, ji30))))))) else (none)) else (none)) = some (r1, r2) := by first | (rw [hji30] at H; exact H) | (simp only [hji30] at H ⊢; exact H)
                    have hji30w : (IntKind.i64.wrap ((l0_0.length : Int) - 1)) = ji30 := (i64_w _).trans hji30
                    by_cases c31 : 0 ≤ (ji30)
                    · rw [if_pos c31] at H
                      have c31b0 : decide (0 ≤ (ji30)) = true := decide_eq_true c31
                      clear c31
                      by_cases c32 : (ji30) < (l0_0.length : Int)
                      · rw [if_pos c32] at H
                        have c32b0 : decide ((ji30) < (l0_0.length : Int)) = true := decide_eq_true c32
                        clear c32
                        replace H := Option.bind_eq_some_iff.mp H
                        obtain ⟨⟨t464, t465, t466, t467, t468⟩, A330, H⟩ := H
                        replace H : (if t464 = 0 then (some (0, 0)) else (if t464 = 15 then (some (0, 0)) else (if t464 = 19 then (some (0, 0)) else (if t464 = 21 then (some (0, 0)) else (some (50, ji30)))))) = some (r1, r2) := H
                        have A33 := Aside0.mk A330
                        clear A330
                        by_cases c34 : t464 = 0
                        · rw [if_pos c34] at H
                          have c34b0 : (t464 == 0) = true := beq_iff_eq.mpr c34
                          have c34b1 : (t464 != 0) = false := bne_eq_false_iff_eq.mpr c34
                          clear c34
                          simp only [Option.some.injEq, Prod.mk.injEq] at H
                          obtain ⟨rfl, rfl⟩ := H
                          have hcz35_0 : wr.cell? ⟨gb459, 0, none⟩ = some (.slice A0_0 l0_0.length c0_0) := (blk_cell BK459.out 0).trans rfl
                          have hcz35_1 : wr.cell? ⟨gb459, 1, none⟩ = some (.int .i64 a0_1) := (blk_cell BK459.out 1).trans rfl
                          have hcz35_2 : wr.cell? ⟨gb459, 2, none⟩ = some (.slice A0_2 l0_2.length c0_2) := (blk_cell BK459.out 2).trans rfl
                          have hfz35_0 := blk_frozen BK459.out 0
                          have hfz35_1 := blk_frozen BK459.out 1
                          have hfz35_2 := blk_frozen BK459.out 2
                          have p463 : 0 ≤ ((ji30) : Int) := of_decide_eq_true (by first | (with_reducible assumption) | assumption)
                          have q463 : (ji30) < (l0_0.length : Int) := of_decide_eq_true (by first | (with_reducible assumption) | assumption)
                          obtain ⟨ad463, e463, hx463_0⟩ := Kd.at_int HR0_0.out (ji30) p463 q463
                          cases e463
                          replace hx463_0 := (HB.out.cell (World.block_lt_of_cell? w _ hx463_0)).trans hx463_0
                          replace p463 := eq_true p463
                          replace q463 := eq_true q463
                          go_wp2_with (first | ((with_reducible refine gate_callee (f := 27) rfl ?_); refine goesL_ (some 55) rfl rfl Try.func27 (by kernel_rfl) rfl #[.int .u32 (rd l0_0 (ji30))] rfl (by (try simp only [List.map_toArray, List.map_cons, List.map_nil]); first | done | (simp only [hji30]; rfl) | rfl | (simp only [List.length_drop, List.length_take]; rfl)) ?_; (with_reducible refine (pleatref02_Decode.calls k2 (rd l0_0 (ji30)) t464 t465 t466 t467 t468 _ A33.out).mono ?_); rintro e w36 ⟨rfl, hb⟩; refine ⟨_, rfl, ?_⟩; have n0_ := Aside0.mk (blk_below (g := gb459) (o := .cells #[.slice (some ad463) l0_0.length c0_0, .int .i64 a0_1, .slice A0_2 l0_2.length c0_2] 69 (0, 0)) (by (with_reducible repeat (first | refine blk_drewN ?_ _ | refine blk_drew ?_ | refine blk_alloc ?_ _)); exact BK459.out) hb); have n1_ := Aside0.mk (below_step (by repeat (first | (with_reducible first | exact HB.out | apply below_alloc | apply pw_below_drewN | apply below_drew1 | refine below_set ?_ GE459.out) | exact HB.out)) hb); clear BK459; clear HB; have BK459 := n0_; have HB := n1_; clear n0_ n1_; (try clear hb); (try clear hb2); (try clear hk); (try clear hi)))
                          go_ret2
                          exact ⟨by first | rfl | (simp [errW_none, errW_some] <;> rfl) | (simp only [← hji30]; first | rfl | (simp [errW_none, errW_some] <;> rfl)) | (simp [*, errW_none, errW_some] <;> rfl), by repeat (first | (with_reducible first | exact HB.out | apply below_alloc | apply pw_below_drewN | apply below_drew1 | refine below_set ?_ GE459.out) | exact HB.out)⟩
                        · rw [if_neg c34] at H
                          have c34b0 : (t464 == 0) = false := beq_eq_false_iff_ne.mpr c34
                          have c34b1 : (t464 != 0) = true := bne_iff_ne.mpr c34
                          by_cases c37 : t464 = 15
                          · rw [if_pos c37] at H
                            have c37b0 : (t464 == 15) = true := beq_iff_eq.mpr c37
                            have c37b1 : (t464 != 15) = false := bne_eq_false_iff_eq.mpr c37
                            clear c37
                            simp only [Option.some.injEq, Prod.mk.injEq] at H
                            obtain ⟨rfl, rfl⟩ := H
                            have hcz38_0 : wr.cell? ⟨gb459, 0, none⟩ = some (.slice A0_0 l0_0.length c0_0) := (blk_cell BK459.out 0).trans rfl
                            have hcz38_1 : wr.cell? ⟨gb459, 1, none⟩ = some (.int .i64 a0_1) := (blk_cell BK459.out 1).trans rfl
                            have hcz38_2 : wr.cell? ⟨gb459, 2, none⟩ = some (.slice A0_2 l0_2.length c0_2) := (blk_cell BK459.out 2).trans rfl
                            have hfz38_0 := blk_frozen BK459.out 0
                            have hfz38_1 := blk_frozen BK459.out 1
                            have hfz38_2 := blk_frozen BK459.out 2
                            have p463 : 0 ≤ ((ji30) : Int) := of_decide_eq_true (by first | (with_reducible assumption) | assumption)
                            have q463 : (ji30) < (l0_0.length : Int) := of_decide_eq_true (by first | (with_reducible assumption) | assumption)
                            obtain ⟨ad463, e463, hx463_0⟩ := Kd.at_int HR0_0.out (ji30) p463 q463
                            cases e463
                            replace hx463_0 := (HB.out.cell (World.block_lt_of_cell? w _ hx463_0)).trans hx463_0
                            replace p463 := eq_true p463
                            replace q463 := eq_true q463
                            go_wp2_with (first | ((with_reducible refine gate_callee (f := 27) rfl ?_); refine goesL_ (some 55) rfl rfl Try.func27 (by kernel_rfl) rfl #[.int .u32 (rd l0_0 (ji30))] rfl (by (try simp only [List.map_toArray, List.map_cons, List.map_nil]); first | done | (simp only [hji30]; rfl) | rfl | (simp only [List.length_drop, List.length_take]; rfl)) ?_; (with_reducible refine (pleatref02_Decode.calls k2 (rd l0_0 (ji30)) t464 t465 t466 t467 t468 _ A33.out).mono ?_); rintro e w39 ⟨rfl, hb⟩; refine ⟨_, rfl, ?_⟩; have n0_ := Aside0.mk (blk_below (g := gb459) (o := .cells #[.slice (some ad463) l0_0.length c0_0, .int .i64 a0_1, .slice A0_2 l0_2.length c0_2] 69 (0, 0)) (by (with_reducible repeat (first | refine blk_drewN ?_ _ | refine blk_drew ?_ | refine blk_alloc ?_ _)); exact BK459.out) hb); have n1_ := Aside0.mk (below_step (by repeat (first | (with_reducible first | exact HB.out | apply below_alloc | apply pw_below_drewN | apply below_drew1 | refine below_set ?_ GE459.out) | exact HB.out)) hb); clear BK459; clear HB; have BK459 := n0_; have HB := n1_; clear n0_ n1_; (try clear hb); (try clear hb2); (try clear hk); (try clear hi)))
                            go_ret2
                            exact ⟨by first | rfl | (simp [errW_none, errW_some] <;> rfl) | (simp only [← hji30]; first | rfl | (simp [errW_none, errW_some] <;> rfl)) | (simp [*, errW_none, errW_some] <;> rfl), by repeat (first | (with_reducible first | exact HB.out | apply below_alloc | apply pw_below_drewN | apply below_drew1 | refine below_set ?_ GE459.out) | exact HB.out)⟩
                          · rw [if_neg c37] at H
                            have c37b0 : (t464 == 15) = false := beq_eq_false_iff_ne.mpr c37
                            have c37b1 : (t464 != 15) = true := bne_iff_ne.mpr c37
                            by_cases c40 : t464 = 19
                            · rw [if_pos c40] at H
                              have c40b0 : (t464 == 19) = true := beq_iff_eq.mpr c40
                              have c40b1 : (t464 != 19) = false := bne_eq_false_iff_eq.mpr c40
                              clear c40
                              simp only [Option.some.injEq, Prod.mk.injEq] at H
                              obtain ⟨rfl, rfl⟩ := H
                              have hcz41_0 : wr.cell? ⟨gb459, 0, none⟩ = some (.slice A0_0 l0_0.length c0_0) := (blk_cell BK459.out 0).trans rfl
                              have hcz41_1 : wr.cell? ⟨gb459, 1, none⟩ = some (.int .i64 a0_1) := (blk_cell BK459.out 1).trans rfl
                              have hcz41_2 : wr.cell? ⟨gb459, 2, none⟩ = some (.slice A0_2 l0_2.length c0_2) := (blk_cell BK459.out 2).trans rfl
                              have hfz41_0 := blk_frozen BK459.out 0
                              have hfz41_1 := blk_frozen BK459.out 1
                              have hfz41_2 := blk_frozen BK459.out 2
                              have p463 : 0 ≤ ((ji30) : Int) := of_decide_eq_true (by first | (with_reducible assumption) | assumption)
                              have q463 : (ji30) < (l0_0.length : Int) := of_decide_eq_true (by first | (with_reducible assumption) | assumption)
                              obtain ⟨ad463, e463, hx463_0⟩ := Kd.at_int HR0_0.out (ji30) p463 q463
                              cases e463
                              replace hx463_0 := (HB.out.cell (World.block_lt_of_cell? w _ hx463_0)).trans hx463_0
                              replace p463 := eq_true p463
                              replace q463 := eq_true q463
                              go_wp2_with (first | ((with_reducible refine gate_callee (f := 27) rfl ?_); refine goesL_ (some 55) rfl rfl Try.func27 (by kernel_rfl) rfl #[.int .u32 (rd l0_0 (ji30))] rfl (by (try simp only [List.map_toArray, List.map_cons, List.map_nil]); first | done | (simp only [hji30]; rfl) | rfl | (simp only [List.length_drop, List.length_take]; rfl)) ?_; (with_reducible refine (pleatref02_Decode.calls k2 (rd l0_0 (ji30)) t464 t465 t466 t467 t468 _ A33.out).mono ?_); rintro e w42 ⟨rfl, hb⟩; refine ⟨_, rfl, ?_⟩; have n0_ := Aside0.mk (blk_below (g := gb459) (o := .cells #[.slice (some ad463) l0_0.length c0_0, .int .i64 a0_1, .slice A0_2 l0_2.length c0_2] 69 (0, 0)) (by (with_reducible repeat (first | refine blk_drewN ?_ _ | refine blk_drew ?_ | refine blk_alloc ?_ _)); exact BK459.out) hb); have n1_ := Aside0.mk (below_step (by repeat (first | (with_reducible first | exact HB.out | apply below_alloc | apply pw_below_drewN | apply below_drew1 | refine below_set ?_ GE459.out) | exact HB.out)) hb); clear BK459; clear HB; have BK459 := n0_; have HB := n1_; clear n0_ n1_; (try clear hb); (try clear hb2); (try clear hk); (try clear hi)))
                              go_ret2
                              exact ⟨by first | rfl | (simp [errW_none, errW_some] <;> rfl) | (simp only [← hji30]; first | rfl | (simp [errW_none, errW_some] <;> rfl)) | (simp [*, errW_none, errW_some] <;> rfl), by repeat (first | (with_reducible first | exact HB.out | apply below_alloc | apply pw_below_drewN | apply below_drew1 | refine below_set ?_ GE459.out) | exact HB.out)⟩
                            · rw [if_neg c40] at H
                              have c40b0 : (t464 == 19) = false := beq_eq_false_iff_ne.mpr c40
                              have c40b1 : (t464 != 19) = true := bne_iff_ne.mpr c40
                              by_cases c43 : t464 = 21
                              · rw [if_pos c43] at H
                                have c43b0 : (t464 == 21) = true := beq_iff_eq.mpr c43
                                have c43b1 : (t464 != 21) = false := bne_eq_false_iff_eq.mpr c43
                                clear c43
                                simp only [Option.some.injEq, Prod.mk.injEq] at H
                                obtain ⟨rfl, rfl⟩ := H
                                have hcz44_0 : wr.cell? ⟨gb459, 0, none⟩ = some (.slice A0_0 l0_0.length c0_0) := (blk_cell BK459.out 0).trans rfl
                                have hcz44_1 : wr.cell? ⟨gb459, 1, none⟩ = some (.int .i64 a0_1) := (blk_cell BK459.out 1).trans rfl
                                have hcz44_2 : wr.cell? ⟨gb459, 2, none⟩ = some (.slice A0_2 l0_2.length c0_2) := (blk_cell BK459.out 2).trans rfl
                                have hfz44_0 := blk_frozen BK459.out 0
                                have hfz44_1 := blk_frozen BK459.out 1
                                have hfz44_2 := blk_frozen BK459.out 2
                                have p463 : 0 ≤ ((ji30) : Int) := of_decide_eq_true (by first | (with_reducible assumption) | assumption)
                                have q463 : (ji30) < (l0_0.length : Int) := of_decide_eq_true (by first | (with_reducible assumption) | assumption)
                                obtain ⟨ad463, e463, hx463_0⟩ := Kd.at_int HR0_0.out (ji30) p463 q463
                                cases e463
                                replace hx463_0 := (HB.out.cell (World.block_lt_of_cell? w _ hx463_0)).trans hx463_0
                                replace p463 := eq_true p463
                                replace q463 := eq_true q463
                                go_wp2_with (first | ((with_reducible refine gate_callee (f := 27) rfl ?_); refine goesL_ (some 55) rfl rfl Try.func27 (by kernel_rfl) rfl #[.int .u32 (rd l0_0 (ji30))] rfl (by (try simp only [List.map_toArray, List.map_cons, List.map_nil]); first | done | (simp only [hji30]; rfl) | rfl | (simp only [List.length_drop, List.length_take]; rfl)) ?_; (with_reducible refine (pleatref02_Decode.calls k2 (rd l0_0 (ji30)) t464 t465 t466 t467 t468 _ A33.out).mono ?_); rintro e w45 ⟨rfl, hb⟩; refine ⟨_, rfl, ?_⟩; have n0_ := Aside0.mk (blk_below (g := gb459) (o := .cells #[.slice (some ad463) l0_0.length c0_0, .int .i64 a0_1, .slice A0_2 l0_2.length c0_2] 69 (0, 0)) (by (with_reducible repeat (first | refine blk_drewN ?_ _ | refine blk_drew ?_ | refine blk_alloc ?_ _)); exact BK459.out) hb); have n1_ := Aside0.mk (below_step (by repeat (first | (with_reducible first | exact HB.out | apply below_alloc | apply pw_below_drewN | apply below_drew1 | refine below_set ?_ GE459.out) | exact HB.out)) hb); clear BK459; clear HB; have BK459 := n0_; have HB := n1_; clear n0_ n1_; (try clear hb); (try clear hb2); (try clear hk); (try clear hi)))
                                go_ret2
                                exact ⟨by first | rfl | (simp [errW_none, errW_some] <;> rfl) | (simp only [← hji30]; first | rfl | (simp [errW_none, errW_some] <;> rfl)) | (simp [*, errW_none, errW_some] <;> rfl), by repeat (first | (with_reducible first | exact HB.out | apply below_alloc | apply pw_below_drewN | apply below_drew1 | refine below_set ?_ GE459.out) | exact HB.out)⟩
                              · rw [if_neg c43] at H
                                have c43b0 : (t464 == 21) = false := beq_eq_false_iff_ne.mpr c43
                                have c43b1 : (t464 != 21) = true := bne_iff_ne.mpr c43
                                simp only [Option.some.injEq, Prod.mk.injEq] at H
                                obtain ⟨rfl, rfl⟩ := H
                                have hcz46_0 : wr.cell? ⟨gb459, 0, none⟩ = some (.slice A0_0 l0_0.length c0_0) := (blk_cell BK459.out 0).trans rfl
                                have hcz46_1 : wr.cell? ⟨gb459, 1, none⟩ = some (.int .i64 a0_1) := (blk_cell BK459.out 1).trans rfl
                                have hcz46_2 : wr.cell? ⟨gb459, 2, none⟩ = some (.slice A0_2 l0_2.length c0_2) := (blk_cell BK459.out 2).trans rfl
                                have hfz46_0 := blk_frozen BK459.out 0
                                have hfz46_1 := blk_frozen BK459.out 1
                                have hfz46_2 := blk_frozen BK459.out 2
                                have p463 : 0 ≤ ((ji30) : Int) := of_decide_eq_true (by first | (with_reducible assumption) | assumption)
                                have q463 : (ji30) < (l0_0.length : Int) := of_decide_eq_true (by first | (with_reducible assumption) | assumption)
                                obtain ⟨ad463, e463, hx463_0⟩ := Kd.at_int HR0_0.out (ji30) p463 q463
                                cases e463
                                replace hx463_0 := (HB.out.cell (World.block_lt_of_cell? w _ hx463_0)).trans hx463_0
                                replace p463 := eq_true p463
                                replace q463 := eq_true q463
                                go_wp2_with (first | ((with_reducible refine gate_callee (f := 27) rfl ?_); refine goesL_ (some 55) rfl rfl Try.func27 (by kernel_rfl) rfl #[.int .u32 (rd l0_0 (ji30))] rfl (by (try simp only [List.map_toArray, List.map_cons, List.map_nil]); first | done | (simp only [hji30]; rfl) | rfl | (simp only [List.length_drop, List.length_take]; rfl)) ?_; (with_reducible refine (pleatref02_Decode.calls k2 (rd l0_0 (ji30)) t464 t465 t466 t467 t468 _ A33.out).mono ?_); rintro e w47 ⟨rfl, hb⟩; refine ⟨_, rfl, ?_⟩; have n0_ := Aside0.mk (blk_below (g := gb459) (o := .cells #[.slice (some ad463) l0_0.length c0_0, .int .i64 a0_1, .slice A0_2 l0_2.length c0_2] 69 (0, 0)) (by (with_reducible repeat (first | refine blk_drewN ?_ _ | refine blk_drew ?_ | refine blk_alloc ?_ _)); exact BK459.out) hb); have n1_ := Aside0.mk (below_step (by repeat (first | (with_reducible first | exact HB.out | apply below_alloc | apply pw_below_drewN | apply below_drew1 | refine below_set ?_ GE459.out) | exact HB.out)) hb); clear BK459; clear HB; have BK459 := n0_; have HB := n1_; clear n0_ n1_; (try clear hb); (try clear hb2); (try clear hk); (try clear hi)))
                                go_ret2
                                exact ⟨by first | rfl | (simp [errW_none, errW_some] <;> rfl) | (simp only [← hji30]; first | rfl | (simp [errW_none, errW_some] <;> rfl)) | (simp [*, errW_none, errW_some] <;> rfl), by repeat (first | (with_reducible first | exact HB.out | apply below_alloc | apply pw_below_drewN | apply below_drew1 | refine below_set ?_ GE459.out) | exact HB.out)⟩
                      · rw [if_neg c32] at H
                        exact absurd H (by simp)
                    · rw [if_neg c31] at H
                      exact absurd H (by simp)
end Go.Proofs.Ytiaohbbafaaibaa.P

/- OWN TEXT: small words for the pure statements: what a function with rounds comes to in the end. -/
set_option linter.unusedVariables false
set_option linter.unusedSimpArgs false
namespace Go.Proofs.YtiaohbbafaaibaaW.PrintWords
open Go.RowKit

theorem Ev.succ {α : Type} {g : Nat → Option α} {r : α} (h : Ev (fun k => g (k + 1)) r) : Ev g r := Ev.step (fun _ => rfl) h
theorem Ev.val {α : Type} {a r : α} (h : a = r) : Ev (fun _ => some a) r := h ▸ Ev.now _
theorem Ev.bind0 {α β : Type} {g : Option α} {f : Nat → α → Option β} {a : α} {r : β} (h : g = some a) (k : Ev (fun n => f n a) r) : Ev (fun n => g.bind (f n)) r := by
  subst h; exact k
theorem Ev.iteT {α : Type} {c : Prop} [Decidable c] {a b : Nat → Option α} {r : α} (hc : c) (h : Ev a r) : Ev (fun k => if c then a k else b k) r := by
  simpa only [if_pos hc] using h
theorem Ev.iteF {α : Type} {c : Prop} [Decidable c] {a b : Nat → Option α} {r : α} (hc : ¬ c) (h : Ev b r) : Ev (fun k => if c then a k else b k) r := by
  simpa only [if_neg hc] using h
theorem Ev.ite2 {α : Type} {c : Prop} [Decidable c] {a b : Nat → Option α} {r : α} (h1 : c → Ev a r) (h2 : ¬ c → Ev b r) : Ev (fun k => if c then a k else b k) r := by
  by_cases hc : c
  · exact Ev.iteT hc (h1 hc)
  · exact Ev.iteF hc (h2 hc)
theorem Ev.to {α : Type} {g : Nat → Option α} {r r' : α} (h : Ev g r) (e : r = r') : Ev g r' := e ▸ h
theorem Ev.uniq {α : Type} {g : Nat → Option α} {r r' : α} (h : Ev g r) (h' : Ev g r') : r = r' := by
  obtain ⟨k, hk⟩ := h
  obtain ⟨k', hk'⟩ := h'
  have h1 := hk (max k k') (Nat.le_max_left _ _)
  have h2 := hk' (max k k') (Nat.le_max_right _ _)
  rw [h1] at h2
  injection h2

theorem wrap64_id {x : Int} (h1 : -9223372036854775808 ≤ x) (h2 : x ≤ 9223372036854775807) : wrap64 x = x := by unfold wrap64; omega
theorem wf_i64 {x : Int} (h : (Lit.int .i64 x).wf = true) : -9223372036854775808 ≤ x ∧ x ≤ 9223372036854775807 := by have := bounds_i64 h; omega
theorem wf_i8 {x : Int} (h : (Lit.int .i8 x).wf = true) : -128 ≤ x ∧ x ≤ 127 := by have := bounds_i8 h; omega
theorem wf_u8 {x : Int} (h : (Lit.int .u8 x).wf = true) : 0 ≤ x ∧ x ≤ 255 := by have := bounds_u8 h; omega
theorem wf_u32 {x : Int} (h : (Lit.int .u32 x).wf = true) : 0 ≤ x ∧ x ≤ 4294967295 := by have := bounds_u32 h; omega

theorem rd_get {l : List Int} {i : Nat} (h : i < l.length) : rd l (i : Int) = l[i] := by
  unfold rd
  rw [Int.toNat_natCast, List.getD_eq_getElem?_getD, List.getElem?_eq_getElem h]
  rfl
theorem drop_get {α : Type} {l : List α} {i : Nat} (h : i < l.length) : l.drop i = l[i] :: l.drop (i + 1) := List.drop_eq_getElem_cons h

end Go.Proofs.YtiaohbbafaaibaaW.PrintWords

/- OWN TEXT: the instructions over plain numbers: what the program's and the reference's functions come to. -/
set_option linter.unusedVariables false
set_option linter.unusedSimpArgs false
namespace Go.Proofs.Ytiaohbbafaaibaa.P
open Go.RowKit Go.Proofs.YtiaohbbafaaibaaW.PrintWords

def hasF (op : Int) : Int := if op < 0 then 0 else if op ≥ 22 then 0 else hasT op
theorem has1 (op : Int) : isa_has.f op = some (hasF op) := by
  unfold isa_has.f hasF
  repeat' split
  all_goals rfl
/-- Is a bit of a word of fields set? -/
def bitF (f m : Int) : Bool := Go.bits .and .i64 f m != 0
def tup (op : Int) : Bool × Bool × Bool × Bool × Bool := (bitF (hasF op) 1, bitF (hasF op) 2, bitF (hasF op) 4, bitF (hasF op) 8, bitF (hasF op) 16)
theorem ops22 {p : Int → Prop} (h : ∀ n : Fin 22, p (n.val : Int)) {op : Int} (h0 : 0 ≤ op) (h1 : op < 22) : p op := by
  have := h ⟨op.toNat, by omega⟩
  rwa [show ((⟨op.toNat, by omega⟩ : Fin 22).val : Int) = op from Int.toNat_of_nonneg h0] at this
theorem has2_in : ∀ n : Fin 22, pleatref02_Has.f 8 (n.val : Int) = some (tup (n.val : Int)) := by decide +kernel
theorem tup_out {op : Int} (h : op < 0 ∨ 22 ≤ op) : tup op = (false, false, false, false, false) := by
  have e : hasF op = 0 := by unfold hasF; repeat' split
                             all_goals first | rfl | omega
  unfold tup
  rw [e]
  decide +kernel
theorem has2 (op : Int) : Ev (fun k => pleatref02_Has.f k op) (tup op) := by
  by_cases h : 0 ≤ op ∧ op < 22
  · exact ops22 (p := fun op => Ev (fun k => pleatref02_Has.f k op) (tup op)) (fun n => Ev.of (pleatref02_Has.mono _) (has2_in n)) h.1 h.2
  · rw [tup_out (by omega)]
    refine Ev.of (k := 8) (pleatref02_Has.mono _) ?_
    simp only [pleatref02_Has.f, pleatref02_Has.j0, pleatref02_Has.j1, pleatref02_Has.j2]
    repeat (rw [if_neg (by first | omega | (simp; omega))])
theorem bit_place_in : ∀ n : Fin 22, bitF (hasF (n.val : Int)) 16 = true → bitF (hasF (n.val : Int)) 8 = true := by decide +kernel
theorem bit_place {op : Int} (h : bitF (hasF op) 16 = true) : bitF (hasF op) 8 = true := by
  by_cases hr : 0 ≤ op ∧ op < 22
  · exact ops22 (p := fun op => bitF (hasF op) 16 = true → bitF (hasF op) 8 = true) bit_place_in hr.1 hr.2 h
  · have e := tup_out (op := op) (by omega)
    have : bitF (hasF op) 16 = false := congrArg (fun t : Bool × Bool × Bool × Bool × Bool => t.2.2.2.2) e
    rw [this] at h
    cases h
theorem hasF_in {op : Int} (h0 : 0 ≤ op) (h1 : op < 22) : hasF op = hasT op := by unfold hasF; rw [if_neg (by omega), if_neg (by omega)]

theorem and_u32 (i : Nat) (hi : i ≤ 32) {x : Int} (h0 : 0 ≤ x) (h1 : x < 4294967296) : Go.bits .and .u32 x (2 ^ i - 1) = x % 2 ^ i :=
  Go.bits_mask .u32 32 (by decide) (fun n a b => by rw [IntKind.wrap_u32]; omega) i hi x h0 (by omega)
theorem and_15 {x : Int} (h0 : 0 ≤ x) (h1 : x < 4294967296) : Go.bits .and .u32 x 15 = x % 16 := and_u32 4 (by decide) h0 h1
theorem and_32767 {x : Int} (h0 : 0 ≤ x) (h1 : x < 4294967296) : Go.bits .and .u32 x 32767 = x % 32768 := and_u32 15 (by decide) h0 h1
theorem or_u32 (i : Nat) {x y : Int} (hx0 : 0 ≤ x) (hx : x % 2 ^ i = 0) (hx1 : x < 4294967296) (hy0 : 0 ≤ y) (hy : y < 2 ^ i) (hy1 : y < 4294967296) : Go.bits .or .u32 x y = x + y :=
  Go.bits_join .u32 32 (by decide) (fun n a b => by rw [IntKind.wrap_u32]; omega) i x y hx0 hx (by omega) hy0 hy (by omega)
def wordS (op d a b n : Int) : Int := op * 134217728 + d * 8388608 + a * 524288 + b * 32768 + n % 32768
theorem encW_eq {op d a b n : Int} (h0 : 0 ≤ op) (h1 : op < 22) (d0 : 0 ≤ d) (d1 : d < 16) (a0 : 0 ≤ a) (a1 : a < 16) (b0 : 0 ≤ b) (b1 : b < 16) : encW op d a b n = wordS op d a b n := by
  unfold encW wordS
  rw [and_32767 (by omega) (by omega), or_u32 27 (x := op * 134217728) (y := d * 8388608) (by omega) (by omega) (by omega) (by omega) (by omega) (by omega),
    or_u32 23 (x := op * 134217728 + d * 8388608) (y := a * 524288) (by omega) (by omega) (by omega) (by omega) (by omega) (by omega),
    or_u32 19 (x := op * 134217728 + d * 8388608 + a * 524288) (y := b * 32768) (by omega) (by omega) (by omega) (by omega) (by omega) (by omega),
    or_u32 15 (y := n % 4294967296 % 32768) (by omega) (by omega) (by omega) (by omega) (by omega) (by omega)]
  omega
def encS (op d a b n : Int) : Int × Int := if op < 0 then (0, 10) else if op ≥ 22 then (0, 10) else if BadIns (hasT op) d a b n then (0, 11) else (wordS op d a b n, 0)
theorem not_bad {f d a b n : Int} (h : ¬ BadIns f d a b n) : (0 ≤ d ∧ d < 16) ∧ (0 ≤ a ∧ a < 16) ∧ (0 ≤ b ∧ b < 16) ∧ lowT f ≤ n ∧ n ≤ highT f := by
  unfold BadIns badReg at h
  omega
theorem enc1 (op d a b n : Int) : isa_Encode.f op d a b n = some (encS op d a b n) := by
  unfold isa_Encode.f encS
  split
  · rfl
  · split
    · rfl
    · split
      · rfl
      · rename_i h1 h2 h3
        obtain ⟨⟨d0, d1⟩, ⟨a0, a1⟩, ⟨b0, b1⟩, _⟩ := not_bad h3
        rw [encW_eq (by omega) (by omega) d0 d1 a0 a1 b0 b1]
theorem low_range (f : Int) : -16384 ≤ lowT f ∧ highT f ≤ 16383 := by
  unfold lowT highT
  repeat' split
  all_goals omega

theorem reg2 (f m r : Int) : pleatref02_register.f (bitF f m) r = some (decide (¬ badReg f r m)) := by
  unfold pleatref02_register.f badReg bitF
  by_cases h : Go.bits .and .i64 f m = 0
  · have e : (Go.bits .and .i64 f m != 0) = false := by simp [h]
    rw [e, if_neg (by decide)]
    congr 1
    rw [Bool.eq_iff_iff]
    simp [h]
    omega
  · have e : (Go.bits .and .i64 f m != 0) = true := by simp [h]
    rw [e, if_pos rfl]
    by_cases h2 : r ≥ 0
    · rw [if_pos h2]
      congr 1
      rw [Bool.eq_iff_iff]
      simp [h]
      omega
    · rw [if_neg h2]
      congr 1
      rw [Bool.eq_iff_iff]
      simp [h]
      omega
theorem num2 (op n : Int) : pleatref02_number.f (bitF (hasF op) 1) (bitF (hasF op) 2) (bitF (hasF op) 4) (bitF (hasF op) 8) (bitF (hasF op) 16) n = some (decide (¬ (n < lowT (hasF op) ∨ n > highT (hasF op)))) := by
  have hp := bit_place (op := op)
  unfold pleatref02_number.f lowT highT
  unfold bitF at hp ⊢
  by_cases h8 : Go.bits .and .i64 (hasF op) 8 = 0
  · have h16 : Go.bits .and .i64 (hasF op) 16 = 0 := by
      rcases Decidable.em (Go.bits .and .i64 (hasF op) 16 = 0) with h | h
      · exact h
      · have := hp (by simp [h])
        simp [h8] at this
    have e : (Go.bits .and .i64 (hasF op) 8 != 0) = false := by simp [h8]
    rw [e, if_neg (by decide)]
    congr 1
    rw [Bool.eq_iff_iff]
    simp [h8, h16]
    omega
  · have e : (Go.bits .and .i64 (hasF op) 8 != 0) = true := by simp [h8]
    rw [e, if_pos rfl]
    by_cases h16 : Go.bits .and .i64 (hasF op) 16 = 0
    · have e : (Go.bits .and .i64 (hasF op) 16 != 0) = false := by simp [h16]
      rw [e, if_neg (by decide), if_pos h16, if_pos h16, if_neg h8, if_neg h8]
      by_cases h2 : n ≥ -16384
      · rw [if_pos h2]; congr 1; rw [Bool.eq_iff_iff]; simp; omega
      · rw [if_neg h2]; congr 1; rw [Bool.eq_iff_iff]; simp; omega
    · have e : (Go.bits .and .i64 (hasF op) 16 != 0) = true := by simp [h16]
      rw [e, if_pos rfl, if_neg h16, if_neg h16]
      by_cases h2 : n ≥ 0
      · rw [if_pos h2]; congr 1; rw [Bool.eq_iff_iff]; simp; omega
      · rw [if_neg h2]; congr 1; rw [Bool.eq_iff_iff]; simp; omega

theorem enc2 (op d a b n : Int) : Ev (fun k => pleatref02_Encode.f k op d a b n) (encS op d a b n) := by
  have j1f : (0 ≤ op ∧ op < 22) → ¬ BadIns (hasT op) d a b n → Ev (fun k => pleatref02_Encode.j1 k false op d a b n) (wordS op d a b n, 0) := fun ho hb => by
    obtain ⟨⟨d0, d1⟩, ⟨a0, a1⟩, ⟨b0, b1⟩, n0, n1⟩ := not_bad hb
    have hl := low_range (hasT op)
    refine Ev.succ ?_
    simp only [pleatref02_Encode.j1]
    refine Ev.iteF (by decide) (Ev.ite2 (fun hn => Ev.val ?_) (fun hn => Ev.val ?_))
    · rw [wrap64_id (x := n + 32768) (by omega) (by omega)]
      unfold wordS
      refine Prod.ext ?_ rfl
      show _ = _
      omega
    · unfold wordS
      refine Prod.ext ?_ rfl
      show _ = _
      omega
  have j1t : Ev (fun k => pleatref02_Encode.j1 k true op d a b n) (0, 11) := by
    refine Ev.succ ?_
    simp only [pleatref02_Encode.j1]
    exact Ev.iteT trivial (Ev.val rfl)
  have j0t : Ev (fun k => pleatref02_Encode.j0 k true op d a b n) (0, 10) := by
    refine Ev.succ ?_
    simp only [pleatref02_Encode.j0]
    exact Ev.iteT trivial (Ev.val rfl)
  have j0f : (0 ≤ op ∧ op < 22) → Ev (fun k => pleatref02_Encode.j0 k false op d a b n) (if BadIns (hasT op) d a b n then (0, 11) else (wordS op d a b n, 0)) := fun ho => by
    have hF := hasF_in ho.1 ho.2
    refine Ev.succ ?_
    simp only [pleatref02_Encode.j0]
    refine Ev.iteF (by decide) (Ev.bind (has2 op) ?_)
    simp only [tup]
    refine Ev.bind0 (reg2 _ _ _) (Ev.ite2 (fun h1 => ?_) (fun h1 => ?_))
    · refine Ev.bind0 (reg2 _ _ _) (Ev.ite2 (fun h2 => ?_) (fun h2 => ?_))
      · refine Ev.bind0 (reg2 _ _ _) (Ev.ite2 (fun h3 => ?_) (fun h3 => ?_))
        · refine Ev.bind0 (num2 op n) ?_
          have g1 := of_decide_eq_true h1
          have g2 := of_decide_eq_true h2
          have g3 := of_decide_eq_true h3
          by_cases h4 : n < lowT (hasF op) ∨ n > highT (hasF op)
          · rw [if_pos (by rw [hF] at h4; exact .inr (.inr (.inr h4)))]
            have e : (!decide (¬ (n < lowT (hasF op) ∨ n > highT (hasF op)))) = true := by simpa using h4
            rw [e]
            exact j1t
          · have hb : ¬ BadIns (hasT op) d a b n := fun h => by
              rw [hF] at g1 g2 g3 h4
              rcases h with h | h | h | h
              · exact g1 h
              · exact g2 h
              · exact g3 h
              · exact h4 h
            rw [if_neg hb]
            have e : (!decide (¬ (n < lowT (hasF op) ∨ n > highT (hasF op)))) = false := by simpa using h4
            rw [e]
            exact j1f ho hb
        · have g := fun h => h3 (decide_eq_true h)
          rw [if_pos (by rw [hF] at g; exact .inr (.inr (.inl (Decidable.of_not_not g))))]
          exact j1t
      · have g := fun h => h2 (decide_eq_true h)
        rw [if_pos (by rw [hF] at g; exact .inr (.inl (Decidable.of_not_not g)))]
        exact j1t
    · have g := fun h => h1 (decide_eq_true h)
      rw [if_pos (by rw [hF] at g; exact .inl (Decidable.of_not_not g))]
      exact j1t
  unfold pleatref02_Encode.f encS
  refine Ev.ite2 (fun h => ?_) (fun h => ?_)
  · rw [if_pos h]
    exact j0t
  · rw [if_neg h]
    by_cases h2 : op ≥ 22
    · rw [if_pos h2, show (decide (op > 21)) = true from decide_eq_true (by omega)]
      exact j0t
    · rw [if_neg h2, show (decide (op > 21)) = false from decide_eq_false (by omega)]
      exact j0f ⟨by omega, by omega⟩

theorem i8_id {x : Int} (h0 : -128 ≤ x) (h1 : x ≤ 127) : IntKind.i8.wrap x = x := by
  simp [IntKind.wrap, IntKind.bits, IntKind.signed]
  omega
/-- The number of a word, its sign as its op has it. -/
def nS (w : Int) : Int := if bitF (hasF (w / 134217728)) 8 = true ∧ bitF (hasF (w / 134217728)) 16 = false ∧ 16384 ≤ w % 32768 then w % 32768 - 32768 else w % 32768
def decS (w : Int) : Int × Int × Int × Int × Int :=
  if encS (w / 134217728) (w / 8388608 % 16) (w / 524288 % 16) (w / 32768 % 16) (nS w) = (w, 0) then (w / 134217728, w / 8388608 % 16, w / 524288 % 16, w / 32768 % 16, nS w) else (-1, 0, 0, 0, w)
def decJ (w : Int) (b : Bool) (op d a c m : Int) : Int × Int × Int × Int × Int := if encS op d a c (if b = true then m - 32768 else m) = (w, 0) then (op, d, a, c, if b = true then m - 32768 else m) else (-1, 0, 0, 0, w)
theorem decJ1 {w : Int} (w0 : 0 ≤ w) (w1 : w < 4294967296) (b : Bool) (op d a c m : Int) (m0 : 0 ≤ m) (m1 : m < 32768) : Ev (fun k => isa_Decode.j0 k w b op d a c m) (decJ w b op d a c m) := by
  have hw : wrap64 w = w := wrap64_id (by omega) (by omega)
  have hm : wrap64 (m - 32768) = m - 32768 := wrap64_id (by omega) (by omega)
  refine Ev.succ ?_
  simp only [isa_Decode.j0, hw, hm]
  cases b with
  | true =>
    refine Ev.iteT rfl (Ev.bind0 (enc1 _ _ _ _ _) ?_)
    unfold decJ
    simp only [if_true]
    refine Ev.ite2 (fun h2 => Ev.ite2 (fun h1 => Ev.val ?_) (fun h1 => Ev.val ?_)) (fun h2 => Ev.val ?_)
    · rw [if_pos (Prod.ext h1 h2)]
    · rw [if_neg (fun h => h1 (by rw [h]))]
    · rw [if_neg (fun h => h2 (by rw [h]))]
  | false =>
    refine Ev.iteF (by decide) (Ev.bind0 (enc1 _ _ _ _ _) ?_)
    unfold decJ
    simp only [Bool.false_eq_true, if_false]
    refine Ev.ite2 (fun h2 => Ev.ite2 (fun h1 => Ev.val ?_) (fun h1 => Ev.val ?_)) (fun h2 => Ev.val ?_)
    · rw [if_pos (Prod.ext h1 h2)]
    · rw [if_neg (fun h => h1 (by rw [h]))]
    · rw [if_neg (fun h => h2 (by rw [h]))]
theorem decJ2 {w : Int} (w0 : 0 ≤ w) (w1 : w < 4294967296) (b : Bool) (op d a c m : Int) (m0 : 0 ≤ m) (m1 : m < 32768) : Ev (fun k => pleatref02_Decode.j0 k w b op d a c m) (decJ w b op d a c m) := by
  have hw : wrap64 w = w := wrap64_id (by omega) (by omega)
  have hm : wrap64 (m - 32768) = m - 32768 := wrap64_id (by omega) (by omega)
  refine Ev.succ ?_
  simp only [pleatref02_Decode.j0, hw, hm]
  cases b with
  | true =>
    refine Ev.iteT rfl (Ev.bind (enc2 _ _ _ _ _) ?_)
    unfold decJ
    simp only [if_true]
    refine Ev.ite2 (fun h2 => Ev.ite2 (fun h1 => Ev.val ?_) (fun h1 => Ev.val ?_)) (fun h2 => Ev.val ?_)
    · rw [if_pos (Prod.ext h1 h2)]
    · rw [if_neg (fun h => h1 (by rw [h]))]
    · rw [if_neg (fun h => h2 (by rw [h]))]
  | false =>
    refine Ev.iteF (by decide) (Ev.bind (enc2 _ _ _ _ _) ?_)
    unfold decJ
    simp only [Bool.false_eq_true, if_false]
    refine Ev.ite2 (fun h2 => Ev.ite2 (fun h1 => Ev.val ?_) (fun h1 => Ev.val ?_)) (fun h2 => Ev.val ?_)
    · rw [if_pos (Prod.ext h1 h2)]
    · rw [if_neg (fun h => h1 (by rw [h]))]
    · rw [if_neg (fun h => h2 (by rw [h]))]
theorem parts {w : Int} (w0 : 0 ≤ w) (w1 : w < 4294967296) : IntKind.i8.wrap (w / 134217728) = w / 134217728 ∧ IntKind.i8.wrap (Go.bits .and .u32 (w / 8388608) 15) = w / 8388608 % 16 ∧ IntKind.i8.wrap (Go.bits .and .u32 (w / 524288) 15) = w / 524288 % 16 ∧
    IntKind.i8.wrap (Go.bits .and .u32 (w / 32768) 15) = w / 32768 % 16 ∧ wrap64 (Go.bits .and .u32 w 32767) = w % 32768 := by
  rw [and_15 (by omega) (by omega), and_15 (by omega) (by omega), and_15 (by omega) (by omega), and_32767 w0 w1]
  exact ⟨i8_id (by omega) (by omega), i8_id (by omega) (by omega), i8_id (by omega) (by omega), i8_id (by omega) (by omega), wrap64_id (by omega) (by omega)⟩
theorem dec1 {w : Int} (w0 : 0 ≤ w) (w1 : w < 4294967296) : Ev (fun k => isa_Decode.f k w) (decS w) := by
  have m0 : 0 ≤ w % 32768 := by omega
  have m1 : w % 32768 < 32768 := by omega
  obtain ⟨p1, p2, p3, p4, p5⟩ := parts w0 w1
  have J := fun b => decJ1 w0 w1 b (w / 134217728) (w / 8388608 % 16) (w / 524288 % 16) (w / 32768 % 16) (w % 32768) m0 m1
  have E0 : (bitF (hasF (w / 134217728)) 8 = true ∧ bitF (hasF (w / 134217728)) 16 = false ∧ 16384 ≤ w % 32768) → decJ w true (w / 134217728) (w / 8388608 % 16) (w / 524288 % 16) (w / 32768 % 16) (w % 32768) = decS w := fun h => by
    unfold decJ decS nS
    simp only [if_pos h, if_true]
  have E1 : ¬ (bitF (hasF (w / 134217728)) 8 = true ∧ bitF (hasF (w / 134217728)) 16 = false ∧ 16384 ≤ w % 32768) → decJ w false (w / 134217728) (w / 8388608 % 16) (w / 524288 % 16) (w / 32768 % 16) (w % 32768) = decS w := fun h => by
    unfold decJ decS nS
    simp only [if_neg h, Bool.false_eq_true, if_false]
  unfold isa_Decode.f
  rw [p1, p2, p3, p4, p5]
  refine Ev.bind0 (has1 _) (Ev.ite2 (fun h8 => ?_) (fun h8 => Ev.ite2 (fun h16 => ?_) (fun h16 => ?_)))
  · exact Ev.to (J false) (E1 (fun h => by simp [bitF, h8] at h))
  · by_cases hm : w % 32768 ≥ 16384
    · rw [show decide (w % 32768 ≥ 16384) = true from decide_eq_true hm]
      exact Ev.to (J true) (E0 ⟨by simp [bitF, h8], by simp [bitF, h16], hm⟩)
    · rw [show decide (w % 32768 ≥ 16384) = false from decide_eq_false hm]
      exact Ev.to (J false) (E1 (fun h => hm h.2.2))
  · exact Ev.to (J false) (E1 (fun h => by simp [bitF, h16] at h))
theorem dec2 {w : Int} (w0 : 0 ≤ w) (w1 : w < 4294967296) : Ev (fun k => pleatref02_Decode.f k w) (decS w) := by
  have m0 : 0 ≤ w % 32768 := by omega
  have m1 : w % 32768 < 32768 := by omega
  obtain ⟨p1, p2, p3, p4, p5⟩ := parts w0 w1
  have J := fun b => decJ2 w0 w1 b (w / 134217728) (w / 8388608 % 16) (w / 524288 % 16) (w / 32768 % 16) (w % 32768) m0 m1
  have E0 : (bitF (hasF (w / 134217728)) 8 = true ∧ bitF (hasF (w / 134217728)) 16 = false ∧ 16384 ≤ w % 32768) → decJ w true (w / 134217728) (w / 8388608 % 16) (w / 524288 % 16) (w / 32768 % 16) (w % 32768) = decS w := fun h => by
    unfold decJ decS nS
    simp only [if_pos h, if_true]
  have E1 : ¬ (bitF (hasF (w / 134217728)) 8 = true ∧ bitF (hasF (w / 134217728)) 16 = false ∧ 16384 ≤ w % 32768) → decJ w false (w / 134217728) (w / 8388608 % 16) (w / 524288 % 16) (w / 32768 % 16) (w % 32768) = decS w := fun h => by
    unfold decJ decS nS
    simp only [if_neg h, Bool.false_eq_true, if_false]
  unfold pleatref02_Decode.f
  rw [p1, p2, p3, p4, p5]
  refine Ev.bind (has2 _) ?_
  simp only [tup]
  refine Ev.ite2 (fun h8 => Ev.ite2 (fun h16 => ?_) (fun h16 => ?_)) (fun h8 => ?_)
  · exact Ev.to (J false) (E1 (fun h => by rw [h16] at h; cases h.2.1))
  · by_cases hm : w % 32768 ≥ 16384
    · rw [show decide (w % 32768 ≥ 16384) = true from decide_eq_true hm]
      exact Ev.to (J true) (E0 ⟨h8, by simpa using h16, hm⟩)
    · rw [show decide (w % 32768 ≥ 16384) = false from decide_eq_false hm]
      exact Ev.to (J false) (E1 (fun h => hm h.2.2))
  · exact Ev.to (J false) (E1 (fun h => h8 h.1))
theorem encS_ok {op d a b n w : Int} (h : encS op d a b n = (w, 0)) : (0 ≤ op ∧ op < 22) ∧ ¬ BadIns (hasT op) d a b n ∧ w = wordS op d a b n := by
  unfold encS at h
  split at h
  · injection h with h1 h2; cases h2
  · split at h
    · injection h with h1 h2; cases h2
    · split at h
      · injection h with h1 h2; cases h2
      · injection h with h1 h2
        exact ⟨⟨by omega, by omega⟩, by assumption, h1.symm⟩
theorem encS_snd (op d a b n : Int) : (encS op d a b n).2 = 0 ∨ ((encS op d a b n).1 = 0 ∧ ((encS op d a b n).2 = 10 ∨ (encS op d a b n).2 = 11)) := by
  unfold encS
  repeat' split
  all_goals simp
theorem encS_fst (op d a b n : Int) : 0 ≤ (encS op d a b n).1 ∧ (encS op d a b n).1 < 4294967296 := by
  by_cases h : (encS op d a b n).2 = 0
  · obtain ⟨⟨h0, h1⟩, hb, hw⟩ := encS_ok (w := (encS op d a b n).1) (Prod.ext rfl h)
    obtain ⟨⟨d0, d1⟩, ⟨a0, a1⟩, ⟨b0, b1⟩, _⟩ := not_bad hb
    unfold wordS at hw
    omega
  · have := encS_snd op d a b n
    omega
theorem round_trip {op d a b n w : Int} (h : encS op d a b n = (w, 0)) : decS w = (op, d, a, b, n) := by
  obtain ⟨⟨h0, h1⟩, hb, hw⟩ := encS_ok h
  obtain ⟨⟨d0, d1⟩, ⟨a0, a1⟩, ⟨b0, b1⟩, n0, n1⟩ := not_bad hb
  have hl := low_range (hasT op)
  have q : 0 ≤ n % 32768 ∧ n % 32768 < 32768 := by omega
  unfold wordS at hw
  generalize hm : n % 32768 = m at hw q
  have e1 : w / 134217728 = op := by omega
  have e2 : w / 8388608 % 16 = d := by omega
  have e3 : w / 524288 % 16 = a := by omega
  have e4 : w / 32768 % 16 = b := by omega
  have e5 : w % 32768 = m := by omega
  have e6 : nS w = n := by
    unfold nS bitF
    rw [e1, e5, hasF_in h0 h1]
    unfold lowT at n0
    unfold highT at n1
    by_cases h16 : Go.bits .and .i64 (hasT op) 16 = 0
    · rw [if_pos h16] at n0 n1
      by_cases h8 : Go.bits .and .i64 (hasT op) 8 = 0
      · rw [if_pos h8] at n0 n1
        rw [if_neg (by simp [h8])]
        omega
      · rw [if_neg h8] at n0 n1
        by_cases hmm : 16384 ≤ m
        · rw [if_pos (by simp [h8, h16, hmm])]; omega
        · rw [if_neg (by simp [hmm])]; omega
    · rw [if_neg h16] at n0 n1
      rw [if_neg (by simp [h16])]
      omega
  unfold decS
  rw [e1, e2, e3, e4, e6, if_pos h]
/-- What a word decodes to is the instruction that has it, or none. -/
theorem decS_cases (w : Int) : (decS w).1 = -1 ∧ decS w = (-1, 0, 0, 0, w) ∨ 0 ≤ (decS w).1 ∧ encS (decS w).1 (decS w).2.1 (decS w).2.2.1 (decS w).2.2.2.1 (decS w).2.2.2.2 = (w, 0) := by
  unfold decS
  split
  · rename_i h
    exact .inr ⟨(encS_ok h).1.1, h⟩
  · exact .inl ⟨rfl, rfl⟩

def tgtS (w : Int) : Int × Bool := if bitF (hasF (decS w).1) 16 = true then ((decS w).2.2.2.2, true) else (0, false)
theorem tgt1 {w : Int} (w0 : 0 ≤ w) (w1 : w < 4294967296) : Ev (fun k => isa_Target.f k w) (tgtS w) := by
  unfold isa_Target.f tgtS
  refine Ev.bind (dec1 w0 w1) (Ev.bind0 (has1 _) (Ev.ite2 (fun h => Ev.val ?_) (fun h => Ev.val ?_)))
  · rw [if_neg (by simp [bitF, h])]
  · rw [if_pos (by simp [bitF, h])]
theorem tgt2 {w : Int} (w0 : 0 ≤ w) (w1 : w < 4294967296) : Ev (fun k => pleatref02_Target.f k w) (tgtS w) := by
  unfold pleatref02_Target.f tgtS
  refine Ev.bind (dec2 w0 w1) (Ev.ite2 (fun h => Ev.val ?_) (fun h => Ev.bind (has2 _) ?_))
  · have e := tup_out (op := (decS w).1) (.inl h)
    have : bitF (hasF (decS w).1) 16 = false := congrArg (fun t : Bool × Bool × Bool × Bool × Bool => t.2.2.2.2) e
    rw [this]
    rfl
  · simp only [tup]
    exact Ev.ite2 (fun h => Ev.val (by rw [if_pos h])) (fun h => Ev.val (by rw [if_neg h]))
/-- A target is a place. -/
theorem tgtS_range {w : Int} (h : (tgtS w).2 = true) : 0 ≤ (tgtS w).1 ∧ (tgtS w).1 < 16384 := by
  unfold tgtS at h ⊢
  split at h
  · rename_i hb
    rw [if_pos hb]
    rcases decS_cases w with ⟨h1, _⟩ | ⟨h1, h2⟩
    · have e := tup_out (op := (decS w).1) (.inl (by omega))
      have : bitF (hasF (decS w).1) 16 = false := congrArg (fun t : Bool × Bool × Bool × Bool × Bool => t.2.2.2.2) e
      rw [this] at hb
      cases hb
    · obtain ⟨⟨g0, g1⟩, hbad, _⟩ := encS_ok h2
      obtain ⟨_, _, _, n0, n1⟩ := not_bad hbad
      rw [hasF_in g0 g1] at hb
      have h16 : ¬ Go.bits .and .i64 (hasT (decS w).1) 16 = 0 := by simpa [bitF] using hb
      unfold lowT at n0
      unfold highT at n1
      rw [if_neg h16] at n0 n1
      exact ⟨n0, by show (decS w).2.2.2.2 < 16384; omega⟩
  · cases h
theorem tgtS_false {w : Int} (h : (tgtS w).2 = false) : (tgtS w).1 = 0 := by
  unfold tgtS at h ⊢
  split at h
  · cases h
  · rename_i hb
    rw [if_neg hb]

def endsO (op : Int) : Bool := if op = -1 then true else if op = 0 then true else if op = 15 then true else if op = 16 then true else if op = 17 then true else if op = 18 then true else if op = 19 then true else if op = 21 then true else false
theorem ends1 {w : Int} (w0 : 0 ≤ w) (w1 : w < 4294967296) : Ev (fun k => isa_Ends.f k w) (endsO (decS w).1) := by
  unfold isa_Ends.f endsO
  refine Ev.bind (dec1 w0 w1) ?_
  iterate 8 (refine Ev.ite2 (fun h => Ev.val (by rw [if_pos h])) (fun h => ?_); rw [if_neg h])
  exact Ev.val rfl
theorem ends2 {w : Int} (w0 : 0 ≤ w) (w1 : w < 4294967296) : Ev (fun k => pleatref02_Ends.f k w) (endsO (decS w).1) := by
  unfold pleatref02_Ends.f endsO
  refine Ev.bind (dec2 w0 w1) ?_
  iterate 8 (refine Ev.ite2 (fun h => Ev.val (by rw [if_pos h])) (fun h => ?_); rw [if_neg h])
  exact Ev.val rfl
def fallsO (op : Int) : Bool := if endsO op = true then op == 16 else true
theorem falls1 {w : Int} (w0 : 0 ≤ w) (w1 : w < 4294967296) : Ev (fun k => isa_Falls.f k w) (fallsO (decS w).1) := by
  unfold isa_Falls.f fallsO
  refine Ev.bind (ends1 w0 w1) (Ev.ite2 (fun h => Ev.bind (dec1 w0 w1) (Ev.val (by rw [if_pos h]))) (fun h => Ev.val (by rw [if_neg h])))
theorem falls2 {w : Int} (w0 : 0 ≤ w) (w1 : w < 4294967296) : Ev (fun k => pleatref02_Falls.f k w) (fallsO (decS w).1) := by
  unfold pleatref02_Falls.f fallsO
  refine Ev.bind (ends2 w0 w1) (Ev.ite2 (fun h => Ev.bind (dec2 w0 w1) (Ev.val (by rw [if_pos h]))) (fun h => Ev.val (by rw [if_neg h])))

end Go.Proofs.Ytiaohbbafaaibaa.P

/- OWN TEXT: whether an image may be, over plain numbers: the program's and the reference's check; what a gathering marks. -/
set_option linter.unusedVariables false
set_option linter.unusedSimpArgs false
namespace Go.Proofs.Ytiaohbbafaaibaa.P
open Go.RowKit Go.Proofs.YtiaohbbafaaibaaW.PrintWords Go.Proofs.YtiaohbbafaaibaaW.PrintLast Go.Proofs.YtiaohbbafaaibaaW.PrintMore

def Words (t : List Int) : Prop := ∀ x ∈ t, 0 ≤ x ∧ x < 4294967296
theorem Words.at {t : List Int} (h : Words t) {i : Nat} (hi : i < t.length) : 0 ≤ t[i] ∧ t[i] < 4294967296 := h _ (List.getElem_mem hi)
/-- the first word whose target lies beyond. -/
def scanT (n : Int) : List Int → Nat → Option Nat
  | [], _ => none
  | x :: r, i => if (tgtS x).2 = true then (if (tgtS x).1 ≥ n then some i else scanT n r (i + 1)) else scanT n r (i + 1)
def lastS (op n : Int) : Int × Int := if op = 0 then (0, 0) else if op = 15 then (0, 0) else if op = 19 then (0, 0) else if op = 21 then (0, 0) else (50, n - 1)
def chkS (t : List Int) (en : Int) (m : List Int) : Int × Int :=
  if (t.length : Int) = 0 then (50, 0) else if (t.length : Int) > 16384 then (42, 16384) else if (m.length : Int) > 4096 then (25, 4096) else if en < 0 then (41, 0) else if en ≥ (t.length : Int) then (41, 0)
  else match scanT (t.length : Int) t 0 with
    | some j => (22, (j : Int))
    | none => lastS (decS (rd t ((t.length : Int) - 1))).1 (t.length : Int)
theorem chk1_l {t : List Int} (ht : Words t) (hn0 : t.length ≠ 0) (hn : t.length ≤ 16384) (en : Int) (m : List Int) : ∀ d i : Nat, i + d = t.length →
    Ev (fun k => image_Check.l0 k (t.length : Int) t (t.length : Int) (i : Int) t en m) (match scanT (t.length : Int) (t.drop i) i with | some j => (22, (j : Int)) | none => lastS (decS (rd t ((t.length : Int) - 1))).1 (t.length : Int)) := by
  intro d
  induction d with
  | zero =>
    intro i hi
    have hd : t.drop i = [] := List.drop_eq_nil_of_le (by omega)
    rw [hd]
    have hw : wrap64 ((t.length : Int) - 1) = (t.length : Int) - 1 := wrap64_id (by omega) (by omega)
    have hl := ht.at (i := t.length - 1) (by omega)
    have hr : rd t ((t.length : Int) - 1) = t[t.length - 1] := by rw [show (t.length : Int) - 1 = ((t.length - 1 : Nat) : Int) by omega]; exact rd_get (by omega)
    refine Ev.succ (Ev.iteF (by omega) ?_)
    simp only [hw]
    refine Ev.iteT (by omega) (Ev.iteT (by omega) (Ev.bind (dec1 (by rw [hr]; exact hl.1) (by rw [hr]; exact hl.2)) ?_))
    unfold lastS
    show Ev _ (if _ then _ else _)
    refine (Ev.ite2 (fun h => Ev.val (by rw [if_pos h])) (fun h => ?_))
    rw [if_neg h]
    refine (Ev.ite2 (fun h => Ev.val (by rw [if_pos h])) (fun h => ?_))
    rw [if_neg h]
    refine (Ev.ite2 (fun h => Ev.val (by rw [if_pos h])) (fun h => ?_))
    rw [if_neg h]
    exact (Ev.ite2 (fun h => Ev.val (by rw [if_pos h])) (fun h => Ev.val (by rw [if_neg h])))
  | succ d ih =>
    intro i hi
    have hlt : i < t.length := by omega
    have hx := ht.at hlt
    have hr : rd t (i : Int) = t[i] := rd_get hlt
    have hw : wrap64 ((i : Int) + 1) = ((i + 1 : Nat) : Int) := by rw [wrap64_id (by omega) (by omega)]; rfl
    have IH := ih (i + 1) (by omega)
    rw [drop_get hlt]
    unfold scanT
    refine Ev.succ (Ev.iteT (by omega) (Ev.iteT (by omega) (Ev.iteT (by omega) ?_)))
    simp only [hr, hw]
    refine Ev.bind (tgt1 hx.1 hx.2) (Ev.ite2 (fun h => ?_) (fun h => ?_))
    · rw [if_pos h]
      refine Ev.ite2 (fun h1 => Ev.val (by rw [if_pos h1])) (fun h1 => ?_)
      rw [if_neg h1]
      exact IH
    · rw [if_neg h]
      exact IH
theorem chk1 {t : List Int} (ht : Words t) (en : Int) (m : List Int) : Ev (fun k => image_Check.f k t en m) (chkS t en m) := by
  unfold image_Check.f chkS
  refine Ev.ite2 (fun h => Ev.val (by rw [if_pos h])) (fun h0 => ?_)
  rw [if_neg h0]
  refine Ev.ite2 (fun h => Ev.val (by rw [if_pos h])) (fun h1 => ?_)
  rw [if_neg h1]
  refine Ev.ite2 (fun h => Ev.val (by rw [if_pos h])) (fun h => ?_)
  rw [if_neg h]
  refine Ev.ite2 (fun h => Ev.val (by rw [if_pos h])) (fun h => ?_)
  rw [if_neg h]
  refine Ev.ite2 (fun h => Ev.val (by rw [if_pos h])) (fun h => ?_)
  rw [if_neg h]
  have := chk1_l ht (by omega) (by omega) en m t.length 0 (by omega)
  rw [List.drop_zero] at this
  exact this
theorem chk2_l {t : List Int} (ht : Words t) (hn0 : t.length ≠ 0) (hn : t.length ≤ 16384) (en : Int) (m : List Int) : ∀ d i : Nat, i + d = t.length →
    Ev (fun k => pleatref07_Check.l0 k (t.length : Int) (i : Int) t en m) (match scanT (t.length : Int) (t.drop i) i with | some j => (22, (j : Int)) | none => lastS (decS (rd t ((t.length : Int) - 1))).1 (t.length : Int)) := by
  intro d
  induction d with
  | zero =>
    intro i hi
    have hd : t.drop i = [] := List.drop_eq_nil_of_le (by omega)
    rw [hd]
    have hw : wrap64 ((t.length : Int) - 1) = (t.length : Int) - 1 := wrap64_id (by omega) (by omega)
    have hl := ht.at (i := t.length - 1) (by omega)
    have hr : rd t ((t.length : Int) - 1) = t[t.length - 1] := by rw [show (t.length : Int) - 1 = ((t.length - 1 : Nat) : Int) by omega]; exact rd_get (by omega)
    refine Ev.succ (Ev.iteF (by omega) ?_)
    simp only [hw]
    refine Ev.iteT (by omega) (Ev.iteT (by omega) (Ev.bind (dec2 (by rw [hr]; exact hl.1) (by rw [hr]; exact hl.2)) ?_))
    unfold lastS
    show Ev _ (if _ then _ else _)
    refine (Ev.ite2 (fun h => Ev.val (by rw [if_pos h])) (fun h => ?_))
    rw [if_neg h]
    refine (Ev.ite2 (fun h => Ev.val (by rw [if_pos h])) (fun h => ?_))
    rw [if_neg h]
    refine (Ev.ite2 (fun h => Ev.val (by rw [if_pos h])) (fun h => ?_))
    rw [if_neg h]
    exact (Ev.ite2 (fun h => Ev.val (by rw [if_pos h])) (fun h => Ev.val (by rw [if_neg h])))
  | succ d ih =>
    intro i hi
    have hlt : i < t.length := by omega
    have hx := ht.at hlt
    have hr : rd t (i : Int) = t[i] := rd_get hlt
    have hw : wrap64 ((i : Int) + 1) = ((i + 1 : Nat) : Int) := by rw [wrap64_id (by omega) (by omega)]; rfl
    have IH := ih (i + 1) (by omega)
    rw [drop_get hlt]
    unfold scanT
    refine Ev.succ (Ev.iteT (by omega) (Ev.iteT (by omega) (Ev.iteT (by omega) ?_)))
    simp only [hr, hw]
    refine Ev.bind (tgt2 hx.1 hx.2) (Ev.ite2 (fun h => ?_) (fun h => ?_))
    · rw [if_pos h]
      refine Ev.ite2 (fun h1 => Ev.val (by rw [if_pos h1])) (fun h1 => ?_)
      rw [if_neg h1]
      exact IH
    · rw [if_neg h]
      exact IH
theorem chk2 {t : List Int} (ht : Words t) (en : Int) (m : List Int) : Ev (fun k => pleatref07_Check.f k t en m) (chkS t en m) := by
  unfold pleatref07_Check.f chkS
  refine Ev.ite2 (fun h => Ev.val (by rw [if_pos h])) (fun h0 => ?_)
  rw [if_neg h0]
  refine Ev.ite2 (fun h => Ev.val (by rw [if_pos h])) (fun h1 => ?_)
  rw [if_neg h1]
  refine Ev.ite2 (fun h => Ev.val (by rw [if_pos h])) (fun h => ?_)
  rw [if_neg h]
  refine Ev.ite2 (fun h => ?_) (fun h => ?_)
  · rw [if_pos h]
    refine Ev.succ ?_
    simp only [pleatref07_Check.j0, if_true]
    exact Ev.val rfl
  rw [if_neg h]
  refine Ev.succ (Ev.ite2 (fun h => Ev.val (by rw [if_pos (of_decide_eq_true h)])) (fun h => ?_))
  rw [if_neg (fun hc => h (decide_eq_true hc))]
  have := chk2_l ht (by omega) (by omega) en m t.length 0 (by omega)
  rw [List.drop_zero] at this
  exact this

/-- WHAT EACH WORD MARKS. kind 0: labels; 1: taken; 2: sites; 3: blocks' beginnings. -/
def tgtL (x : Int) : List Int := if (tgtS x).2 = true then [(tgtS x).1] else []
def hit0 (x en : Int) (i : Nat) : List Int := tgtL x ++ [en]
def hit1 (x en : Int) (i : Nat) : List Int := if (decS x).1 = 20 then [(decS x).2.2.2.2] else []
def hit2 (x en : Int) (i : Nat) : List Int := if (decS x).1 = 17 then [(i : Int) + 1] else if (decS x).1 = 18 then [(i : Int) + 1] else []
def hit3 (x en : Int) (i : Nat) : List Int := tgtL x ++ ((if endsO (decS x).1 = true then [(i : Int) + 1] else []) ++ [en, 0])
end Go.Proofs.Ytiaohbbafaaibaa.P

/- OWN TEXT: a map[K]bool that a call has made and uses as a set: what it holds, how a look-up without 'ok' answers, how a store turns it. -/
namespace Go.Proofs.Ytiaohbbafaaibaa.MapB
open Go.RowKit Go.Maps Go.Proofs.YtiaohbbafaaibaaW.PrintWords Go.Proofs.Ytiaohbbafaaibaa.Arr
set_option linter.unusedVariables false
set_option linter.unusedSimpArgs false

def Seen (w : World) (P : Program) (k e : TypeId) (b n : Nat) (S : Lit → Bool) : Prop :=
  ∃ D : DataW Unit, w.ownsMap P k (plainElem P e) b n D ∧ ∀ kl, WideAt.IsKeyLit kl → D.atKey kl (.lit (.bool false)) = .lit (.bool (S kl))
def addS (S : Lit → Bool) (kl : Lit) : Lit → Bool := fun l => l.sameKey kl || S l
variable {P : Program} {k e : TypeId} {w : World} {b n : Nat} {S : Lit → Bool}
theorem Seen.made (w : World) (P : Program) (k e : TypeId) : Seen (w.alloc (.map #[] 0)) P k e w.heap.size 0 (fun _ => false) :=
  ⟨.map [], World.ownsMap_made w P k _, fun kl _ => rfl⟩
theorem Seen.kept {w' : World} {row : Option Nat} (h : Seen w P k e b n S) (hg : w.grownBy w' row) (hne : some b ≠ row) : Seen w' P k e b n S := by
  obtain ⟨D, h1, h2⟩ := h
  exact ⟨D, h1.kept hg hne, h2⟩
theorem Seen.alloc (h : Seen w P k e b n S) (o : Obj) : Seen (w.alloc o) P k e b n S := h.kept (World.grownBy_alloc w o none) (by simp)
theorem Seen.below {w' : World} (h : Seen w P k e b n S) (hb : Below w.heap.size w w') : Seen w' P k e b n S := h.kept (grown_of_below hb none) (by simp)
theorem Seen.setCell (h : Seen w P k e b n S) {a : Addr} (ha : b ≠ a.block) (u : Value) : Seen (w.setCell a u) P k e b n S := by
  obtain ⟨D, h1, h2⟩ := h
  exact ⟨D, h1.setCell ha u, h2⟩
theorem Seen.mono (h : Seen w P k e b n S) {n' : Nat} (hn : n ≤ n') : Seen w P k e b n' S := by
  obtain ⟨D, h1, h2⟩ := h
  exact ⟨D, h1.mono hn, h2⟩
theorem Seen.to {S' : Lit → Bool} (h : Seen w P k e b n S) (e1 : S = S') : Seen w P k e b n S' := e1 ▸ h
theorem Seen.lt (h : Seen w P k e b n S) : b < w.heap.size := by
  obtain ⟨D, h1, h2⟩ := h
  exact h1.lt
theorem plainElem_bool_inv {H : Type} {P : Program} {e : TypeId} (he : P.underlying e = some .bool) {v : Value} {z : DataW H × List MemPlace} (h : plainElem P e v = some z) : ∃ x, v = .bool x ∧ z = (.lit (.bool x), []) := by
  unfold plainElem at h
  rw [he] at h
  cases v <;> simp at h
  exact ⟨_, rfl, h.symm⟩
theorem Seen.lookup {t : TypeId} (h : Seen w P k e b n S) (K : Keyed P k) (ht : P.underlying t = some (.map k e)) (he : P.underlying e = some .bool) (hz : (zeroValue e).run P w = .ok (.bool false) w)
    {key : Value} {kl : Lit} (hkey : keyOf P k key = some kl) (hkl : WideAt.IsKeyLit kl) : (Instr.lookup t (.map (some b)) key false).run P w = .ok (.bool (S kl)) w := by
  obtain ⟨D, h1, h2⟩ := h
  obtain ⟨v, ps, hrun, hv⟩ := h1.lookup K ht hz (plainElem_bool (H := Unit) he false) hkey
  obtain ⟨x, rfl, hx⟩ := plainElem_bool_inv he hv
  have hx1 := congrArg Prod.fst hx
  rw [h2 kl hkl] at hx1
  have hx2 : S kl = x := by
    have := DataW.lit.inj hx1
    injection this
  rw [hx2]
  exact hrun
theorem Seen.add {t : TypeId} (h : Seen w P k e b n S) (K : Keyed P k) (ht : P.underlying t = some (.map k e)) (he : P.underlying e = some .bool) (hn : n < maxLen)
    {key : Value} {kl : Lit} (hkey : keyOf P k key = some kl) (hkl : WideAt.IsKeyLit kl) : ∃ w', (Instr.mapUpdate t (.map (some b)) key (.bool true)).run P w = .ok () w' ∧ Seen w' P k e b (n + 1) (addS S kl) ∧ w.grownBy w' (some b) := by
  obtain ⟨D, h1, h2⟩ := h
  obtain ⟨w', r1, r2, r3⟩ := h1.update K ht hn hkey (plainElem_bool (H := Unit) he true)
  refine ⟨w', r1, ⟨_, r2, fun l hl => ?_⟩, r3⟩
  unfold addS
  by_cases hc : l = kl
  · subst hc
    rw [atKey_put_same h1.isMap hkl, WideAt.sameKey_self hkl]
    rfl
  · rw [atKey_put_other hc, h2 l hl, sameKey_ne hc]
    rfl
section
variable {ops : Array Oper} {rest : List Oper} {o : Oper} {a : Act} {Q : Exit → Act → World → Prop}
theorem wpList_lookup_seen (hg : o.guard = none) (m x : Operand) (t : TypeId) (hop : o.op = Op.lookup t m x false)
    (k e : TypeId) (K : Keyed P k) (ht : P.underlying t = some (.map k e)) (he : P.underlying e = some .bool) (hz : (zeroValue e).run P w = .ok (.bool false) w) (b n : Nat) (S : Lit → Bool)
    (hm : a.eval m = .map (some b)) (hs : Seen w P k e b n S) (key : Value) (kl : Lit) (hx : a.eval x = key) (hkey : keyOf P k key = some kl) (hkl : WideAt.IsKeyLit kl)
    (hK : wpList P ops Q rest (a.put o.dst (.bool (S kl))) w) : wpList P ops Q (o :: rest) a w := by
  refine wpList_plain hg fun K' hK' => ?_
  have hrun := hs.lookup K ht he hz hkey hkl
  unfold Oper.wp
  simp [execOp, hop, hm, hx, hrun, Result.andThen]
  exact hK' _ _ hK
theorem wpList_update_seen (hg : o.guard = none) (m x v : Operand) (t : TypeId) (hop : o.op = Op.mapUpdate t m x v)
    (k e : TypeId) (K : Keyed P k) (ht : P.underlying t = some (.map k e)) (he : P.underlying e = some .bool) (b n : Nat) (S : Lit → Bool)
    (hm : a.eval m = .map (some b)) (hs : Seen w P k e b n S) (hn : n < maxLen) (key : Value) (kl : Lit) (hx : a.eval x = key) (hv : a.eval v = .bool true) (hkey : keyOf P k key = some kl) (hkl : WideAt.IsKeyLit kl)
    (hK : ∀ w', Seen w' P k e b (n + 1) (addS S kl) → w.grownBy w' (some b) → wpList P ops Q rest (a.put o.dst undef) w') : wpList P ops Q (o :: rest) a w := by
  refine wpList_plain hg fun K' hK' => ?_
  obtain ⟨w', hrun, r1, r2⟩ := hs.add K ht he hn hkey hkl
  unfold Oper.wp
  simp [execOp, hop, hm, hx, hv, hrun, Result.andThen]
  exact hK' _ _ (hK w' r1 r2)
theorem wpList_make_map {W : World} (hgd : o.guard = none) {N : Tmp} (_hd : o.dst = some N) {t : TypeId} (hop : o.op = Op.makeMap t none)
    (hrun : (execOp a.eval o).run P W = .ok (.value (.map (some W.heap.size))) (W.alloc (.map #[] 0)))
    (h : ∀ g, g = W.heap.size → ∀ w1, Seen w1 P k e g 0 (fun _ => false) → Below W.heap.size W w1 → wpList P ops Q rest (a.put o.dst (.map (some g))) w1) : wpList P ops Q (o :: rest) a W :=
  Kd.event_run hgd hrun (h _ rfl _ (Seen.made W P k e) (below_alloc (Below.refl _ _) _))
end
end Go.Proofs.Ytiaohbbafaaibaa.MapB
