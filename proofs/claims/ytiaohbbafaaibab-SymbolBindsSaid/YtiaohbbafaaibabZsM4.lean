/- OWN TEXT and printed parts of this claim, laid together: P16. -/
import Derived.Test.YtiaohbbafaaibabZsM0
import Derived.Test.YtiaohbbafaaibabZsM3
/- What the Go functions named below come to, as plain functions, each with its proof; written by this session's prt.py over the kit's print. -/
namespace Go.Proofs.Ytiaohbbafaaibab.P
open Go.RowKit Go.Proofs.YtiaohbbafaaibabW.PrintWords Go.Proofs.YtiaohbbafaaibabW.PrintLast Go.Proofs.YtiaohbbafaaibabW.PrintMore
attribute [local go_sem] max2_int min2_int max_two min_two max_three min_three max_four min_four   -- for this text's walks alone
set_option linter.unusedVariables false
set_option linter.unusedSimpArgs false
/-! ### pleatref02_number: function 79 -/
def pleatref02_number.f (a0_0 : Bool) (a0_1 : Bool) (a0_2 : Bool) (a0_3 : Bool) (a0_4 : Bool) (a1 : Int) : Option (Bool) := if a0_3 = true then (if a0_4 = true then (if a1 ≥ 0 then (some (decide (a1 < 16384))) else (some false)) else (if a1 ≥ (-16384) then (some (decide (a1 ≤ 16383))) else (some false))) else (some (a1 == 0))
set_option maxHeartbeats 8000000 in
set_option maxRecDepth 100000 in
theorem pleatref02_number.calls (a0_0 : Bool) (a0_1 : Bool) (a0_2 : Bool) (a0_3 : Bool) (a0_4 : Bool) (a1 : Int) (r : Bool) (w : World) (h : pleatref02_number.f a0_0 a0_1 a0_2 a0_3 a0_4 a1 = some r) :
  Calls Try.prog 79 #[.agg #[.bool a0_0, .bool a0_1, .bool a0_2, .bool a0_3, .bool a0_4], .int .i64 a1] w fun e w' => e = .returned (.bool r) ∧ Below w.heap.size w w' := by
 have hu115 := Try.underlying115
 have HB := Aside0.mk (Below.refl w.heap.size w)
 have H : (if a0_3 = true then (if a0_4 = true then (if a1 ≥ 0 then (some (decide (a1 < 16384))) else (some false)) else (if a1 ≥ (-16384) then (some (decide (a1 ≤ 16383))) else (some false))) else (some (a1 == 0))) = some r := h
 clear h
 by_cases c3 : a0_3 = true
 ·
  subst c3
  have H1 : (if a0_4 = true then (if a1 ≥ 0 then (some (decide (a1 < 16384))) else (some false)) else (if a1 ≥ (-16384) then (some (decide (a1 ≤ 16383))) else (some false))) = some r := by rw [if_pos rfl] at H; exact H
  clear H
  have H := H1
  clear H1
  by_cases c4 : a0_4 = true
  ·
   subst c4
   have H1 : (if a1 ≥ 0 then (some (decide (a1 < 16384))) else (some false)) = some r := by rw [if_pos rfl] at H; exact H
   clear H
   have H := H1
   clear H1
   by_cases c5 : a1 ≥ 0
   ·
    rw [if_pos c5] at H
    have c5b0 : decide (0 ≤ a1) = true := decide_eq_true c5
    clear c5
    obtain rfl := Option.some.inj H
    go_enter Try.func79, Try.ntmps79
    go_wp2_with (first | ((with_reducible refine gate_dst (N := 2) rfl ?_); refine box_event ?hg (N := 2) ?hd (cs := #[.bool a0_0, .bool a0_1, .bool a0_2, .bool true, .bool true]) (t := 115) ?hr ?_; (case hd => rfl); (case hg => rfl); (case hr => first | (go_simp; done) | (go_simp; rfl)); intro gb464 hg w6 hbox hb; have n0_ := Aside0.mk (below_step (by repeat (first | (with_reducible first | exact HB.out | apply below_alloc | apply pw_below_drewN | apply below_drew1) | exact HB.out)) hb); have n1_ := Aside0.mk (hbox); have n2_ := Aside0.mk ((by rw [hg]; exact (below_size (by repeat (first | (with_reducible first | exact HB.out | apply below_alloc | apply pw_below_drewN | apply below_drew1) | exact HB.out))) : w.heap.size ≤ gb464)); have n3_ := Aside0.mk ((by rw [hg]; exact (below_size (by repeat (first | (with_reducible first | exact HB.out | apply below_alloc | apply pw_below_drewN | apply below_drew1) | exact HB.out))) : w.heap.size ≤ gb464)); clear HB; have HB := n0_; have BK464 := n1_; have GW464 := n2_; have GE464 := n3_; clear n0_ n1_ n2_ n3_; clear hb hbox hg; have hcz7_0 : w6.cell? ⟨gb464, 0, none⟩ = some (.bool a0_0) := (blk_cell BK464.out 0).trans rfl; have hcz7_1 : w6.cell? ⟨gb464, 1, none⟩ = some (.bool a0_1) := (blk_cell BK464.out 1).trans rfl; have hcz7_2 : w6.cell? ⟨gb464, 2, none⟩ = some (.bool a0_2) := (blk_cell BK464.out 2).trans rfl; have hcz7_3 : w6.cell? ⟨gb464, 3, none⟩ = some (.bool true) := (blk_cell BK464.out 3).trans rfl; have hcz7_4 : w6.cell? ⟨gb464, 4, none⟩ = some (.bool true) := (blk_cell BK464.out 4).trans rfl; have hfz7_0 := blk_frozen BK464.out 0; have hfz7_1 := blk_frozen BK464.out 1; have hfz7_2 := blk_frozen BK464.out 2; have hfz7_3 := blk_frozen BK464.out 3; have hfz7_4 := blk_frozen BK464.out 4))
    go_ret
    exact ⟨by first | rfl | (simp [errW_none, errW_some] <;> rfl) | (simp [*, errW_none, errW_some] <;> rfl), by repeat (first | (with_reducible first | exact HB.out | apply below_alloc | apply pw_below_drewN | apply below_drew1 | refine below_set ?_ GE464.out) | exact HB.out)⟩
   ·
    rw [if_neg c5] at H
    have c5b0 : decide (0 ≤ a1) = false := decide_eq_false c5
    clear c5
    obtain rfl := Option.some.inj H
    go_enter Try.func79, Try.ntmps79
    go_wp2_with (first | ((with_reducible refine gate_dst (N := 2) rfl ?_); refine box_event ?hg (N := 2) ?hd (cs := #[.bool a0_0, .bool a0_1, .bool a0_2, .bool true, .bool true]) (t := 115) ?hr ?_; (case hd => rfl); (case hg => rfl); (case hr => first | (go_simp; done) | (go_simp; rfl)); intro gb464 hg w8 hbox hb; have n0_ := Aside0.mk (below_step (by repeat (first | (with_reducible first | exact HB.out | apply below_alloc | apply pw_below_drewN | apply below_drew1) | exact HB.out)) hb); have n1_ := Aside0.mk (hbox); have n2_ := Aside0.mk ((by rw [hg]; exact (below_size (by repeat (first | (with_reducible first | exact HB.out | apply below_alloc | apply pw_below_drewN | apply below_drew1) | exact HB.out))) : w.heap.size ≤ gb464)); have n3_ := Aside0.mk ((by rw [hg]; exact (below_size (by repeat (first | (with_reducible first | exact HB.out | apply below_alloc | apply pw_below_drewN | apply below_drew1) | exact HB.out))) : w.heap.size ≤ gb464)); clear HB; have HB := n0_; have BK464 := n1_; have GW464 := n2_; have GE464 := n3_; clear n0_ n1_ n2_ n3_; clear hb hbox hg; have hcz9_0 : w8.cell? ⟨gb464, 0, none⟩ = some (.bool a0_0) := (blk_cell BK464.out 0).trans rfl; have hcz9_1 : w8.cell? ⟨gb464, 1, none⟩ = some (.bool a0_1) := (blk_cell BK464.out 1).trans rfl; have hcz9_2 : w8.cell? ⟨gb464, 2, none⟩ = some (.bool a0_2) := (blk_cell BK464.out 2).trans rfl; have hcz9_3 : w8.cell? ⟨gb464, 3, none⟩ = some (.bool true) := (blk_cell BK464.out 3).trans rfl; have hcz9_4 : w8.cell? ⟨gb464, 4, none⟩ = some (.bool true) := (blk_cell BK464.out 4).trans rfl; have hfz9_0 := blk_frozen BK464.out 0; have hfz9_1 := blk_frozen BK464.out 1; have hfz9_2 := blk_frozen BK464.out 2; have hfz9_3 := blk_frozen BK464.out 3; have hfz9_4 := blk_frozen BK464.out 4))
    go_ret
    exact ⟨by first | rfl | (simp [errW_none, errW_some] <;> rfl) | (simp [*, errW_none, errW_some] <;> rfl), by repeat (first | (with_reducible first | exact HB.out | apply below_alloc | apply pw_below_drewN | apply below_drew1 | refine below_set ?_ GE464.out) | exact HB.out)⟩
  ·
   replace c4 := Bool.eq_false_iff.mpr c4
   subst c4
   have H1 : (if a1 ≥ (-16384) then (some (decide (a1 ≤ 16383))) else (some false)) = some r := by rw [if_neg (show ¬ (false = true) by decide)] at H; exact H
   clear H
   have H := H1
   clear H1
   by_cases c10 : a1 ≥ (-16384)
   ·
    rw [if_pos c10] at H
    have c10b0 : decide ((-16384) ≤ a1) = true := decide_eq_true c10
    clear c10
    obtain rfl := Option.some.inj H
    go_enter Try.func79, Try.ntmps79
    go_wp2_with (first | ((with_reducible refine gate_dst (N := 2) rfl ?_); refine box_event ?hg (N := 2) ?hd (cs := #[.bool a0_0, .bool a0_1, .bool a0_2, .bool true, .bool false]) (t := 115) ?hr ?_; (case hd => rfl); (case hg => rfl); (case hr => first | (go_simp; done) | (go_simp; rfl)); intro gb464 hg w11 hbox hb; have n0_ := Aside0.mk (below_step (by repeat (first | (with_reducible first | exact HB.out | apply below_alloc | apply pw_below_drewN | apply below_drew1) | exact HB.out)) hb); have n1_ := Aside0.mk (hbox); have n2_ := Aside0.mk ((by rw [hg]; exact (below_size (by repeat (first | (with_reducible first | exact HB.out | apply below_alloc | apply pw_below_drewN | apply below_drew1) | exact HB.out))) : w.heap.size ≤ gb464)); have n3_ := Aside0.mk ((by rw [hg]; exact (below_size (by repeat (first | (with_reducible first | exact HB.out | apply below_alloc | apply pw_below_drewN | apply below_drew1) | exact HB.out))) : w.heap.size ≤ gb464)); clear HB; have HB := n0_; have BK464 := n1_; have GW464 := n2_; have GE464 := n3_; clear n0_ n1_ n2_ n3_; clear hb hbox hg; have hcz12_0 : w11.cell? ⟨gb464, 0, none⟩ = some (.bool a0_0) := (blk_cell BK464.out 0).trans rfl; have hcz12_1 : w11.cell? ⟨gb464, 1, none⟩ = some (.bool a0_1) := (blk_cell BK464.out 1).trans rfl; have hcz12_2 : w11.cell? ⟨gb464, 2, none⟩ = some (.bool a0_2) := (blk_cell BK464.out 2).trans rfl; have hcz12_3 : w11.cell? ⟨gb464, 3, none⟩ = some (.bool true) := (blk_cell BK464.out 3).trans rfl; have hcz12_4 : w11.cell? ⟨gb464, 4, none⟩ = some (.bool false) := (blk_cell BK464.out 4).trans rfl; have hfz12_0 := blk_frozen BK464.out 0; have hfz12_1 := blk_frozen BK464.out 1; have hfz12_2 := blk_frozen BK464.out 2; have hfz12_3 := blk_frozen BK464.out 3; have hfz12_4 := blk_frozen BK464.out 4))
    go_ret
    exact ⟨by first | rfl | (simp [errW_none, errW_some] <;> rfl) | (simp [*, errW_none, errW_some] <;> rfl), by repeat (first | (with_reducible first | exact HB.out | apply below_alloc | apply pw_below_drewN | apply below_drew1 | refine below_set ?_ GE464.out) | exact HB.out)⟩
   ·
    rw [if_neg c10] at H
    have c10b0 : decide ((-16384) ≤ a1) = false := decide_eq_false c10
    clear c10
    obtain rfl := Option.some.inj H
    go_enter Try.func79, Try.ntmps79
    go_wp2_with (first | ((with_reducible refine gate_dst (N := 2) rfl ?_); refine box_event ?hg (N := 2) ?hd (cs := #[.bool a0_0, .bool a0_1, .bool a0_2, .bool true, .bool false]) (t := 115) ?hr ?_; (case hd => rfl); (case hg => rfl); (case hr => first | (go_simp; done) | (go_simp; rfl)); intro gb464 hg w13 hbox hb; have n0_ := Aside0.mk (below_step (by repeat (first | (with_reducible first | exact HB.out | apply below_alloc | apply pw_below_drewN | apply below_drew1) | exact HB.out)) hb); have n1_ := Aside0.mk (hbox); have n2_ := Aside0.mk ((by rw [hg]; exact (below_size (by repeat (first | (with_reducible first | exact HB.out | apply below_alloc | apply pw_below_drewN | apply below_drew1) | exact HB.out))) : w.heap.size ≤ gb464)); have n3_ := Aside0.mk ((by rw [hg]; exact (below_size (by repeat (first | (with_reducible first | exact HB.out | apply below_alloc | apply pw_below_drewN | apply below_drew1) | exact HB.out))) : w.heap.size ≤ gb464)); clear HB; have HB := n0_; have BK464 := n1_; have GW464 := n2_; have GE464 := n3_; clear n0_ n1_ n2_ n3_; clear hb hbox hg; have hcz14_0 : w13.cell? ⟨gb464, 0, none⟩ = some (.bool a0_0) := (blk_cell BK464.out 0).trans rfl; have hcz14_1 : w13.cell? ⟨gb464, 1, none⟩ = some (.bool a0_1) := (blk_cell BK464.out 1).trans rfl; have hcz14_2 : w13.cell? ⟨gb464, 2, none⟩ = some (.bool a0_2) := (blk_cell BK464.out 2).trans rfl; have hcz14_3 : w13.cell? ⟨gb464, 3, none⟩ = some (.bool true) := (blk_cell BK464.out 3).trans rfl; have hcz14_4 : w13.cell? ⟨gb464, 4, none⟩ = some (.bool false) := (blk_cell BK464.out 4).trans rfl; have hfz14_0 := blk_frozen BK464.out 0; have hfz14_1 := blk_frozen BK464.out 1; have hfz14_2 := blk_frozen BK464.out 2; have hfz14_3 := blk_frozen BK464.out 3; have hfz14_4 := blk_frozen BK464.out 4))
    go_ret
    exact ⟨by first | rfl | (simp [errW_none, errW_some] <;> rfl) | (simp [*, errW_none, errW_some] <;> rfl), by repeat (first | (with_reducible first | exact HB.out | apply below_alloc | apply pw_below_drewN | apply below_drew1 | refine below_set ?_ GE464.out) | exact HB.out)⟩
 ·
  replace c3 := Bool.eq_false_iff.mpr c3
  subst c3
  have H1 : (some (a1 == 0)) = some r := by rw [if_neg (show ¬ (false = true) by decide)] at H; exact H
  clear H
  have H := H1
  clear H1
  obtain rfl := Option.some.inj H
  go_enter Try.func79, Try.ntmps79
  go_wp2_with (first | ((with_reducible refine gate_dst (N := 2) rfl ?_); refine box_event ?hg (N := 2) ?hd (cs := #[.bool a0_0, .bool a0_1, .bool a0_2, .bool false, .bool a0_4]) (t := 115) ?hr ?_; (case hd => rfl); (case hg => rfl); (case hr => first | (go_simp; done) | (go_simp; rfl)); intro gb464 hg w15 hbox hb; have n0_ := Aside0.mk (below_step (by repeat (first | (with_reducible first | exact HB.out | apply below_alloc | apply pw_below_drewN | apply below_drew1) | exact HB.out)) hb); have n1_ := Aside0.mk (hbox); have n2_ := Aside0.mk ((by rw [hg]; exact (below_size (by repeat (first | (with_reducible first | exact HB.out | apply below_alloc | apply pw_below_drewN | apply below_drew1) | exact HB.out))) : w.heap.size ≤ gb464)); have n3_ := Aside0.mk ((by rw [hg]; exact (below_size (by repeat (first | (with_reducible first | exact HB.out | apply below_alloc | apply pw_below_drewN | apply below_drew1) | exact HB.out))) : w.heap.size ≤ gb464)); clear HB; have HB := n0_; have BK464 := n1_; have GW464 := n2_; have GE464 := n3_; clear n0_ n1_ n2_ n3_; clear hb hbox hg; have hcz16_0 : w15.cell? ⟨gb464, 0, none⟩ = some (.bool a0_0) := (blk_cell BK464.out 0).trans rfl; have hcz16_1 : w15.cell? ⟨gb464, 1, none⟩ = some (.bool a0_1) := (blk_cell BK464.out 1).trans rfl; have hcz16_2 : w15.cell? ⟨gb464, 2, none⟩ = some (.bool a0_2) := (blk_cell BK464.out 2).trans rfl; have hcz16_3 : w15.cell? ⟨gb464, 3, none⟩ = some (.bool false) := (blk_cell BK464.out 3).trans rfl; have hcz16_4 : w15.cell? ⟨gb464, 4, none⟩ = some (.bool a0_4) := (blk_cell BK464.out 4).trans rfl; have hfz16_0 := blk_frozen BK464.out 0; have hfz16_1 := blk_frozen BK464.out 1; have hfz16_2 := blk_frozen BK464.out 2; have hfz16_3 := blk_frozen BK464.out 3; have hfz16_4 := blk_frozen BK464.out 4))
  go_ret
  exact ⟨by first | rfl | (simp [errW_none, errW_some] <;> rfl) | (simp [*, errW_none, errW_some] <;> rfl), by repeat (first | (with_reducible first | exact HB.out | apply below_alloc | apply pw_below_drewN | apply below_drew1 | refine below_set ?_ GE464.out) | exact HB.out)⟩


/-! ### pleatref02_Encode: function 77 -/
mutual
def pleatref02_Encode.j0 : Nat → Bool → Int → Int → Int → Int → Int → Option (Int × Int)
 | 0, _, _, _, _, _, _ => none
 | k + 1, x14, x466000, x466001, x466002, x466003, x466004 => if x14 = true then (some (0, 10)) else ((pleatref02_Has.f k x466000).bind fun bt466 => ((pleatref02_register.f bt466.1 x466001).bind fun t472 => (if t472 = true then ((pleatref02_register.f bt466.2.1 x466002).bind fun t473 => (if t473 = true then ((pleatref02_register.f bt466.2.2.1 x466003).bind fun t474 => (if t474 = true then ((pleatref02_number.f bt466.1 bt466.2.1 bt466.2.2.1 bt466.2.2.2.1 bt466.2.2.2.2 x466004).bind fun t475 => (pleatref02_Encode.j1 k (!t475) x466000 x466001 x466002 x466003 x466004)) else (pleatref02_Encode.j1 k true x466000 x466001 x466002 x466003 x466004))) else (pleatref02_Encode.j1 k true x466000 x466001 x466002 x466003 x466004))) else (pleatref02_Encode.j1 k true x466000 x466001 x466002 x466003 x466004))))
def pleatref02_Encode.j1 : Nat → Bool → Int → Int → Int → Int → Int → Option (Int × Int)
 | 0, _, _, _, _, _, _ => none
 | k + 1, x46, x466000, x466001, x466002, x466003, x466004 => if x46 = true then (some (0, 11)) else (if x466004 < 0 then (some ((((((((((((((((((x466000) % 4294967296) * 16) % 4294967296) + ((x466001) % 4294967296)) % 4294967296) * 16) % 4294967296) + ((x466002) % 4294967296)) % 4294967296) * 16) % 4294967296) + ((x466003) % 4294967296)) % 4294967296) * 32768) % 4294967296) + ((wrap64 (x466004 + 32768)) % 4294967296)) % 4294967296, 0)) else (some ((((((((((((((((((x466000) % 4294967296) * 16) % 4294967296) + ((x466001) % 4294967296)) % 4294967296) * 16) % 4294967296) + ((x466002) % 4294967296)) % 4294967296) * 16) % 4294967296) + ((x466003) % 4294967296)) % 4294967296) * 32768) % 4294967296) + ((x466004) % 4294967296)) % 4294967296, 0)))
end
def pleatref02_Encode.f (k : Nat) (a0_0 : Int) (a0_1 : Int) (a0_2 : Int) (a0_3 : Int) (a0_4 : Int) : Option (Int × Int) := if a0_0 < 0 then (pleatref02_Encode.j0 k true a0_0 a0_1 a0_2 a0_3 a0_4) else (pleatref02_Encode.j0 k (decide (a0_0 > 21)) a0_0 a0_1 a0_2 a0_3 a0_4)
theorem pleatref02_Encode.mono_l : ∀ k, (∀ y0 y1 y2 y3 y4 y5, LeO (pleatref02_Encode.j0 k y0 y1 y2 y3 y4 y5) (pleatref02_Encode.j0 (k + 1) y0 y1 y2 y3 y4 y5)) ∧ (∀ y0 y1 y2 y3 y4 y5, LeO (pleatref02_Encode.j1 k y0 y1 y2 y3 y4 y5) (pleatref02_Encode.j1 (k + 1) y0 y1 y2 y3 y4 y5))
 | 0 => ⟨fun _ _ _ _ _ _ r h => by simp [pleatref02_Encode.j0] at h, fun _ _ _ _ _ _ r h => by simp [pleatref02_Encode.j1] at h⟩
 | k + 1 => by
  obtain ⟨ih0, ih1⟩ := pleatref02_Encode.mono_l k
  refine ⟨?_, ?_⟩
  ·
   intro y0 y1 y2 y3 y4 y5
   unfold pleatref02_Encode.j0
   repeat' first
   | (with_reducible exact ih0 _ _ _ _ _ _)
   | (with_reducible exact ih1 _ _ _ _ _ _)
   | (with_reducible exact pleatref02_Has.mono _ _)
   | (with_reducible exact LeO.refl _)
   | (with_reducible exact LeO.none _)
   | (with_reducible refine LeO.ite ?_ ?_)
   | (with_reducible refine LeO.bind ?_ (fun _ => ?_))
   | exact ih0 _ _ _ _ _ _
   | exact ih1 _ _ _ _ _ _
   | exact pleatref02_Has.mono _ _
   | exact LeO.none _
   | refine LeO.ite ?_ ?_
   | refine LeO.bind ?_ (fun _ => ?_)
  ·
   intro y0 y1 y2 y3 y4 y5
   unfold pleatref02_Encode.j1
   repeat' first
   | (with_reducible exact ih0 _ _ _ _ _ _)
   | (with_reducible exact ih1 _ _ _ _ _ _)
   | (with_reducible exact pleatref02_Has.mono _ _)
   | (with_reducible exact LeO.refl _)
   | (with_reducible exact LeO.none _)
   | (with_reducible refine LeO.ite ?_ ?_)
   | (with_reducible refine LeO.bind ?_ (fun _ => ?_))
   | exact ih0 _ _ _ _ _ _
   | exact ih1 _ _ _ _ _ _
   | exact pleatref02_Has.mono _ _
   | exact LeO.none _
   | refine LeO.ite ?_ ?_
   | refine LeO.bind ?_ (fun _ => ?_)
theorem pleatref02_Encode.mono : ∀ a0 a1 a2 a3 a4 k, LeO (pleatref02_Encode.f k a0 a1 a2 a3 a4) (pleatref02_Encode.f (k + 1) a0 a1 a2 a3 a4) := by
 intro a0 a1 a2 a3 a4 k
 obtain ⟨ih0, ih1⟩ := pleatref02_Encode.mono_l k
 unfold pleatref02_Encode.f
 repeat' first
   | (with_reducible exact ih0 _ _ _ _ _ _)
   | (with_reducible exact ih1 _ _ _ _ _ _)
   | (with_reducible exact pleatref02_Has.mono _ _)
   | (with_reducible exact LeO.refl _)
   | (with_reducible exact LeO.none _)
   | (with_reducible refine LeO.ite ?_ ?_)
   | (with_reducible refine LeO.bind ?_ (fun _ => ?_))
   | exact ih0 _ _ _ _ _ _
   | exact ih1 _ _ _ _ _ _
   | exact pleatref02_Has.mono _ _
   | exact LeO.none _
   | refine LeO.ite ?_ ?_
   | refine LeO.bind ?_ (fun _ => ?_)
set_option maxHeartbeats 8000000 in
set_option maxRecDepth 100000 in
theorem pleatref02_Encode.calls (k : Nat) (a0_0 : Int) (a0_1 : Int) (a0_2 : Int) (a0_3 : Int) (a0_4 : Int) (r1 : Int) (r2 : Int) (w : World) (h : pleatref02_Encode.f k a0_0 a0_1 a0_2 a0_3 a0_4 = some (r1, r2)) :
  Calls Try.prog 77 #[.agg #[.int .i8 a0_0, .int .i8 a0_1, .int .i8 a0_2, .int .i8 a0_3, .int .i64 a0_4]] w fun e w' => e = .returned (.tuple #[.int .u32 r1, .int .i64 r2]) ∧ Below w.heap.size w w' := by
 have hu106 := Try.underlying106
 have hu115 := Try.underlying115
 have HB := Aside0.mk (Below.refl w.heap.size w)
 have H : (if a0_0 < 0 then (pleatref02_Encode.j0 k true a0_0 a0_1 a0_2 a0_3 a0_4) else (pleatref02_Encode.j0 k (decide (a0_0 > 21)) a0_0 a0_1 a0_2 a0_3 a0_4)) = some (r1, r2) := h
 clear h
 have HC2 := Aside0.mk H
 clear H
 go_enter Try.func77, Try.ntmps77
 go_upto_region 1 with (first | ((with_reducible refine gate_dst (N := 1) rfl ?_); refine box_event ?hg (N := 1) ?hd (cs := #[.int .i8 a0_0, .int .i8 a0_1, .int .i8 a0_2, .int .i8 a0_3, .int .i64 a0_4]) (t := 106) ?hr ?_; (case hd => rfl); (case hg => rfl); (case hr => first | (go_simp; done) | (go_simp; rfl)); intro gb465 hg w3 hbox hb; have n0_ := Aside0.mk (below_step (by repeat (first | (with_reducible first | exact HB.out | apply below_alloc | apply pw_below_drewN | apply below_drew1) | exact HB.out)) hb); have n1_ := Aside0.mk (hbox); have n2_ := Aside0.mk ((by rw [hg]; exact (below_size (by repeat (first | (with_reducible first | exact HB.out | apply below_alloc | apply pw_below_drewN | apply below_drew1) | exact HB.out))) : w.heap.size ≤ gb465)); have n3_ := Aside0.mk ((by rw [hg]; exact (below_size (by repeat (first | (with_reducible first | exact HB.out | apply below_alloc | apply pw_below_drewN | apply below_drew1) | exact HB.out))) : w.heap.size ≤ gb465)); clear HB; have HB := n0_; have BK465 := n1_; have GW465 := n2_; have GE465 := n3_; clear n0_ n1_ n2_ n3_; clear hb hbox hg))
 (try simp only [Act.put, List.setIfInBounds_toArray, List.set_cons_zero, List.set_cons_succ])
 go_cut [14] (fun v14 wc => ∃ (kq : Nat) (x14_1 : Bool), v14 = .bool x14_1 ∧ Aside0 (pleatref02_Encode.j0 kq x14_1 a0_0 a0_1 a0_2 a0_3 a0_4 = some (r1, r2)) ∧ Aside0 (kq ≤ k) ∧ Aside0 (wc.heap[gb465]? = some (.cells #[.int .i8 a0_0, .int .i8 a0_1, .int .i8 a0_2, .int .i8 a0_3, .int .i64 a0_4] 106 (0, 0))) ∧ Aside0 (Below w.heap.size w wc))
 case first =>
  have H := HC2.out
  clear HC2
  by_cases c4 : a0_0 < 0
  ·
   rw [if_pos c4] at H
   have c4b0 : decide (a0_0 < 0) = true := decide_eq_true c4
   clear c4
   (first | rw [c4b0] | (simp only [i64_w, i32_w]; rw [c4b0]) | skip)
   have H' := Aside0.mk H
   clear H
   have hcz5_0 : w3.cell? ⟨gb465, 0, none⟩ = some (.int .i8 a0_0) := (blk_cell BK465.out 0).trans rfl
   have hcz5_1 : w3.cell? ⟨gb465, 1, none⟩ = some (.int .i8 a0_1) := (blk_cell BK465.out 1).trans rfl
   have hcz5_2 : w3.cell? ⟨gb465, 2, none⟩ = some (.int .i8 a0_2) := (blk_cell BK465.out 2).trans rfl
   have hcz5_3 : w3.cell? ⟨gb465, 3, none⟩ = some (.int .i8 a0_3) := (blk_cell BK465.out 3).trans rfl
   have hcz5_4 : w3.cell? ⟨gb465, 4, none⟩ = some (.int .i64 a0_4) := (blk_cell BK465.out 4).trans rfl
   have hfz5_0 := blk_frozen BK465.out 0
   have hfz5_1 := blk_frozen BK465.out 1
   have hfz5_2 := blk_frozen BK465.out 2
   have hfz5_3 := blk_frozen BK465.out 3
   have hfz5_4 := blk_frozen BK465.out 4
   go_wp2
   go_meet
   case rel => exact ⟨_, (true), (by first | rfl | (simp; done) | (simp [*]; done)), H', ⟨by first | omega | exact Nat.le_refl _⟩, ⟨by (with_reducible repeat (first | refine blk_drewN ?_ _ | refine blk_drew ?_ | refine blk_alloc ?_ _)); exact BK465.out⟩, ⟨by repeat (first | (with_reducible first | exact HB.out | apply below_alloc | apply pw_below_drewN | apply below_drew1 | refine below_set ?_ GE465.out) | exact HB.out)⟩⟩
  ·
   rw [if_neg c4] at H
   have c4b0 : decide (a0_0 < 0) = false := decide_eq_false c4
   clear c4
   (first | rw [c4b0] | (simp only [i64_w, i32_w]; rw [c4b0]) | skip)
   have H' := Aside0.mk H
   clear H
   have hcz6_0 : w3.cell? ⟨gb465, 0, none⟩ = some (.int .i8 a0_0) := (blk_cell BK465.out 0).trans rfl
   have hcz6_1 : w3.cell? ⟨gb465, 1, none⟩ = some (.int .i8 a0_1) := (blk_cell BK465.out 1).trans rfl
   have hcz6_2 : w3.cell? ⟨gb465, 2, none⟩ = some (.int .i8 a0_2) := (blk_cell BK465.out 2).trans rfl
   have hcz6_3 : w3.cell? ⟨gb465, 3, none⟩ = some (.int .i8 a0_3) := (blk_cell BK465.out 3).trans rfl
   have hcz6_4 : w3.cell? ⟨gb465, 4, none⟩ = some (.int .i64 a0_4) := (blk_cell BK465.out 4).trans rfl
   have hfz6_0 := blk_frozen BK465.out 0
   have hfz6_1 := blk_frozen BK465.out 1
   have hfz6_2 := blk_frozen BK465.out 2
   have hfz6_3 := blk_frozen BK465.out 3
   have hfz6_4 := blk_frozen BK465.out 4
   go_wp2
   go_meet
   case rel => exact ⟨_, (decide (a0_0 > 21)), (by first | rfl | (simp; done) | (simp [*]; done)), H', ⟨by first | omega | exact Nat.le_refl _⟩, ⟨by (with_reducible repeat (first | refine blk_drewN ?_ _ | refine blk_drew ?_ | refine blk_alloc ?_ _)); exact BK465.out⟩, ⟨by repeat (first | (with_reducible first | exact HB.out | apply below_alloc | apply pw_below_drewN | apply below_drew1 | refine below_set ?_ GE465.out) | exact HB.out)⟩⟩
 case rest =>
  clear HC2
  try clear p2
  try clear c4
  try clear c4b0
  try clear hcz5_0
  try clear hcz5_1
  try clear hcz5_2
  try clear hcz5_3
  try clear hcz5_4
  try clear hcz6_0
  try clear hcz6_1
  try clear hcz6_2
  try clear hcz6_3
  try clear hcz6_4
  try clear hfz5_0
  try clear hfz5_1
  try clear hfz5_2
  try clear hfz5_3
  try clear hfz5_4
  try clear hfz6_0
  try clear hfz6_1
  try clear hfz6_2
  try clear hfz6_3
  try clear hfz6_4
  obtain ⟨kq, x14_1, rfl, HA, HJ1, BK465, HB⟩ := hcut
  cases kq with
  | zero => exact absurd HA.out (by simp [pleatref02_Encode.j0])
  | succ kj1 =>
   have H := HA.out
   clear HA
   simp only [pleatref02_Encode.j0] at H
   by_cases c7 : x14_1 = true
   ·
    subst c7
    have H1 : (some (0, 10)) = some (r1, r2) := by rw [if_pos rfl] at H; exact H
    clear H
    have H := H1
    clear H1
    simp only [Option.some.injEq, Prod.mk.injEq] at H
    obtain ⟨rfl, rfl⟩ := H
    go_wp2
    go_ret2
    exact ⟨by first | rfl | (simp [errW_none, errW_some] <;> rfl) | (simp [*, errW_none, errW_some] <;> rfl), by repeat (first | (with_reducible first | exact HB.out | apply below_alloc | apply pw_below_drewN | apply below_drew1 | refine below_set ?_ GE465.out) | exact HB.out)⟩
   ·
    replace c7 := Bool.eq_false_iff.mpr c7
    subst c7
    have H1 : ((pleatref02_Has.f kj1 a0_0).bind fun bt466 => ((pleatref02_register.f bt466.1 a0_1).bind fun t472 => (if t472 = true then ((pleatref02_register.f bt466.2.1 a0_2).bind fun t473 => (if t473 = true then ((pleatref02_register.f bt466.2.2.1 a0_3).bind fun t474 => (if t474 = true then ((pleatref02_number.f bt466.1 bt466.2.1 bt466.2.2.1 bt466.2.2.2.1 bt466.2.2.2.2 a0_4).bind fun t475 => (pleatref02_Encode.j1 kj1 (!t475) a0_0 a0_1 a0_2 a0_3 a0_4)) else (pleatref02_Encode.j1 kj1 true a0_0 a0_1 a0_2 a0_3 a0_4))) else (pleatref02_Encode.j1 kj1 true a0_0 a0_1 a0_2 a0_3 a0_4))) else (pleatref02_Encode.j1 kj1 true a0_0 a0_1 a0_2 a0_3 a0_4)))) = some (r1, r2) := by rw [if_neg (show ¬ (false = true) by decide)] at H; exact H
    clear H
    have H := H1
    clear H1
    replace H := Option.bind_eq_some_iff.mp H
    obtain ⟨⟨t466, t467, t468, t469, t470⟩, A80, H⟩ := H
    try dsimp only at H
    have A8 := Aside0.mk A80
    clear A80
    have HC9 := Aside0.mk H
    clear H
    have hcz10_0 : wc.cell? ⟨gb465, 0, none⟩ = some (.int .i8 a0_0) := (blk_cell BK465.out 0).trans rfl
    have hcz10_1 : wc.cell? ⟨gb465, 1, none⟩ = some (.int .i8 a0_1) := (blk_cell BK465.out 1).trans rfl
    have hcz10_2 : wc.cell? ⟨gb465, 2, none⟩ = some (.int .i8 a0_2) := (blk_cell BK465.out 2).trans rfl
    have hcz10_3 : wc.cell? ⟨gb465, 3, none⟩ = some (.int .i8 a0_3) := (blk_cell BK465.out 3).trans rfl
    have hcz10_4 : wc.cell? ⟨gb465, 4, none⟩ = some (.int .i64 a0_4) := (blk_cell BK465.out 4).trans rfl
    have hfz10_0 := blk_frozen BK465.out 0
    have hfz10_1 := blk_frozen BK465.out 1
    have hfz10_2 := blk_frozen BK465.out 2
    have hfz10_3 := blk_frozen BK465.out 3
    have hfz10_4 := blk_frozen BK465.out 4
    go_upto_region 4 with (first | ((with_reducible refine gate_callee (f := 75) rfl ?_); refine goesL_ (some 17) rfl rfl Try.func75 (by kernel_rfl) rfl #[.int .i8 a0_0] rfl (by (try simp only [List.map_toArray, List.map_cons, List.map_nil]); first | done | rfl | (simp only [List.length_drop, List.length_take]; rfl)) ?_; (with_reducible refine (pleatref02_Has.calls kj1 a0_0 t466 t467 t468 t469 t470 _ A8.out).mono ?_); rintro e w11 ⟨rfl, hb⟩; refine ⟨_, rfl, ?_⟩; have n0_ := Aside0.mk (blk_below (g := gb465) (o := .cells #[.int .i8 a0_0, .int .i8 a0_1, .int .i8 a0_2, .int .i8 a0_3, .int .i64 a0_4] 106 (0, 0)) (by (with_reducible repeat (first | refine blk_drewN ?_ _ | refine blk_drew ?_ | refine blk_alloc ?_ _)); exact BK465.out) hb); have n1_ := Aside0.mk (below_step (by repeat (first | (with_reducible first | exact HB.out | apply below_alloc | apply pw_below_drewN | apply below_drew1 | refine below_set ?_ GE465.out) | exact HB.out)) hb); clear BK465; clear HB; have BK465 := n0_; have HB := n1_; clear n0_ n1_; (try clear hb); (try clear hb2); (try clear hk); (try clear hi)) | ((with_reducible refine gate_dst (N := 4) rfl ?_); refine box_event ?hg (N := 4) ?hd (cs := #[.bool false, .bool false, .bool false, .bool false, .bool false]) (t := 115) ?hr ?_; (case hd => rfl); (case hg => rfl); (case hr => first | (go_simp; done) | (go_simp; rfl)); intro gb471 hg w12 hbox hb; have n0_ := Aside0.mk (blk_below (g := gb465) (o := .cells #[.int .i8 a0_0, .int .i8 a0_1, .int .i8 a0_2, .int .i8 a0_3, .int .i64 a0_4] 106 (0, 0)) (by (with_reducible repeat (first | refine blk_drewN ?_ _ | refine blk_drew ?_ | refine blk_alloc ?_ _)); exact BK465.out) hb); have n1_ := Aside0.mk (below_step (by repeat (first | (with_reducible first | exact HB.out | apply below_alloc | apply pw_below_drewN | apply below_drew1 | refine below_set ?_ GE465.out) | exact HB.out)) hb); have n2_ := Aside0.mk (hbox); have n3_ := Aside0.mk ((by rw [hg]; exact (below_size (by repeat (first | (with_reducible first | exact HB.out | apply below_alloc | apply pw_below_drewN | apply below_drew1 | refine below_set ?_ GE465.out) | exact HB.out))) : w.heap.size ≤ gb471)); have n4_ := Aside0.mk ((by rw [hg]; exact (below_size (by repeat (first | (with_reducible first | exact HB.out | apply below_alloc | apply pw_below_drewN | apply below_drew1 | refine below_set ?_ GE465.out) | exact HB.out))) : w.heap.size ≤ gb471)); have n5_ := Aside0.mk ((by rw [hg]; exact Nat.ne_of_lt (blk_lt (g := gb465) (o := .cells #[.int .i8 a0_0, .int .i8 a0_1, .int .i8 a0_2, .int .i8 a0_3, .int .i64 a0_4] 106 (0, 0)) (by (with_reducible repeat (first | refine blk_drewN ?_ _ | refine blk_drew ?_ | refine blk_alloc ?_ _)); exact BK465.out)) : gb465 ≠ gb471)); have n6_ := Aside0.mk ((by rw [hg]; exact Nat.ne_of_gt (blk_lt (g := gb465) (o := .cells #[.int .i8 a0_0, .int .i8 a0_1, .int .i8 a0_2, .int .i8 a0_3, .int .i64 a0_4] 106 (0, 0)) (by (with_reducible repeat (first | refine blk_drewN ?_ _ | refine blk_drew ?_ | refine blk_alloc ?_ _)); exact BK465.out)) : gb471 ≠ gb465)); clear BK465; clear HB; have BK465 := n0_; have HB := n1_; have BK471 := n2_; have GW471 := n3_; have GE471 := n4_; have NB465_471 := n5_; have NB471_465 := n6_; clear n0_ n1_ n2_ n3_ n4_ n5_ n6_; clear hb hbox hg; have hnb13 := NB471_465.out; have hnc13 := NB465_471.out; have hcz14_0 : w12.cell? ⟨gb471, 0, none⟩ = some (.bool false) := (blk_cell BK471.out 0).trans rfl; have hcz14_1 : w12.cell? ⟨gb471, 1, none⟩ = some (.bool false) := (blk_cell BK471.out 1).trans rfl; have hcz14_2 : w12.cell? ⟨gb471, 2, none⟩ = some (.bool false) := (blk_cell BK471.out 2).trans rfl; have hcz14_3 : w12.cell? ⟨gb471, 3, none⟩ = some (.bool false) := (blk_cell BK471.out 3).trans rfl; have hcz14_4 : w12.cell? ⟨gb471, 4, none⟩ = some (.bool false) := (blk_cell BK471.out 4).trans rfl; have hfz14_0 := blk_frozen BK471.out 0; have hfz14_1 := blk_frozen BK471.out 1; have hfz14_2 := blk_frozen BK471.out 2; have hfz14_3 := blk_frozen BK471.out 3; have hfz14_4 := blk_frozen BK471.out 4))
    (try simp only [Act.put, List.setIfInBounds_toArray, List.set_cons_zero, List.set_cons_succ])
    go_cut [46] (fun v46 wc => ∃ (kq : Nat) (x46_8 : Bool), v46 = .bool x46_8 ∧ Aside0 (pleatref02_Encode.j1 kq x46_8 a0_0 a0_1 a0_2 a0_3 a0_4 = some (r1, r2)) ∧ Aside0 (kq ≤ kj1) ∧ Aside0 (wc.heap[gb465]? = some (.cells #[.int .i8 a0_0, .int .i8 a0_1, .int .i8 a0_2, .int .i8 a0_3, .int .i64 a0_4] 106 (0, 0))) ∧ Aside0 (wc.heap[gb471]? = some (.cells #[.bool t466, .bool t467, .bool t468, .bool t469, .bool t470] 115 (0, 0))) ∧ Aside0 (Below w.heap.size w wc))
    case first =>
     have H := HC9.out
     clear HC9
     replace H := Option.bind_eq_some_iff.mp H
     obtain ⟨t472, A150, H⟩ := H
     try dsimp only at H
     have A15 := Aside0.mk A150
     clear A150
     by_cases c16 : t472 = true
     ·
      subst c16
      have H1 : ((pleatref02_register.f t467 a0_2).bind fun t473 => (if t473 = true then ((pleatref02_register.f t468 a0_3).bind fun t474 => (if t474 = true then ((pleatref02_number.f t466 t467 t468 t469 t470 a0_4).bind fun t475 => (pleatref02_Encode.j1 kj1 (!t475) a0_0 a0_1 a0_2 a0_3 a0_4)) else (pleatref02_Encode.j1 kj1 true a0_0 a0_1 a0_2 a0_3 a0_4))) else (pleatref02_Encode.j1 kj1 true a0_0 a0_1 a0_2 a0_3 a0_4))) = some (r1, r2) := by rw [if_pos rfl] at H; exact H
      clear H
      have H := H1
      clear H1
      replace H := Option.bind_eq_some_iff.mp H
      obtain ⟨t473, A170, H⟩ := H
      try dsimp only at H
      have A17 := Aside0.mk A170
      clear A170
      by_cases c18 : t473 = true
      ·
       subst c18
       have H1 : ((pleatref02_register.f t468 a0_3).bind fun t474 => (if t474 = true then ((pleatref02_number.f t466 t467 t468 t469 t470 a0_4).bind fun t475 => (pleatref02_Encode.j1 kj1 (!t475) a0_0 a0_1 a0_2 a0_3 a0_4)) else (pleatref02_Encode.j1 kj1 true a0_0 a0_1 a0_2 a0_3 a0_4))) = some (r1, r2) := by rw [if_pos rfl] at H; exact H
       clear H
       have H := H1
       clear H1
       replace H := Option.bind_eq_some_iff.mp H
       obtain ⟨t474, A190, H⟩ := H
       try dsimp only at H
       have A19 := Aside0.mk A190
       clear A190
       by_cases c20 : t474 = true
       ·
        subst c20
        have H1 : ((pleatref02_number.f t466 t467 t468 t469 t470 a0_4).bind fun t475 => (pleatref02_Encode.j1 kj1 (!t475) a0_0 a0_1 a0_2 a0_3 a0_4)) = some (r1, r2) := by rw [if_pos rfl] at H; exact H
        clear H
        have H := H1
        clear H1
        replace H := Option.bind_eq_some_iff.mp H
        obtain ⟨t475, A210, H⟩ := H
        try dsimp only at H
        have A21 := Aside0.mk A210
        clear A210
        have H' := Aside0.mk H
        clear H
        have hnb22 := NB471_465.out
        have hnc22 := NB465_471.out
        have hcz23_0 : w12.cell? ⟨gb471, 0, none⟩ = some (.bool false) := (blk_cell BK471.out 0).trans rfl
        have hcz23_1 : w12.cell? ⟨gb471, 1, none⟩ = some (.bool false) := (blk_cell BK471.out 1).trans rfl
        have hcz23_2 : w12.cell? ⟨gb471, 2, none⟩ = some (.bool false) := (blk_cell BK471.out 2).trans rfl
        have hcz23_3 : w12.cell? ⟨gb471, 3, none⟩ = some (.bool false) := (blk_cell BK471.out 3).trans rfl
        have hcz23_4 : w12.cell? ⟨gb471, 4, none⟩ = some (.bool false) := (blk_cell BK471.out 4).trans rfl
        have hfz23_0 := blk_frozen BK471.out 0
        have hfz23_1 := blk_frozen BK471.out 1
        have hfz23_2 := blk_frozen BK471.out 2
        have hfz23_3 := blk_frozen BK471.out 3
        have hfz23_4 := blk_frozen BK471.out 4
        have hcz24_0 : w12.cell? ⟨gb465, 0, none⟩ = some (.int .i8 a0_0) := (blk_cell BK465.out 0).trans rfl
        have hcz24_1 : w12.cell? ⟨gb465, 1, none⟩ = some (.int .i8 a0_1) := (blk_cell BK465.out 1).trans rfl
        have hcz24_2 : w12.cell? ⟨gb465, 2, none⟩ = some (.int .i8 a0_2) := (blk_cell BK465.out 2).trans rfl
        have hcz24_3 : w12.cell? ⟨gb465, 3, none⟩ = some (.int .i8 a0_3) := (blk_cell BK465.out 3).trans rfl
        have hcz24_4 : w12.cell? ⟨gb465, 4, none⟩ = some (.int .i64 a0_4) := (blk_cell BK465.out 4).trans rfl
        have hfz24_0 := blk_frozen BK465.out 0
        have hfz24_1 := blk_frozen BK465.out 1
        have hfz24_2 := blk_frozen BK465.out 2
        have hfz24_3 := blk_frozen BK465.out 3
        have hfz24_4 := blk_frozen BK465.out 4
        go_wp2_with (first | ((with_reducible refine gate_callee (f := 78) rfl ?_); refine goesL_ (some 22) rfl rfl Try.func78 (by kernel_rfl) rfl #[.bool t466, .int .i8 a0_1] rfl (by (try simp only [List.map_toArray, List.map_cons, List.map_nil]); first | done | rfl | (simp only [List.length_drop, List.length_take]; rfl)) ?_; (with_reducible refine (pleatref02_register.calls t466 a0_1 true _ A15.out).mono ?_); rintro e w' ⟨rfl, ⟨nd, rfl⟩⟩; refine ⟨_, rfl, ?_⟩) | (go_at_call 78; (with_reducible refine (pleatref02_register.calls t467 a0_2 true _ A17.out).mono ?_); rintro e w' ⟨rfl, ⟨nd, rfl⟩⟩) | (go_at_call 78; (with_reducible refine (pleatref02_register.calls t468 a0_3 true _ A19.out).mono ?_); rintro e w' ⟨rfl, ⟨nd, rfl⟩⟩) | (go_at_call 79; (with_reducible refine (pleatref02_number.calls t466 t467 t468 t469 t470 a0_4 t475 _ A21.out).mono ?_); rintro e w25 ⟨rfl, hb⟩; have n0_ := Aside0.mk (blk_below (g := gb465) (o := .cells #[.int .i8 a0_0, .int .i8 a0_1, .int .i8 a0_2, .int .i8 a0_3, .int .i64 a0_4] 106 (0, 0)) (by (with_reducible repeat (first | refine blk_drewN ?_ _ | refine blk_drew ?_ | refine blk_alloc ?_ _)); refine blk_far ?_ NB465_471.out _; (with_reducible repeat (first | refine blk_drewN ?_ _ | refine blk_drew ?_ | refine blk_alloc ?_ _)); refine blk_far ?_ NB465_471.out _; (with_reducible repeat (first | refine blk_drewN ?_ _ | refine blk_drew ?_ | refine blk_alloc ?_ _)); refine blk_far ?_ NB465_471.out _; (with_reducible repeat (first | refine blk_drewN ?_ _ | refine blk_drew ?_ | refine blk_alloc ?_ _)); refine blk_far ?_ NB465_471.out _; (with_reducible repeat (first | refine blk_drewN ?_ _ | refine blk_drew ?_ | refine blk_alloc ?_ _)); refine blk_far ?_ NB465_471.out _; (with_reducible repeat (first | refine blk_drewN ?_ _ | refine blk_drew ?_ | refine blk_alloc ?_ _)); exact BK465.out) hb); have n1_ := Aside0.mk (blk_below (g := gb471) (o := .cells #[.bool t466, .bool t467, .bool t468, .bool t469, .bool t470] 115 (0, 0)) (by (with_reducible repeat (first | refine blk_drewN ?_ _ | refine blk_drew ?_ | refine blk_alloc ?_ _)); refine blk_put (cs := #[.bool t466, .bool t467, .bool t468, .bool t469, .bool false]) ?_ 4 _ rfl; (with_reducible repeat (first | refine blk_drewN ?_ _ | refine blk_drew ?_ | refine blk_alloc ?_ _)); refine blk_put (cs := #[.bool t466, .bool t467, .bool t468, .bool false, .bool false]) ?_ 3 _ rfl; (with_reducible repeat (first | refine blk_drewN ?_ _ | refine blk_drew ?_ | refine blk_alloc ?_ _)); refine blk_put (cs := #[.bool t466, .bool t467, .bool false, .bool false, .bool false]) ?_ 2 _ rfl; (with_reducible repeat (first | refine blk_drewN ?_ _ | refine blk_drew ?_ | refine blk_alloc ?_ _)); refine blk_put (cs := #[.bool t466, .bool false, .bool false, .bool false, .bool false]) ?_ 1 _ rfl; (with_reducible repeat (first | refine blk_drewN ?_ _ | refine blk_drew ?_ | refine blk_alloc ?_ _)); refine blk_put (cs := #[.bool false, .bool false, .bool false, .bool false, .bool false]) ?_ 0 _ rfl; (with_reducible repeat (first | refine blk_drewN ?_ _ | refine blk_drew ?_ | refine blk_alloc ?_ _)); exact BK471.out) hb); have n2_ := Aside0.mk (below_step (by repeat (first | (with_reducible first | exact HB.out | apply below_alloc | apply pw_below_drewN | apply below_drew1 | refine below_set ?_ GE465.out | refine below_set ?_ GE471.out) | exact HB.out)) hb); clear BK465; clear BK471; clear HB; have BK465 := n0_; have BK471 := n1_; have HB := n2_; clear n0_ n1_ n2_; (try clear hb); (try clear hb2); (try clear hk); (try clear hi)))
        go_meet
        case rel => exact ⟨_, (!t475), (by first | rfl | (simp; done) | (simp [*]; done)), H', ⟨by have := HJ1.out; first | omega | exact Nat.le_refl _⟩, ⟨by (with_reducible repeat (first | refine blk_drewN ?_ _ | refine blk_drew ?_ | refine blk_alloc ?_ _)); exact BK465.out⟩, ⟨by (with_reducible repeat (first | refine blk_drewN ?_ _ | refine blk_drew ?_ | refine blk_alloc ?_ _)); exact BK471.out⟩, ⟨by repeat (first | (with_reducible first | exact HB.out | apply below_alloc | apply pw_below_drewN | apply below_drew1 | refine below_set ?_ GE465.out | refine below_set ?_ GE471.out) | exact HB.out)⟩⟩
       ·
        replace c20 := Bool.eq_false_iff.mpr c20
        subst c20
        have H1 : (pleatref02_Encode.j1 kj1 true a0_0 a0_1 a0_2 a0_3 a0_4) = some (r1, r2) := by rw [if_neg (show ¬ (false = true) by decide)] at H; exact H
        clear H
        have H := H1
        clear H1
        have H' := Aside0.mk H
        clear H
        have hnb26 := NB471_465.out
        have hnc26 := NB465_471.out
        have hcz27_0 : w12.cell? ⟨gb471, 0, none⟩ = some (.bool false) := (blk_cell BK471.out 0).trans rfl
        have hcz27_1 : w12.cell? ⟨gb471, 1, none⟩ = some (.bool false) := (blk_cell BK471.out 1).trans rfl
        have hcz27_2 : w12.cell? ⟨gb471, 2, none⟩ = some (.bool false) := (blk_cell BK471.out 2).trans rfl
        have hcz27_3 : w12.cell? ⟨gb471, 3, none⟩ = some (.bool false) := (blk_cell BK471.out 3).trans rfl
        have hcz27_4 : w12.cell? ⟨gb471, 4, none⟩ = some (.bool false) := (blk_cell BK471.out 4).trans rfl
        have hfz27_0 := blk_frozen BK471.out 0
        have hfz27_1 := blk_frozen BK471.out 1
        have hfz27_2 := blk_frozen BK471.out 2
        have hfz27_3 := blk_frozen BK471.out 3
        have hfz27_4 := blk_frozen BK471.out 4
        have hcz28_0 : w12.cell? ⟨gb465, 0, none⟩ = some (.int .i8 a0_0) := (blk_cell BK465.out 0).trans rfl
        have hcz28_1 : w12.cell? ⟨gb465, 1, none⟩ = some (.int .i8 a0_1) := (blk_cell BK465.out 1).trans rfl
        have hcz28_2 : w12.cell? ⟨gb465, 2, none⟩ = some (.int .i8 a0_2) := (blk_cell BK465.out 2).trans rfl
        have hcz28_3 : w12.cell? ⟨gb465, 3, none⟩ = some (.int .i8 a0_3) := (blk_cell BK465.out 3).trans rfl
        have hcz28_4 : w12.cell? ⟨gb465, 4, none⟩ = some (.int .i64 a0_4) := (blk_cell BK465.out 4).trans rfl
        have hfz28_0 := blk_frozen BK465.out 0
        have hfz28_1 := blk_frozen BK465.out 1
        have hfz28_2 := blk_frozen BK465.out 2
        have hfz28_3 := blk_frozen BK465.out 3
        have hfz28_4 := blk_frozen BK465.out 4
        go_wp2_with (first | ((with_reducible refine gate_callee (f := 78) rfl ?_); refine goesL_ (some 22) rfl rfl Try.func78 (by kernel_rfl) rfl #[.bool t466, .int .i8 a0_1] rfl (by (try simp only [List.map_toArray, List.map_cons, List.map_nil]); first | done | rfl | (simp only [List.length_drop, List.length_take]; rfl)) ?_; (with_reducible refine (pleatref02_register.calls t466 a0_1 true _ A15.out).mono ?_); rintro e w' ⟨rfl, ⟨nd, rfl⟩⟩; refine ⟨_, rfl, ?_⟩) | (go_at_call 78; (with_reducible refine (pleatref02_register.calls t467 a0_2 true _ A17.out).mono ?_); rintro e w' ⟨rfl, ⟨nd, rfl⟩⟩) | (go_at_call 78; (with_reducible refine (pleatref02_register.calls t468 a0_3 false _ A19.out).mono ?_); rintro e w' ⟨rfl, ⟨nd, rfl⟩⟩))
        go_meet
        case rel => exact ⟨_, (true), (by first | rfl | (simp; done) | (simp [*]; done)), H', ⟨by have := HJ1.out; first | omega | exact Nat.le_refl _⟩, ⟨by (with_reducible repeat (first | refine blk_drewN ?_ _ | refine blk_drew ?_ | refine blk_alloc ?_ _)); refine blk_far ?_ NB465_471.out _; (with_reducible repeat (first | refine blk_drewN ?_ _ | refine blk_drew ?_ | refine blk_alloc ?_ _)); refine blk_far ?_ NB465_471.out _; (with_reducible repeat (first | refine blk_drewN ?_ _ | refine blk_drew ?_ | refine blk_alloc ?_ _)); refine blk_far ?_ NB465_471.out _; (with_reducible repeat (first | refine blk_drewN ?_ _ | refine blk_drew ?_ | refine blk_alloc ?_ _)); refine blk_far ?_ NB465_471.out _; (with_reducible repeat (first | refine blk_drewN ?_ _ | refine blk_drew ?_ | refine blk_alloc ?_ _)); refine blk_far ?_ NB465_471.out _; (with_reducible repeat (first | refine blk_drewN ?_ _ | refine blk_drew ?_ | refine blk_alloc ?_ _)); exact BK465.out⟩, ⟨by (with_reducible repeat (first | refine blk_drewN ?_ _ | refine blk_drew ?_ | refine blk_alloc ?_ _)); refine blk_put (cs := #[.bool t466, .bool t467, .bool t468, .bool t469, .bool false]) ?_ 4 _ rfl; (with_reducible repeat (first | refine blk_drewN ?_ _ | refine blk_drew ?_ | refine blk_alloc ?_ _)); refine blk_put (cs := #[.bool t466, .bool t467, .bool t468, .bool false, .bool false]) ?_ 3 _ rfl; (with_reducible repeat (first | refine blk_drewN ?_ _ | refine blk_drew ?_ | refine blk_alloc ?_ _)); refine blk_put (cs := #[.bool t466, .bool t467, .bool false, .bool false, .bool false]) ?_ 2 _ rfl; (with_reducible repeat (first | refine blk_drewN ?_ _ | refine blk_drew ?_ | refine blk_alloc ?_ _)); refine blk_put (cs := #[.bool t466, .bool false, .bool false, .bool false, .bool false]) ?_ 1 _ rfl; (with_reducible repeat (first | refine blk_drewN ?_ _ | refine blk_drew ?_ | refine blk_alloc ?_ _)); refine blk_put (cs := #[.bool false, .bool false, .bool false, .bool false, .bool false]) ?_ 0 _ rfl; (with_reducible repeat (first | refine blk_drewN ?_ _ | refine blk_drew ?_ | refine blk_alloc ?_ _)); exact BK471.out⟩, ⟨by repeat (first | (with_reducible first | exact HB.out | apply below_alloc | apply pw_below_drewN | apply below_drew1 | refine below_set ?_ GE465.out | refine below_set ?_ GE471.out) | exact HB.out)⟩⟩
      ·
       replace c18 := Bool.eq_false_iff.mpr c18
       subst c18
       have H1 : (pleatref02_Encode.j1 kj1 true a0_0 a0_1 a0_2 a0_3 a0_4) = some (r1, r2) := by rw [if_neg (show ¬ (false = true) by decide)] at H; exact H
       clear H
       have H := H1
       clear H1
       have H' := Aside0.mk H
       clear H
       have hnb29 := NB471_465.out
       have hnc29 := NB465_471.out
       have hcz30_0 : w12.cell? ⟨gb471, 0, none⟩ = some (.bool false) := (blk_cell BK471.out 0).trans rfl
       have hcz30_1 : w12.cell? ⟨gb471, 1, none⟩ = some (.bool false) := (blk_cell BK471.out 1).trans rfl
       have hcz30_2 : w12.cell? ⟨gb471, 2, none⟩ = some (.bool false) := (blk_cell BK471.out 2).trans rfl
       have hcz30_3 : w12.cell? ⟨gb471, 3, none⟩ = some (.bool false) := (blk_cell BK471.out 3).trans rfl
       have hcz30_4 : w12.cell? ⟨gb471, 4, none⟩ = some (.bool false) := (blk_cell BK471.out 4).trans rfl
       have hfz30_0 := blk_frozen BK471.out 0
       have hfz30_1 := blk_frozen BK471.out 1
       have hfz30_2 := blk_frozen BK471.out 2
       have hfz30_3 := blk_frozen BK471.out 3
       have hfz30_4 := blk_frozen BK471.out 4
       have hcz31_0 : w12.cell? ⟨gb465, 0, none⟩ = some (.int .i8 a0_0) := (blk_cell BK465.out 0).trans rfl
       have hcz31_1 : w12.cell? ⟨gb465, 1, none⟩ = some (.int .i8 a0_1) := (blk_cell BK465.out 1).trans rfl
       have hcz31_2 : w12.cell? ⟨gb465, 2, none⟩ = some (.int .i8 a0_2) := (blk_cell BK465.out 2).trans rfl
       have hcz31_3 : w12.cell? ⟨gb465, 3, none⟩ = some (.int .i8 a0_3) := (blk_cell BK465.out 3).trans rfl
       have hcz31_4 : w12.cell? ⟨gb465, 4, none⟩ = some (.int .i64 a0_4) := (blk_cell BK465.out 4).trans rfl
       have hfz31_0 := blk_frozen BK465.out 0
       have hfz31_1 := blk_frozen BK465.out 1
       have hfz31_2 := blk_frozen BK465.out 2
       have hfz31_3 := blk_frozen BK465.out 3
       have hfz31_4 := blk_frozen BK465.out 4
       go_wp2_with (first | ((with_reducible refine gate_callee (f := 78) rfl ?_); refine goesL_ (some 22) rfl rfl Try.func78 (by kernel_rfl) rfl #[.bool t466, .int .i8 a0_1] rfl (by (try simp only [List.map_toArray, List.map_cons, List.map_nil]); first | done | rfl | (simp only [List.length_drop, List.length_take]; rfl)) ?_; (with_reducible refine (pleatref02_register.calls t466 a0_1 true _ A15.out).mono ?_); rintro e w' ⟨rfl, ⟨nd, rfl⟩⟩; refine ⟨_, rfl, ?_⟩) | (go_at_call 78; (with_reducible refine (pleatref02_register.calls t467 a0_2 false _ A17.out).mono ?_); rintro e w' ⟨rfl, ⟨nd, rfl⟩⟩))
       go_meet
       case rel => exact ⟨_, (true), (by first | rfl | (simp; done) | (simp [*]; done)), H', ⟨by have := HJ1.out; first | omega | exact Nat.le_refl _⟩, ⟨by (with_reducible repeat (first | refine blk_drewN ?_ _ | refine blk_drew ?_ | refine blk_alloc ?_ _)); refine blk_far ?_ NB465_471.out _; (with_reducible repeat (first | refine blk_drewN ?_ _ | refine blk_drew ?_ | refine blk_alloc ?_ _)); refine blk_far ?_ NB465_471.out _; (with_reducible repeat (first | refine blk_drewN ?_ _ | refine blk_drew ?_ | refine blk_alloc ?_ _)); refine blk_far ?_ NB465_471.out _; (with_reducible repeat (first | refine blk_drewN ?_ _ | refine blk_drew ?_ | refine blk_alloc ?_ _)); refine blk_far ?_ NB465_471.out _; (with_reducible repeat (first | refine blk_drewN ?_ _ | refine blk_drew ?_ | refine blk_alloc ?_ _)); refine blk_far ?_ NB465_471.out _; (with_reducible repeat (first | refine blk_drewN ?_ _ | refine blk_drew ?_ | refine blk_alloc ?_ _)); exact BK465.out⟩, ⟨by (with_reducible repeat (first | refine blk_drewN ?_ _ | refine blk_drew ?_ | refine blk_alloc ?_ _)); refine blk_put (cs := #[.bool t466, .bool t467, .bool t468, .bool t469, .bool false]) ?_ 4 _ rfl; (with_reducible repeat (first | refine blk_drewN ?_ _ | refine blk_drew ?_ | refine blk_alloc ?_ _)); refine blk_put (cs := #[.bool t466, .bool t467, .bool t468, .bool false, .bool false]) ?_ 3 _ rfl; (with_reducible repeat (first | refine blk_drewN ?_ _ | refine blk_drew ?_ | refine blk_alloc ?_ _)); refine blk_put (cs := #[.bool t466, .bool t467, .bool false, .bool false, .bool false]) ?_ 2 _ rfl; (with_reducible repeat (first | refine blk_drewN ?_ _ | refine blk_drew ?_ | refine blk_alloc ?_ _)); refine blk_put (cs := #[.bool t466, .bool false, .bool false, .bool false, .bool false]) ?_ 1 _ rfl; (with_reducible repeat (first | refine blk_drewN ?_ _ | refine blk_drew ?_ | refine blk_alloc ?_ _)); refine blk_put (cs := #[.bool false, .bool false, .bool false, .bool false, .bool false]) ?_ 0 _ rfl; (with_reducible repeat (first | refine blk_drewN ?_ _ | refine blk_drew ?_ | refine blk_alloc ?_ _)); exact BK471.out⟩, ⟨by repeat (first | (with_reducible first | exact HB.out | apply below_alloc | apply pw_below_drewN | apply below_drew1 | refine below_set ?_ GE465.out | refine below_set ?_ GE471.out) | exact HB.out)⟩⟩
     ·
      replace c16 := Bool.eq_false_iff.mpr c16
      subst c16
      have H1 : (pleatref02_Encode.j1 kj1 true a0_0 a0_1 a0_2 a0_3 a0_4) = some (r1, r2) := by rw [if_neg (show ¬ (false = true) by decide)] at H; exact H
      clear H
      have H := H1
      clear H1
      have H' := Aside0.mk H
      clear H
      have hnb32 := NB471_465.out
      have hnc32 := NB465_471.out
      have hcz33_0 : w12.cell? ⟨gb471, 0, none⟩ = some (.bool false) := (blk_cell BK471.out 0).trans rfl
      have hcz33_1 : w12.cell? ⟨gb471, 1, none⟩ = some (.bool false) := (blk_cell BK471.out 1).trans rfl
      have hcz33_2 : w12.cell? ⟨gb471, 2, none⟩ = some (.bool false) := (blk_cell BK471.out 2).trans rfl
      have hcz33_3 : w12.cell? ⟨gb471, 3, none⟩ = some (.bool false) := (blk_cell BK471.out 3).trans rfl
      have hcz33_4 : w12.cell? ⟨gb471, 4, none⟩ = some (.bool false) := (blk_cell BK471.out 4).trans rfl
      have hfz33_0 := blk_frozen BK471.out 0
      have hfz33_1 := blk_frozen BK471.out 1
      have hfz33_2 := blk_frozen BK471.out 2
      have hfz33_3 := blk_frozen BK471.out 3
      have hfz33_4 := blk_frozen BK471.out 4
      have hcz34_0 : w12.cell? ⟨gb465, 0, none⟩ = some (.int .i8 a0_0) := (blk_cell BK465.out 0).trans rfl
      have hcz34_1 : w12.cell? ⟨gb465, 1, none⟩ = some (.int .i8 a0_1) := (blk_cell BK465.out 1).trans rfl
      have hcz34_2 : w12.cell? ⟨gb465, 2, none⟩ = some (.int .i8 a0_2) := (blk_cell BK465.out 2).trans rfl
      have hcz34_3 : w12.cell? ⟨gb465, 3, none⟩ = some (.int .i8 a0_3) := (blk_cell BK465.out 3).trans rfl
      have hcz34_4 : w12.cell? ⟨gb465, 4, none⟩ = some (.int .i64 a0_4) := (blk_cell BK465.out 4).trans rfl
      have hfz34_0 := blk_frozen BK465.out 0
      have hfz34_1 := blk_frozen BK465.out 1
      have hfz34_2 := blk_frozen BK465.out 2
      have hfz34_3 := blk_frozen BK465.out 3
      have hfz34_4 := blk_frozen BK465.out 4
      go_wp2_with (first | ((with_reducible refine gate_callee (f := 78) rfl ?_); refine goesL_ (some 22) rfl rfl Try.func78 (by kernel_rfl) rfl #[.bool t466, .int .i8 a0_1] rfl (by (try simp only [List.map_toArray, List.map_cons, List.map_nil]); first | done | rfl | (simp only [List.length_drop, List.length_take]; rfl)) ?_; (with_reducible refine (pleatref02_register.calls t466 a0_1 false _ A15.out).mono ?_); rintro e w' ⟨rfl, ⟨nd, rfl⟩⟩; refine ⟨_, rfl, ?_⟩))
      go_meet
      case rel => exact ⟨_, (true), (by first | rfl | (simp; done) | (simp [*]; done)), H', ⟨by have := HJ1.out; first | omega | exact Nat.le_refl _⟩, ⟨by (with_reducible repeat (first | refine blk_drewN ?_ _ | refine blk_drew ?_ | refine blk_alloc ?_ _)); refine blk_far ?_ NB465_471.out _; (with_reducible repeat (first | refine blk_drewN ?_ _ | refine blk_drew ?_ | refine blk_alloc ?_ _)); refine blk_far ?_ NB465_471.out _; (with_reducible repeat (first | refine blk_drewN ?_ _ | refine blk_drew ?_ | refine blk_alloc ?_ _)); refine blk_far ?_ NB465_471.out _; (with_reducible repeat (first | refine blk_drewN ?_ _ | refine blk_drew ?_ | refine blk_alloc ?_ _)); refine blk_far ?_ NB465_471.out _; (with_reducible repeat (first | refine blk_drewN ?_ _ | refine blk_drew ?_ | refine blk_alloc ?_ _)); refine blk_far ?_ NB465_471.out _; (with_reducible repeat (first | refine blk_drewN ?_ _ | refine blk_drew ?_ | refine blk_alloc ?_ _)); exact BK465.out⟩, ⟨by (with_reducible repeat (first | refine blk_drewN ?_ _ | refine blk_drew ?_ | refine blk_alloc ?_ _)); refine blk_put (cs := #[.bool t466, .bool t467, .bool t468, .bool t469, .bool false]) ?_ 4 _ rfl; (with_reducible repeat (first | refine blk_drewN ?_ _ | refine blk_drew ?_ | refine blk_alloc ?_ _)); refine blk_put (cs := #[.bool t466, .bool t467, .bool t468, .bool false, .bool false]) ?_ 3 _ rfl; (with_reducible repeat (first | refine blk_drewN ?_ _ | refine blk_drew ?_ | refine blk_alloc ?_ _)); refine blk_put (cs := #[.bool t466, .bool t467, .bool false, .bool false, .bool false]) ?_ 2 _ rfl; (with_reducible repeat (first | refine blk_drewN ?_ _ | refine blk_drew ?_ | refine blk_alloc ?_ _)); refine blk_put (cs := #[.bool t466, .bool false, .bool false, .bool false, .bool false]) ?_ 1 _ rfl; (with_reducible repeat (first | refine blk_drewN ?_ _ | refine blk_drew ?_ | refine blk_alloc ?_ _)); refine blk_put (cs := #[.bool false, .bool false, .bool false, .bool false, .bool false]) ?_ 0 _ rfl; (with_reducible repeat (first | refine blk_drewN ?_ _ | refine blk_drew ?_ | refine blk_alloc ?_ _)); exact BK471.out⟩, ⟨by repeat (first | (with_reducible first | exact HB.out | apply below_alloc | apply pw_below_drewN | apply below_drew1 | refine below_set ?_ GE465.out | refine below_set ?_ GE471.out) | exact HB.out)⟩⟩
    case rest =>
     clear HC9
     try clear c1
     try clear c2
     try clear p2
     try clear c3
     try clear c4
     try clear c4b0
     try clear c7
     try clear c13
     try clear c16
     try clear c18
     try clear c20
     try clear c22
     try clear c26
     try clear c29
     try clear c32
     try clear hcz10_0
     try clear hcz10_1
     try clear hcz10_2
     try clear hcz10_3
     try clear hcz10_4
     try clear hcz14_0
     try clear hcz14_1
     try clear hcz14_2
     try clear hcz14_3
     try clear hcz14_4
     try clear hcz23_0
     try clear hcz23_1
     try clear hcz23_2
     try clear hcz23_3
     try clear hcz23_4
     try clear hcz24_0
     try clear hcz24_1
     try clear hcz24_2
     try clear hcz24_3
     try clear hcz24_4
     try clear hcz27_0
     try clear hcz27_1
     try clear hcz27_2
     try clear hcz27_3
     try clear hcz27_4
     try clear hcz28_0
     try clear hcz28_1
     try clear hcz28_2
     try clear hcz28_3
     try clear hcz28_4
     try clear hcz30_0
     try clear hcz30_1
     try clear hcz30_2
     try clear hcz30_3
     try clear hcz30_4
     try clear hcz31_0
     try clear hcz31_1
     try clear hcz31_2
     try clear hcz31_3
     try clear hcz31_4
     try clear hcz33_0
     try clear hcz33_1
     try clear hcz33_2
     try clear hcz33_3
     try clear hcz33_4
     try clear hcz34_0
     try clear hcz34_1
     try clear hcz34_2
     try clear hcz34_3
     try clear hcz34_4
     try clear hcz5_0
     try clear hcz5_1
     try clear hcz5_2
     try clear hcz5_3
     try clear hcz5_4
     try clear hcz6_0
     try clear hcz6_1
     try clear hcz6_2
     try clear hcz6_3
     try clear hcz6_4
     try clear hfz10_0
     try clear hfz10_1
     try clear hfz10_2
     try clear hfz10_3
     try clear hfz10_4
     try clear hfz14_0
     try clear hfz14_1
     try clear hfz14_2
     try clear hfz14_3
     try clear hfz14_4
     try clear hfz23_0
     try clear hfz23_1
     try clear hfz23_2
     try clear hfz23_3
     try clear hfz23_4
     try clear hfz24_0
     try clear hfz24_1
     try clear hfz24_2
     try clear hfz24_3
     try clear hfz24_4
     try clear hfz27_0
     try clear hfz27_1
     try clear hfz27_2
     try clear hfz27_3
     try clear hfz27_4
     try clear hfz28_0
     try clear hfz28_1
     try clear hfz28_2
     try clear hfz28_3
     try clear hfz28_4
     try clear hfz30_0
     try clear hfz30_1
     try clear hfz30_2
     try clear hfz30_3
     try clear hfz30_4
     try clear hfz31_0
     try clear hfz31_1
     try clear hfz31_2
     try clear hfz31_3
     try clear hfz31_4
     try clear hfz33_0
     try clear hfz33_1
     try clear hfz33_2
     try clear hfz33_3
     try clear hfz33_4
     try clear hfz34_0
     try clear hfz34_1
     try clear hfz34_2
     try clear hfz34_3
     try clear hfz34_4
     try clear hfz5_0
     try clear hfz5_1
     try clear hfz5_2
     try clear hfz5_3
     try clear hfz5_4
     try clear hfz6_0
     try clear hfz6_1
     try clear hfz6_2
     try clear hfz6_3
     try clear hfz6_4
     try clear p2
     obtain ⟨kq, x46_8, rfl, HA, HJ8, BK465, BK471, HB⟩ := hcut
     cases kq with
     | zero => exact absurd HA.out (by simp [pleatref02_Encode.j1])
     | succ kj8 =>
      have H := HA.out
      clear HA
      simp only [pleatref02_Encode.j1] at H
      by_cases c35 : x46_8 = true
      ·
       subst c35
       have H1 : (some (0, 11)) = some (r1, r2) := by rw [if_pos rfl] at H; exact H
       clear H
       have H := H1
       clear H1
       simp only [Option.some.injEq, Prod.mk.injEq] at H
       obtain ⟨rfl, rfl⟩ := H
       go_wp2
       go_ret2
       exact ⟨by first | rfl | (simp [errW_none, errW_some] <;> rfl) | (simp [*, errW_none, errW_some] <;> rfl), by repeat (first | (with_reducible first | exact HB.out | apply below_alloc | apply pw_below_drewN | apply below_drew1 | refine below_set ?_ GE465.out | refine below_set ?_ GE471.out) | exact HB.out)⟩
      ·
       replace c35 := Bool.eq_false_iff.mpr c35
       subst c35
       have H1 : (if a0_4 < 0 then (some ((((((((((((((((((a0_0) % 4294967296) * 16) % 4294967296) + ((a0_1) % 4294967296)) % 4294967296) * 16) % 4294967296) + ((a0_2) % 4294967296)) % 4294967296) * 16) % 4294967296) + ((a0_3) % 4294967296)) % 4294967296) * 32768) % 4294967296) + ((wrap64 (a0_4 + 32768)) % 4294967296)) % 4294967296, 0)) else (some ((((((((((((((((((a0_0) % 4294967296) * 16) % 4294967296) + ((a0_1) % 4294967296)) % 4294967296) * 16) % 4294967296) + ((a0_2) % 4294967296)) % 4294967296) * 16) % 4294967296) + ((a0_3) % 4294967296)) % 4294967296) * 32768) % 4294967296) + ((a0_4) % 4294967296)) % 4294967296, 0))) = some (r1, r2) := by rw [if_neg (show ¬ (false = true) by decide)] at H; exact H
       clear H
       have H := H1
       clear H1
       by_cases c36 : a0_4 < 0
       ·
        rw [if_pos c36] at H
        have c36b0 : decide (a0_4 < 0) = true := decide_eq_true c36
        clear c36
        simp only [Option.some.injEq, Prod.mk.injEq] at H
        obtain ⟨rfl, rfl⟩ := H
        have hnb37 := NB465_471.out
        have hnc37 := NB471_465.out
        have hcz38_0 : wc.cell? ⟨gb465, 0, none⟩ = some (.int .i8 a0_0) := (blk_cell BK465.out 0).trans rfl
        have hcz38_1 : wc.cell? ⟨gb465, 1, none⟩ = some (.int .i8 a0_1) := (blk_cell BK465.out 1).trans rfl
        have hcz38_2 : wc.cell? ⟨gb465, 2, none⟩ = some (.int .i8 a0_2) := (blk_cell BK465.out 2).trans rfl
        have hcz38_3 : wc.cell? ⟨gb465, 3, none⟩ = some (.int .i8 a0_3) := (blk_cell BK465.out 3).trans rfl
        have hcz38_4 : wc.cell? ⟨gb465, 4, none⟩ = some (.int .i64 a0_4) := (blk_cell BK465.out 4).trans rfl
        have hfz38_0 := blk_frozen BK465.out 0
        have hfz38_1 := blk_frozen BK465.out 1
        have hfz38_2 := blk_frozen BK465.out 2
        have hfz38_3 := blk_frozen BK465.out 3
        have hfz38_4 := blk_frozen BK465.out 4
        go_wp2
        go_ret2
        exact ⟨by first | rfl | (simp [errW_none, errW_some] <;> rfl) | (simp [*, errW_none, errW_some] <;> rfl), by repeat (first | (with_reducible first | exact HB.out | apply below_alloc | apply pw_below_drewN | apply below_drew1 | refine below_set ?_ GE465.out | refine below_set ?_ GE471.out) | exact HB.out)⟩
       ·
        rw [if_neg c36] at H
        have c36b0 : decide (a0_4 < 0) = false := decide_eq_false c36
        clear c36
        simp only [Option.some.injEq, Prod.mk.injEq] at H
        obtain ⟨rfl, rfl⟩ := H
        have hnb39 := NB465_471.out
        have hnc39 := NB471_465.out
        have hcz40_0 : wc.cell? ⟨gb465, 0, none⟩ = some (.int .i8 a0_0) := (blk_cell BK465.out 0).trans rfl
        have hcz40_1 : wc.cell? ⟨gb465, 1, none⟩ = some (.int .i8 a0_1) := (blk_cell BK465.out 1).trans rfl
        have hcz40_2 : wc.cell? ⟨gb465, 2, none⟩ = some (.int .i8 a0_2) := (blk_cell BK465.out 2).trans rfl
        have hcz40_3 : wc.cell? ⟨gb465, 3, none⟩ = some (.int .i8 a0_3) := (blk_cell BK465.out 3).trans rfl
        have hcz40_4 : wc.cell? ⟨gb465, 4, none⟩ = some (.int .i64 a0_4) := (blk_cell BK465.out 4).trans rfl
        have hfz40_0 := blk_frozen BK465.out 0
        have hfz40_1 := blk_frozen BK465.out 1
        have hfz40_2 := blk_frozen BK465.out 2
        have hfz40_3 := blk_frozen BK465.out 3
        have hfz40_4 := blk_frozen BK465.out 4
        go_wp2
        go_ret2
        exact ⟨by first | rfl | (simp [errW_none, errW_some] <;> rfl) | (simp [*, errW_none, errW_some] <;> rfl), by repeat (first | (with_reducible first | exact HB.out | apply below_alloc | apply pw_below_drewN | apply below_drew1 | refine below_set ?_ GE465.out | refine below_set ?_ GE471.out) | exact HB.out)⟩
end Go.Proofs.Ytiaohbbafaaibab.P
