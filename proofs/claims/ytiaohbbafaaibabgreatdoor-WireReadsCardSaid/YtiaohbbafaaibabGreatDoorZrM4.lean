/- OWN TEXT and printed parts of this claim, laid together: HObj, HRc, HRs, HPen. -/
import Derived.Test.YtiaohbbafaaibabGreatDoorZrM3
import Derived.Test.YtiaohbbafaaibabGreatDoorZrM0
import Derived.Handy
import Derived.Test.YtiaohbbafaaibabGreatDoorZrM1
import Derived.Deep.RegionLawGrows
import Derived.WalkMore
import Derived.Great.Walk
import Derived.WalkKit
/- OWN TEXT: what object.Check comes to (it calls closures out of a list, which the print does not take), in the print's own form. -/
namespace Go.Proofs.YtiaohbbafaaibabGreatDoor.P
open Go.RowKit Go.Maps Go.Proofs.YtiaohbbafaaibabGreatDoorW.PrintWords Go.Proofs.YtiaohbbafaaibabGreatDoorW.PrintLast Go.Proofs.YtiaohbbafaaibabGreatDoorW.PrintMore Go.Proofs.YtiaohbbafaaibabGreatDoor.Arr Go.Proofs.YtiaohbbafaaibabGreatDoor.MapB
set_option linter.unusedVariables false
set_option linter.unusedSimpArgs false

theorem sizeS_ok {name : ByteArray} {code : List Int} {dat : Int} {data : List Int} {ns nr : Nat} (h : (sizeS name code dat data ns nr).1 = 0) : nameS name = true ∧ code.length ≤ 16384 ∧ ns ≤ 256 ∧ nr ≤ code.length ∧ 0 ≤ dat ∧ dat + (data.length : Int) ≤ 4096 := by
 unfold sizeS at h
 split at h
 ·
  rename_i h0
  refine ⟨h0, ?_⟩
  split at h
  ·
   exact absurd h (by decide)
  split at h
  ·
   exact absurd h (by decide)
  split at h
  ·
   exact absurd h (by decide)
  split at h
  ·
   exact absurd h (by decide)
  split at h
  ·
   exact absurd h (by decide)
  split at h
  ·
   exact absurd h (by decide)
  omega
 ·
  exact absurd h (by decide)
section
variable {P : Program} {ops : Array Oper} {rest : List Oper} {o : Oper} {a : Act} {Q : Exit → Act → World → Prop}
theorem lit_event {W : World} (hgd : o.guard = none) {N : Tmp} (_hd : o.dst = some N) {cs : Array Value} {e : TypeId} {n : Nat}
  (hrun : (execOp a.eval o).run P W = .ok (.value (.slice (some ⟨W.heap.size, 0, none⟩) n n)) (W.alloc (.cells cs e (0, 0))))
  (h : ∀ g, g = W.heap.size → ∀ w1, w1.heap[g]? = some (.cells cs e (0, 0)) → Below W.heap.size W w1 → wpList P ops Q rest (a.put o.dst (.slice (some ⟨g, 0, none⟩) n n)) w1) : wpList P ops Q (o :: rest) a W :=
 Kd.event_run hgd hrun (h _ rfl _ (blk_new W _) (below_alloc (Below.refl _ _) _))
end

set_option maxHeartbeats 8000000 in
set_option maxRecDepth 100000 in
theorem sizeH.calls (a0_0 : ByteArray) (A0_1 : Option Addr) (c0_1 : Nat) (l0_1 : List Int) (a0_2 : Int) (A0_3 : Option Addr) (c0_3 : Nat) (l0_3 : List Int) (A0_4 : Option Addr) (c0_4 : Nat) (l0_4 : List (S65)) (A0_5 : Option Addr) (c0_5 : Nat) (l0_5 : List (S82)) (r1 r2 : Int) (w : World) (hr0_1 : Kd.C (Kd.int .u32) w A0_1 l0_1.length l0_1) (hc0_1 : l0_1.length ≤ c0_1) (hr0_3 : Kd.C (Kd.int .i64) w A0_3 l0_3.length l0_3) (hc0_3 : l0_3.length ≤ c0_3) (hr0_4 : Kd.C k65 w A0_4 l0_4.length l0_4) (hc0_4 : l0_4.length ≤ c0_4) (hr0_5 : Kd.C k82 w A0_5 l0_5.length l0_5) (hc0_5 : l0_5.length ≤ c0_5) (h : sizeS a0_0 l0_1 a0_2 l0_3 l0_4.length l0_5.length = (r1, r2)) :
  Calls Tryz.prog 81 #[.agg #[.string a0_0, .slice A0_1 l0_1.length c0_1, .int .i64 a0_2, .slice A0_3 l0_3.length c0_3, .slice A0_4 l0_4.length c0_4, .slice A0_5 l0_5.length c0_5]] w fun e w' => e = .returned (.agg #[.int .i64 r1, .int .i64 r2]) ∧ Below w.heap.size w w' := by
 have hu1 := Tryz.underlying27
 have hu2 := Tryz.underlying121
 have HB := Aside0.mk (Below.refl w.heap.size w)
 clear hr0_1 hc0_1 hr0_3 hc0_3 hr0_4 hc0_4 hr0_5 hc0_5
 unfold sizeS at h
 have hN : object_Name.f a0_0 = some (nameS a0_0) := rfl
 generalize nameS a0_0 = b at h hN
 have HN := Aside0.mk hN
 clear hN
 cases b
 rotate_left
 rw [if_pos rfl] at h
 refine dite (16384 < (l0_1.length : Int)) (fun c0 => ?_) (fun c0 => ?_)
 rw [if_pos c0] at h; have b0 : decide (16384 < (l0_1.length : Int)) = true := decide_eq_true c0; have n0 : decide (16384 < l0_1.length) = true := decide_eq_true (by omega)
 rotate_left
 rw [if_neg c0] at h; have b0 : decide (16384 < (l0_1.length : Int)) = false := decide_eq_false c0; have n0 : decide (16384 < l0_1.length) = false := decide_eq_false (by omega)
 refine dite (256 < (l0_4.length : Int)) (fun c1 => ?_) (fun c1 => ?_)
 rw [if_pos c1] at h; have b1 : decide (256 < (l0_4.length : Int)) = true := decide_eq_true c1; have n1 : decide (256 < l0_4.length) = true := decide_eq_true (by omega)
 rotate_left
 rw [if_neg c1] at h; have b1 : decide (256 < (l0_4.length : Int)) = false := decide_eq_false c1; have n1 : decide (256 < l0_4.length) = false := decide_eq_false (by omega)
 refine dite ((l0_1.length : Int) < (l0_5.length : Int)) (fun c2 => ?_) (fun c2 => ?_)
 rw [if_pos c2] at h; have b2 : decide ((l0_1.length : Int) < (l0_5.length : Int)) = true := decide_eq_true c2; have n2 : decide (l0_1.length < l0_5.length) = true := decide_eq_true (by omega)
 rotate_left
 rw [if_neg c2] at h; have b2 : decide ((l0_1.length : Int) < (l0_5.length : Int)) = false := decide_eq_false c2; have n2 : decide (l0_1.length < l0_5.length) = false := decide_eq_false (by omega)
 refine dite (a0_2 < 0) (fun c3 => ?_) (fun c3 => ?_)
 rw [if_pos c3] at h; have b3 : decide (a0_2 < 0) = true := decide_eq_true c3
 rotate_left
 rw [if_neg c3] at h; have b3 : decide (a0_2 < 0) = false := decide_eq_false c3
 refine dite (4096 < a0_2) (fun c4 => ?_) (fun c4 => ?_)
 rw [if_pos c4] at h; have b4 : decide (4096 < a0_2) = true := decide_eq_true c4
 rotate_left
 rw [if_neg c4] at h; have b4 : decide (4096 < a0_2) = false := decide_eq_false c4
 refine dite (4096 - a0_2 < (l0_3.length : Int)) (fun c5 => ?_) (fun c5 => ?_)
 rw [if_pos c5] at h; have b5 : decide (wrap64 (4096 - a0_2) < (l0_3.length : Int)) = true := by rw [wrap64_id (by omega) (by omega)]; exact decide_eq_true c5
 rotate_left
 rw [if_neg c5] at h; have b5 : decide (wrap64 (4096 - a0_2) < (l0_3.length : Int)) = false := by rw [wrap64_id (by omega) (by omega)]; exact decide_eq_false c5
 all_goals
  try clear c0; try clear c1; try clear c2; try clear c3; try clear c4; try clear c5
  try rw [if_neg (by decide)] at h
  obtain ⟨rfl, rfl⟩ := Prod.mk.inj h
  clear h
  go_enter Tryz.func81, Tryz.ntmps81
  go_wp2_with (first | ((with_reducible refine gate_dst (N := 1) rfl ?_); refine box_event ?hg (N := 1) ?hd (cs := #[.string a0_0, .slice A0_1 l0_1.length c0_1, .int .i64 a0_2, .slice A0_3 l0_3.length c0_3, .slice A0_4 l0_4.length c0_4, .slice A0_5 l0_5.length c0_5]) (t := 27) ?hr ?_; (case hd => rfl); (case hg => rfl); (case hr => first | (go_simp; done) | (go_simp; rfl)); intro gb hg_ w1 BK_ hb_; have BO := Aside0.mk (show w1.heap[gb]? = some (objCell a0_0 A0_1 l0_1.length c0_1 a0_2 A0_3 l0_3.length c0_3 A0_4 l0_4.length c0_4 A0_5 l0_5.length c0_5) from BK_); replace HB := Aside0.mk (bsQ hb_ HB.out); clear BK_ hb_ hg_) | ((with_reducible refine gate_dst (N := 2) rfl ?_); refine box_event ?hg (N := 2) ?hd (cs := #[.int .i64 0, .int .i64 0]) (t := 121) ?hr ?_; (case hd => rfl); (case hg => rfl); (case hr => first | (go_simp; done) | (go_simp; rfl)); intro gr hgr w2 BK2 hb2; have G1 := Aside0.mk (gwQ hgr HB.out); replace HB := Aside0.mk (bsQ hb2 HB.out); replace BO := Aside0.mk (blk_below BO.out hb2); have BR := Aside0.mk (show w2.heap[gr]? = some (ansCell 0 0) from BK2); clear BK2 hb2 hgr; have hco0 := blk_cell BO.out 0; have hco1 := blk_cell BO.out 1; have hco2 := blk_cell BO.out 2; have hco3 := blk_cell BO.out 3; have hco4 := blk_cell BO.out 4; have hco5 := blk_cell BO.out 5) | (go_at_call 103; refine (object_Name.calls a0_0 _ _ HN.out).mono ?_; rintro e_ w3 ⟨rfl, hb_⟩; replace HB := Aside0.mk (bsQ hb_ HB.out); replace BO := Aside0.mk (blk_below BO.out hb_); replace BR := Aside0.mk (blk_below BR.out hb_); clear hb_ hco0 hco1 hco2 hco3 hco4 hco5; have hco0 := blk_cell BO.out 0; have hco1 := blk_cell BO.out 1; have hco2 := blk_cell BO.out 2; have hco3 := blk_cell BO.out 3; have hco4 := blk_cell BO.out 4; have hco5 := blk_cell BO.out 5) | ((with_reducible refine gate_store (t := 121) rfl ?_); refine wpList_store_whole rfl rfl rfl gr _ #[.int .i64 _, .int .i64 _] _ rfl rfl BR.out (by kernel_rfl) rfl (two_one _ _) ?_; intro w9 hp; have HE := Aside0.mk (hp.below HB.out G1.out); have HP := Aside0.mk hp.blk; clear hp))
  refine bodyPost_ret (results_cell_row rfl _ _ gr 121 #[.int .i64 _, .int .i64 _] (0, 0) _ rfl HP.out Tryz.underlying121 rfl (by kernel_rfl)) rfl ?_
  exact ⟨rfl, HE.out⟩
set_option maxHeartbeats 4000000 in
set_option maxRecDepth 100000 in
theorem chk1.calls (a0_0 : ByteArray) (A0_1 : Option Addr) (c0_1 : Nat) (l0_1 : List Int) (a0_2 : Int) (A0_3 : Option Addr) (c0_3 : Nat) (l0_3 : List Int) (A0_4 : Option Addr) (c0_4 : Nat) (l0_4 : List (S65)) (A0_5 : Option Addr) (c0_5 : Nat) (l0_5 : List (S82)) (gb : Nat) (r1 r2 : Int) (w : World) (hr0_1 : Kd.C (Kd.int .u32) w A0_1 l0_1.length l0_1) (hc0_1 : l0_1.length ≤ c0_1) (hr0_3 : Kd.C (Kd.int .i64) w A0_3 l0_3.length l0_3) (hc0_3 : l0_3.length ≤ c0_3) (hr0_4 : Kd.C k65 w A0_4 l0_4.length l0_4) (hc0_4 : l0_4.length ≤ c0_4) (hr0_5 : Kd.C k82 w A0_5 l0_5.length l0_5) (hc0_5 : l0_5.length ≤ c0_5) (hob : w.heap[gb]? = some (objCell a0_0 A0_1 l0_1.length c0_1 a0_2 A0_3 l0_3.length c0_3 A0_4 l0_4.length c0_4 A0_5 l0_5.length c0_5)) (h : sizeS a0_0 l0_1 a0_2 l0_3 l0_4.length l0_5.length = (r1, r2)) :
  Calls Tryz.prog 80 #[.pointer (some ⟨gb, 0, none⟩)] w fun e w' => e = .returned (.agg #[.int .i64 r1, .int .i64 r2]) ∧ Below w.heap.size w w' := by
 have hu1 := Tryz.underlying27
 have hu2 := Tryz.underlying121
 have HR1 := Aside0.mk hr0_1
 have HC1 := Aside0.mk hc0_1
 have HR3 := Aside0.mk hr0_3
 have HC3 := Aside0.mk hc0_3
 have HR4 := Aside0.mk hr0_4
 have HC4 := Aside0.mk hc0_4
 have HR5 := Aside0.mk hr0_5
 have HC5 := Aside0.mk hc0_5
 have HH := Aside0.mk h
 have BO := Aside0.mk hob
 clear hr0_1 hc0_1 hr0_3 hc0_3 hr0_4 hc0_4 hr0_5 hc0_5 h hob
 go_enter Tryz.func80, Tryz.ntmps80
 go_wp2_with (first | ((with_reducible refine gate_dst (N := 1) rfl ?_); refine box_event ?hg (N := 1) ?hd (cs := #[.int .i64 0, .int .i64 0]) (t := 121) ?hr ?_; (case hd => rfl); (case hg => rfl); (case hr => first | (go_simp; done) | (go_simp; rfl)); intro gr hgr w2 BK2 hb2; have G1 := Aside0.mk (show w.heap.size ≤ gr by rw [hgr]; exact Nat.le_refl _); have HB := Aside0.mk (below_then (Below.refl w.heap.size w) (Nat.le_refl _) hb2); replace BO := Aside0.mk (blk_below BO.out hb2); have BR := Aside0.mk (show w2.heap[gr]? = some (ansCell 0 0) from BK2); clear BK2 hb2 hgr; have hco0 := blk_cell BO.out 0; have hco1 := blk_cell BO.out 1; have hco2 := blk_cell BO.out 2; have hco3 := blk_cell BO.out 3; have hco4 := blk_cell BO.out 4; have hco5 := blk_cell BO.out 5) | (go_at_call 81; refine (sizeH.calls a0_0 A0_1 c0_1 l0_1 a0_2 A0_3 c0_3 l0_3 A0_4 c0_4 l0_4 A0_5 c0_5 l0_5 _ _ _ (Kd.C_below HR1.out HB.out) HC1.out (Kd.C_below HR3.out HB.out) HC3.out (Kd.C_below HR4.out HB.out) HC4.out (Kd.C_below HR5.out HB.out) HC5.out HH.out).mono ?_; rintro e w3 ⟨rfl, hb⟩; replace HB := Aside0.mk (below_then HB.out HB.out.size hb); replace BR := Aside0.mk (blk_below BR.out hb); clear BO hb) | ((with_reducible refine gate_store (t := 121) rfl ?_); refine wpList_store_whole rfl rfl rfl gr _ #[.int .i64 r1, .int .i64 r2] _ rfl rfl BR.out (by kernel_rfl) rfl (two_one _ _) ?_; intro w9 hp; have HE := Aside0.mk (hp.below HB.out G1.out); have HP := Aside0.mk hp.blk; clear hp))
 refine bodyPost_ret (results_cell_row rfl _ _ gr 121 #[.int .i64 r1, .int .i64 r2] (0, 0) _ rfl HP.out Tryz.underlying121 rfl (by kernel_rfl)) rfl ?_
 exact ⟨rfl, HE.out⟩

set_option maxHeartbeats 4000000 in
set_option maxRecDepth 100000 in
theorem chk2.calls (a0_0 : ByteArray) (A0_1 : Option Addr) (c0_1 : Nat) (l0_1 : List Int) (a0_2 : Int) (A0_3 : Option Addr) (c0_3 : Nat) (l0_3 : List Int) (A0_4 : Option Addr) (c0_4 : Nat) (l0_4 : List (S65)) (A0_5 : Option Addr) (c0_5 : Nat) (l0_5 : List (S82)) (gb : Nat) (r1 r2 : Int) (w : World) (hr0_1 : Kd.C (Kd.int .u32) w A0_1 l0_1.length l0_1) (hc0_1 : l0_1.length ≤ c0_1) (hr0_3 : Kd.C (Kd.int .i64) w A0_3 l0_3.length l0_3) (hc0_3 : l0_3.length ≤ c0_3) (hr0_4 : Kd.C k65 w A0_4 l0_4.length l0_4) (hc0_4 : l0_4.length ≤ c0_4) (hr0_5 : Kd.C k82 w A0_5 l0_5.length l0_5) (hc0_5 : l0_5.length ≤ c0_5) (hl : l0_4.length ≤ 1000000) (hob : w.heap[gb]? = some (objCell a0_0 A0_1 l0_1.length c0_1 a0_2 A0_3 l0_3.length c0_3 A0_4 l0_4.length c0_4 A0_5 l0_5.length c0_5)) (h : symsS l0_4 (l0_1.length : Int) = (r1, r2)) :
  Calls Tryz.prog 82 #[.pointer (some ⟨gb, 0, none⟩)] w fun e w' => e = .returned (.agg #[.int .i64 r1, .int .i64 r2]) ∧ Below w.heap.size w w' := by
 have hu1 := Tryz.underlying27
 have hu2 := Tryz.underlying121
 have HR1 := Aside0.mk hr0_1
 have HC1 := Aside0.mk hc0_1
 have HR3 := Aside0.mk hr0_3
 have HC3 := Aside0.mk hc0_3
 have HR4 := Aside0.mk hr0_4
 have HC4 := Aside0.mk hc0_4
 have HR5 := Aside0.mk hr0_5
 have HC5 := Aside0.mk hc0_5
 have HH := Aside0.mk h
 have BO := Aside0.mk hob
 have HL := Aside0.mk hl
 clear hl
 clear hr0_1 hc0_1 hr0_3 hc0_3 hr0_4 hc0_4 hr0_5 hc0_5 h hob
 go_enter Tryz.func82, Tryz.ntmps82
 go_wp2_with (first | ((with_reducible refine gate_dst (N := 1) rfl ?_); refine box_event ?hg (N := 1) ?hd (cs := #[.int .i64 0, .int .i64 0]) (t := 121) ?hr ?_; (case hd => rfl); (case hg => rfl); (case hr => first | (go_simp; done) | (go_simp; rfl)); intro gr hgr w2 BK2 hb2; have G1 := Aside0.mk (show w.heap.size ≤ gr by rw [hgr]; exact Nat.le_refl _); have HB := Aside0.mk (below_then (Below.refl w.heap.size w) (Nat.le_refl _) hb2); replace BO := Aside0.mk (blk_below BO.out hb2); have BR := Aside0.mk (show w2.heap[gr]? = some (ansCell 0 0) from BK2); clear BK2 hb2 hgr; have hco0 := blk_cell BO.out 0; have hco1 := blk_cell BO.out 1; have hco2 := blk_cell BO.out 2; have hco3 := blk_cell BO.out 3; have hco4 := blk_cell BO.out 4; have hco5 := blk_cell BO.out 5) | (go_at_call 83; refine (object_symbols.calls a0_0 A0_1 c0_1 l0_1 a0_2 A0_3 c0_3 l0_3 A0_4 c0_4 l0_4 A0_5 c0_5 l0_5 _ _ _ (Kd.C_below HR1.out HB.out) HC1.out (Kd.C_below HR3.out HB.out) HC3.out (Kd.C_below HR4.out HB.out) HC4.out (Kd.C_below HR5.out HB.out) HC5.out HL.out HH.out).mono ?_; rintro e w3 ⟨rfl, hb⟩; replace HB := Aside0.mk (below_then HB.out HB.out.size hb); replace BR := Aside0.mk (blk_below BR.out hb); clear BO hb) | ((with_reducible refine gate_store (t := 121) rfl ?_); refine wpList_store_whole rfl rfl rfl gr _ #[.int .i64 r1, .int .i64 r2] _ rfl rfl BR.out (by kernel_rfl) rfl (two_one _ _) ?_; intro w9 hp; have HE := Aside0.mk (hp.below HB.out G1.out); have HP := Aside0.mk hp.blk; clear hp))
 refine bodyPost_ret (results_cell_row rfl _ _ gr 121 #[.int .i64 r1, .int .i64 r2] (0, 0) _ rfl HP.out Tryz.underlying121 rfl (by kernel_rfl)) rfl ?_
 exact ⟨rfl, HE.out⟩

set_option maxHeartbeats 4000000 in
set_option maxRecDepth 100000 in
theorem chk3.calls (a0_0 : ByteArray) (A0_1 : Option Addr) (c0_1 : Nat) (l0_1 : List Int) (a0_2 : Int) (A0_3 : Option Addr) (c0_3 : Nat) (l0_3 : List Int) (A0_4 : Option Addr) (c0_4 : Nat) (l0_4 : List (S65)) (A0_5 : Option Addr) (c0_5 : Nat) (l0_5 : List (S82)) (gb : Nat) (r1 r2 : Int) (w : World) (hr0_1 : Kd.C (Kd.int .u32) w A0_1 l0_1.length l0_1) (hc0_1 : l0_1.length ≤ c0_1) (hr0_3 : Kd.C (Kd.int .i64) w A0_3 l0_3.length l0_3) (hc0_3 : l0_3.length ≤ c0_3) (hr0_4 : Kd.C k65 w A0_4 l0_4.length l0_4) (hc0_4 : l0_4.length ≤ c0_4) (hr0_5 : Kd.C k82 w A0_5 l0_5.length l0_5) (hc0_5 : l0_5.length ≤ c0_5) (hw : wordsO l0_1 = true) (hl : l0_1.length ≤ 16384) (hl5 : l0_5.length ≤ 1000000) (hob : w.heap[gb]? = some (objCell a0_0 A0_1 l0_1.length c0_1 a0_2 A0_3 l0_3.length c0_3 A0_4 l0_4.length c0_4 A0_5 l0_5.length c0_5)) (h : relocsS l0_1 (l0_4.length : Int) l0_5 = (r1, r2)) :
  Calls Tryz.prog 84 #[.pointer (some ⟨gb, 0, none⟩)] w fun e w' => e = .returned (.agg #[.int .i64 r1, .int .i64 r2]) ∧ Below w.heap.size w w' := by
 have hu1 := Tryz.underlying27
 have hu2 := Tryz.underlying121
 have HR1 := Aside0.mk hr0_1
 have HC1 := Aside0.mk hc0_1
 have HR3 := Aside0.mk hr0_3
 have HC3 := Aside0.mk hc0_3
 have HR4 := Aside0.mk hr0_4
 have HC4 := Aside0.mk hc0_4
 have HR5 := Aside0.mk hr0_5
 have HC5 := Aside0.mk hc0_5
 have HH := Aside0.mk h
 have BO := Aside0.mk hob
 have HL := Aside0.mk hl
 have HL5 := Aside0.mk hl5
 have HW := Aside0.mk hw
 clear hl hl5 hw
 clear hr0_1 hc0_1 hr0_3 hc0_3 hr0_4 hc0_4 hr0_5 hc0_5 h hob
 go_enter Tryz.func84, Tryz.ntmps84
 go_wp2_with (first | ((with_reducible refine gate_dst (N := 1) rfl ?_); refine box_event ?hg (N := 1) ?hd (cs := #[.int .i64 0, .int .i64 0]) (t := 121) ?hr ?_; (case hd => rfl); (case hg => rfl); (case hr => first | (go_simp; done) | (go_simp; rfl)); intro gr hgr w2 BK2 hb2; have G1 := Aside0.mk (show w.heap.size ≤ gr by rw [hgr]; exact Nat.le_refl _); have HB := Aside0.mk (below_then (Below.refl w.heap.size w) (Nat.le_refl _) hb2); replace BO := Aside0.mk (blk_below BO.out hb2); have BR := Aside0.mk (show w2.heap[gr]? = some (ansCell 0 0) from BK2); clear BK2 hb2 hgr; have hco0 := blk_cell BO.out 0; have hco1 := blk_cell BO.out 1; have hco2 := blk_cell BO.out 2; have hco3 := blk_cell BO.out 3; have hco4 := blk_cell BO.out 4; have hco5 := blk_cell BO.out 5) | (go_at_call 85; refine (object_relocs.calls a0_0 A0_1 c0_1 l0_1 a0_2 A0_3 c0_3 l0_3 A0_4 c0_4 l0_4 A0_5 c0_5 l0_5 _ _ _ (Kd.C_below HR1.out HB.out) HC1.out (Kd.C_below HR3.out HB.out) HC3.out (Kd.C_below HR4.out HB.out) HC4.out (Kd.C_below HR5.out HB.out) HC5.out HW.out HL.out HL5.out HH.out).mono ?_; rintro e w3 ⟨rfl, hb⟩; replace HB := Aside0.mk (below_then HB.out HB.out.size hb); replace BR := Aside0.mk (blk_below BR.out hb); clear BO hb) | ((with_reducible refine gate_store (t := 121) rfl ?_); refine wpList_store_whole rfl rfl rfl gr _ #[.int .i64 r1, .int .i64 r2] _ rfl rfl BR.out (by kernel_rfl) rfl (two_one _ _) ?_; intro w9 hp; have HE := Aside0.mk (hp.below HB.out G1.out); have HP := Aside0.mk hp.blk; clear hp))
 refine bodyPost_ret (results_cell_row rfl _ _ gr 121 #[.int .i64 r1, .int .i64 r2] (0, 0) _ rfl HP.out Tryz.underlying121 rfl (by kernel_rfl)) rfl ?_
 exact ⟨rfl, HE.out⟩

def fsCell (gb : Nat) : Obj := .cells #[(.func (.func 80) #[] #[.pointer (some ⟨gb, 0, none⟩)]), (.func (.func 82) #[] #[.pointer (some ⟨gb, 0, none⟩)]), (.func (.func 84) #[] #[.pointer (some ⟨gb, 0, none⟩)])] 123 (0, 0)
structure OC (w W : World) (gb : Nat) (oi : Obj) (gf : Nat) : Prop where
  low : Below w.heap.size w W
  obj : W.heap[gb]? = some oi
  fs : W.heap[gf]? = some (fsCell gb)
  g1 : w.heap.size ≤ gb
  g2 : w.heap.size ≤ gf
theorem OC.below {w W W1 : World} {gb gf : Nat} {oi : Obj} (h : OC w W gb oi gf) (hb : Below W.heap.size W W1) : OC w W1 gb oi gf :=
 ⟨below_then h.low h.low.size hb, blk_below h.obj hb, blk_below h.fs hb, h.g1, h.g2⟩
theorem OC.grown {w W W1 : World} {gb gf g : Nat} {oi : Obj} (h : OC w W gb oi gf) (hg : W.grownBy W1 (some g)) (hw : w.heap.size ≤ g) (h1 : gb ≠ g) (h2 : gf ≠ g) : OC w W1 gb oi gf :=
 ⟨pw_below_grown h.low (some g) h.low.size hg (fun k hk => by have := Option.some.inj hk; omega), blk_grown h.obj hg (fun e => h1 (Option.some.inj e)), blk_grown h.fs hg (fun e => h2 (Option.some.inj e)), h.g1, h.g2⟩
set_option maxHeartbeats 8000000 in
set_option maxRecDepth 100000 in
theorem object_Check.calls (a0_0 : ByteArray) (A0_1 : Option Addr) (c0_1 : Nat) (l0_1 : List Int) (a0_2 : Int) (A0_3 : Option Addr) (c0_3 : Nat) (l0_3 : List Int) (A0_4 : Option Addr) (c0_4 : Nat) (l0_4 : List (S65)) (A0_5 : Option Addr) (c0_5 : Nat) (l0_5 : List (S82)) (r1 r2 : Int) (w : World) (hr0_1 : Kd.C (Kd.int .u32) w A0_1 l0_1.length l0_1) (hc0_1 : l0_1.length ≤ c0_1) (hr0_3 : Kd.C (Kd.int .i64) w A0_3 l0_3.length l0_3) (hc0_3 : l0_3.length ≤ c0_3) (hr0_4 : Kd.C k65 w A0_4 l0_4.length l0_4) (hc0_4 : l0_4.length ≤ c0_4) (hr0_5 : Kd.C k82 w A0_5 l0_5.length l0_5) (hc0_5 : l0_5.length ≤ c0_5) (h : object_Check.f a0_0 l0_1 a0_2 l0_3 l0_4 l0_5 = some (r1, r2)) :
  Calls Tryz.prog 25 #[.agg #[.string a0_0, .slice A0_1 l0_1.length c0_1, .int .i64 a0_2, .slice A0_3 l0_3.length c0_3, .slice A0_4 l0_4.length c0_4, .slice A0_5 l0_5.length c0_5]] w fun e w' => e = .returned (.tuple #[.int .i64 r1, .int .i64 r2]) ∧ Below w.heap.size w w' := by
 have hu1 := Tryz.underlying27
 have hu2 := Tryz.underlying121
 unfold object_Check.f at h
 by_cases hw : wordsO l0_1 = true
 ·
  rw [if_pos hw] at h
  have h := Option.some.inj h
  have HR1 := Aside0.mk hr0_1
  have HC1 := Aside0.mk hc0_1
  have HR3 := Aside0.mk hr0_3
  have HC3 := Aside0.mk hc0_3
  have HR4 := Aside0.mk hr0_4
  have HC4 := Aside0.mk hc0_4
  have HR5 := Aside0.mk hr0_5
  have HC5 := Aside0.mk hc0_5
  have HW := Aside0.mk hw
  clear hr0_1 hc0_1 hr0_3 hc0_3 hr0_4 hc0_4 hr0_5 hc0_5 hw
  unfold chkO at h
  have hok : (sizeS a0_0 l0_1 a0_2 l0_3 l0_4.length l0_5.length).1 = 0 → _ := fun h => sizeS_ok h
  generalize hz1 : sizeS a0_0 l0_1 a0_2 l0_3 l0_4.length l0_5.length = z1 at h hok
  have H1 := Aside0.mk hz1
  clear hz1
  obtain ⟨s1, n1⟩ := z1
  simp only at h hok
  by_cases k1 : s1 = 0
  ·
   rw [if_pos k1] at h
   obtain ⟨_, hl1, hl4, hl5, _, _⟩ := hok k1
   subst k1
   have HL1 := Aside0.mk hl1
   have HL4 := Aside0.mk (show l0_4.length ≤ 1000000 by omega)
   have HL5 := Aside0.mk (show l0_5.length ≤ 1000000 by omega)
   clear hok hl1 hl4 hl5
   generalize hz2 : symsS l0_4 (l0_1.length : Int) = z2 at h
   have H2 := Aside0.mk hz2
   clear hz2
   obtain ⟨s2, n2⟩ := z2
   simp only at h
   by_cases k2 : s2 = 0
   ·
    rw [if_pos k2] at h
    subst k2
    generalize hz3 : relocsS l0_1 (l0_4.length : Int) l0_5 = z3 at h
    have H3 := Aside0.mk hz3
    clear hz3
    obtain ⟨s3, n3⟩ := z3
    simp only at h
    by_cases k3 : s3 = 0
    ·
     rw [if_pos k3] at h
     subst k3
     injection h with e1 e2
     subst e1 e2
     go_enter Tryz.func25, Tryz.ntmps25
     go_wp2_with (first | ((with_reducible refine gate_dst (N := 1) rfl ?_); refine box_event ?hg (N := 1) ?hd (cs := #[.string a0_0, .slice A0_1 l0_1.length c0_1, .int .i64 a0_2, .slice A0_3 l0_3.length c0_3, .slice A0_4 l0_4.length c0_4, .slice A0_5 l0_5.length c0_5]) (t := 27) ?hr ?_; (case hd => rfl); (case hg => rfl); (case hr => first | (go_simp; done) | (go_simp; rfl)); intro gb hgb w1 BK1 hb1; have HB := Aside0.mk (below_then (Below.refl w.heap.size w) (Nat.le_refl _) hb1); have GB := Aside0.mk (show w.heap.size ≤ gb by rw [hgb]; exact Nat.le_refl _); have BO := Aside0.mk (show w1.heap[gb]? = some (objCell a0_0 A0_1 l0_1.length c0_1 a0_2 A0_3 l0_3.length c0_3 A0_4 l0_4.length c0_4 A0_5 l0_5.length c0_5) from BK1); clear BK1 hb1 hgb) | ((with_reducible refine gate_dst (N := 11) rfl ?_); refine lit_event ?hg (N := 11) ?hd (cs := #[(.func (.func 80) #[] #[.pointer (some ⟨gb, 0, none⟩)]), (.func (.func 82) #[] #[.pointer (some ⟨gb, 0, none⟩)]), (.func (.func 84) #[] #[.pointer (some ⟨gb, 0, none⟩)])]) (e := 123) (n := 3) ?hr ?_; (case hd => rfl); (case hg => rfl); (case hr => first | (go_simp; done) | (go_simp; rfl)); intro gf hgf w2 BK2 hb2; have HO := Aside0.mk (show OC w w2 gb (objCell a0_0 A0_1 l0_1.length c0_1 a0_2 A0_3 l0_3.length c0_3 A0_4 l0_4.length c0_4 A0_5 l0_5.length c0_5) gf from ⟨below_then HB.out HB.out.size hb2, blk_below BO.out hb2, BK2, GB.out, by rw [hgf]; exact HB.out.size⟩); clear HB BO BK2 hb2 hgf GB; have hf0 := blk_cell HO.out.fs 0; have hf1 := blk_cell HO.out.fs 1; have hf2 := blk_cell HO.out.fs 2))
     refine wp_loop_rounds 4 ?_
     rw [rounds_succ]
     go_wp2_with (first | (go_at_call 80; refine (chk1.calls a0_0 A0_1 c0_1 l0_1 a0_2 A0_3 c0_3 l0_3 A0_4 c0_4 l0_4 A0_5 c0_5 l0_5 gb _ _ _ (Kd.C_below HR1.out HO.out.low) HC1.out (Kd.C_below HR3.out HO.out.low) HC3.out (Kd.C_below HR4.out HO.out.low) HC4.out (Kd.C_below HR5.out HO.out.low) HC5.out HO.out.obj H1.out).mono ?_; rintro e w3 ⟨rfl, hb⟩; replace HO := Aside0.mk (HO.out.below hb); clear hb; have hf0 := blk_cell HO.out.fs 0; have hf1 := blk_cell HO.out.fs 1; have hf2 := blk_cell HO.out.fs 2) | ((with_reducible refine gate_dst (N := 7) rfl ?_); refine box_event ?hg (N := 7) ?hd (cs := #[.int .i64 0, .int .i64 0]) (t := 121) ?hr ?_; (case hd => rfl); (case hg => rfl); (case hr => first | (go_simp; done) | (go_simp; rfl)); intro gs hgs w5 BK5 hb5; have LF := Aside0.mk (show gf < gs by rw [hgs]; exact blk_lt HO.out.fs); have LG := Aside0.mk (show gb < gs by rw [hgs]; exact blk_lt HO.out.obj); replace HO := Aside0.mk (HO.out.below hb5); have BS := Aside0.mk BK5; clear BK5 hb5 hgs; have hf0 := blk_cell HO.out.fs 0; have hf1 := blk_cell HO.out.fs 1; have hf2 := blk_cell HO.out.fs 2) | ((with_reducible refine gate_store (t := 121) rfl ?_); refine wpList_store_whole rfl rfl rfl gs _ #[.int .i64 0, .int .i64 n1] _ rfl rfl BS.out (by kernel_rfl) rfl (two_one _ _) ?_; intro w6 hp; replace HO := Aside0.mk (HO.out.grown (put_grownN hp) (by have := LG.out; have := HO.out.g1; omega) (by have := LG.out; omega) (by have := LF.out; omega)); have BSn := Aside0.mk hp.blk; clear BS hp LF LG; have hs0 := blk_cell BSn.out 0; have hs1 := blk_cell BSn.out 1; clear BSn; have hf0 := blk_cell HO.out.fs 0; have hf1 := blk_cell HO.out.fs 1; have hf2 := blk_cell HO.out.fs 2))
     rw [rounds_succ]
     go_wp2_with (first | (go_at_call 82; refine (chk2.calls a0_0 A0_1 c0_1 l0_1 a0_2 A0_3 c0_3 l0_3 A0_4 c0_4 l0_4 A0_5 c0_5 l0_5 gb _ _ _ (Kd.C_below HR1.out HO.out.low) HC1.out (Kd.C_below HR3.out HO.out.low) HC3.out (Kd.C_below HR4.out HO.out.low) HC4.out (Kd.C_below HR5.out HO.out.low) HC5.out HL4.out HO.out.obj H2.out).mono ?_; rintro e w3 ⟨rfl, hb⟩; replace HO := Aside0.mk (HO.out.below hb); clear hb; have hf0 := blk_cell HO.out.fs 0; have hf1 := blk_cell HO.out.fs 1; have hf2 := blk_cell HO.out.fs 2) | ((with_reducible refine gate_dst (N := 7) rfl ?_); refine box_event ?hg (N := 7) ?hd (cs := #[.int .i64 0, .int .i64 0]) (t := 121) ?hr ?_; (case hd => rfl); (case hg => rfl); (case hr => first | (go_simp; done) | (go_simp; rfl)); intro gs hgs w5 BK5 hb5; have LF := Aside0.mk (show gf < gs by rw [hgs]; exact blk_lt HO.out.fs); have LG := Aside0.mk (show gb < gs by rw [hgs]; exact blk_lt HO.out.obj); replace HO := Aside0.mk (HO.out.below hb5); have BS := Aside0.mk BK5; clear BK5 hb5 hgs; have hf0 := blk_cell HO.out.fs 0; have hf1 := blk_cell HO.out.fs 1; have hf2 := blk_cell HO.out.fs 2) | ((with_reducible refine gate_store (t := 121) rfl ?_); refine wpList_store_whole rfl rfl rfl gs _ #[.int .i64 0, .int .i64 n2] _ rfl rfl BS.out (by kernel_rfl) rfl (two_one _ _) ?_; intro w6 hp; replace HO := Aside0.mk (HO.out.grown (put_grownN hp) (by have := LG.out; have := HO.out.g1; omega) (by have := LG.out; omega) (by have := LF.out; omega)); have BSn := Aside0.mk hp.blk; clear BS hp LF LG; have hs0 := blk_cell BSn.out 0; have hs1 := blk_cell BSn.out 1; clear BSn; have hf0 := blk_cell HO.out.fs 0; have hf1 := blk_cell HO.out.fs 1; have hf2 := blk_cell HO.out.fs 2))
     rw [rounds_succ]
     go_wp2_with (first | (go_at_call 84; refine (chk3.calls a0_0 A0_1 c0_1 l0_1 a0_2 A0_3 c0_3 l0_3 A0_4 c0_4 l0_4 A0_5 c0_5 l0_5 gb _ _ _ (Kd.C_below HR1.out HO.out.low) HC1.out (Kd.C_below HR3.out HO.out.low) HC3.out (Kd.C_below HR4.out HO.out.low) HC4.out (Kd.C_below HR5.out HO.out.low) HC5.out HW.out HL1.out HL5.out HO.out.obj H3.out).mono ?_; rintro e w3 ⟨rfl, hb⟩; replace HO := Aside0.mk (HO.out.below hb); clear hb; have hf0 := blk_cell HO.out.fs 0; have hf1 := blk_cell HO.out.fs 1; have hf2 := blk_cell HO.out.fs 2) | ((with_reducible refine gate_dst (N := 7) rfl ?_); refine box_event ?hg (N := 7) ?hd (cs := #[.int .i64 0, .int .i64 0]) (t := 121) ?hr ?_; (case hd => rfl); (case hg => rfl); (case hr => first | (go_simp; done) | (go_simp; rfl)); intro gs hgs w5 BK5 hb5; have LF := Aside0.mk (show gf < gs by rw [hgs]; exact blk_lt HO.out.fs); have LG := Aside0.mk (show gb < gs by rw [hgs]; exact blk_lt HO.out.obj); replace HO := Aside0.mk (HO.out.below hb5); have BS := Aside0.mk BK5; clear BK5 hb5 hgs; have hf0 := blk_cell HO.out.fs 0; have hf1 := blk_cell HO.out.fs 1; have hf2 := blk_cell HO.out.fs 2) | ((with_reducible refine gate_store (t := 121) rfl ?_); refine wpList_store_whole rfl rfl rfl gs _ #[.int .i64 0, .int .i64 n3] _ rfl rfl BS.out (by kernel_rfl) rfl (two_one _ _) ?_; intro w6 hp; replace HO := Aside0.mk (HO.out.grown (put_grownN hp) (by have := LG.out; have := HO.out.g1; omega) (by have := LG.out; omega) (by have := LF.out; omega)); have BSn := Aside0.mk hp.blk; clear BS hp LF LG; have hs0 := blk_cell BSn.out 0; have hs1 := blk_cell BSn.out 1; clear BSn; have hf0 := blk_cell HO.out.fs 0; have hf1 := blk_cell HO.out.fs 1; have hf2 := blk_cell HO.out.fs 2))
     rw [rounds_succ]
     go_wp2
     go_ret2
     exact ⟨rfl, HO.out.low⟩
    ·
     rw [if_neg k3] at h
     injection h with e1 e2
     subst e1 e2
     have k3b : (s3 != 0) = true := bne_iff_ne.mpr k3
     clear k3
     go_enter Tryz.func25, Tryz.ntmps25
     go_wp2_with (first | ((with_reducible refine gate_dst (N := 1) rfl ?_); refine box_event ?hg (N := 1) ?hd (cs := #[.string a0_0, .slice A0_1 l0_1.length c0_1, .int .i64 a0_2, .slice A0_3 l0_3.length c0_3, .slice A0_4 l0_4.length c0_4, .slice A0_5 l0_5.length c0_5]) (t := 27) ?hr ?_; (case hd => rfl); (case hg => rfl); (case hr => first | (go_simp; done) | (go_simp; rfl)); intro gb hgb w1 BK1 hb1; have HB := Aside0.mk (below_then (Below.refl w.heap.size w) (Nat.le_refl _) hb1); have GB := Aside0.mk (show w.heap.size ≤ gb by rw [hgb]; exact Nat.le_refl _); have BO := Aside0.mk (show w1.heap[gb]? = some (objCell a0_0 A0_1 l0_1.length c0_1 a0_2 A0_3 l0_3.length c0_3 A0_4 l0_4.length c0_4 A0_5 l0_5.length c0_5) from BK1); clear BK1 hb1 hgb) | ((with_reducible refine gate_dst (N := 11) rfl ?_); refine lit_event ?hg (N := 11) ?hd (cs := #[(.func (.func 80) #[] #[.pointer (some ⟨gb, 0, none⟩)]), (.func (.func 82) #[] #[.pointer (some ⟨gb, 0, none⟩)]), (.func (.func 84) #[] #[.pointer (some ⟨gb, 0, none⟩)])]) (e := 123) (n := 3) ?hr ?_; (case hd => rfl); (case hg => rfl); (case hr => first | (go_simp; done) | (go_simp; rfl)); intro gf hgf w2 BK2 hb2; have HO := Aside0.mk (show OC w w2 gb (objCell a0_0 A0_1 l0_1.length c0_1 a0_2 A0_3 l0_3.length c0_3 A0_4 l0_4.length c0_4 A0_5 l0_5.length c0_5) gf from ⟨below_then HB.out HB.out.size hb2, blk_below BO.out hb2, BK2, GB.out, by rw [hgf]; exact HB.out.size⟩); clear HB BO BK2 hb2 hgf GB; have hf0 := blk_cell HO.out.fs 0; have hf1 := blk_cell HO.out.fs 1; have hf2 := blk_cell HO.out.fs 2))
     refine wp_loop_rounds 4 ?_
     rw [rounds_succ]
     go_wp2_with (first | (go_at_call 80; refine (chk1.calls a0_0 A0_1 c0_1 l0_1 a0_2 A0_3 c0_3 l0_3 A0_4 c0_4 l0_4 A0_5 c0_5 l0_5 gb _ _ _ (Kd.C_below HR1.out HO.out.low) HC1.out (Kd.C_below HR3.out HO.out.low) HC3.out (Kd.C_below HR4.out HO.out.low) HC4.out (Kd.C_below HR5.out HO.out.low) HC5.out HO.out.obj H1.out).mono ?_; rintro e w3 ⟨rfl, hb⟩; replace HO := Aside0.mk (HO.out.below hb); clear hb; have hf0 := blk_cell HO.out.fs 0; have hf1 := blk_cell HO.out.fs 1; have hf2 := blk_cell HO.out.fs 2) | ((with_reducible refine gate_dst (N := 7) rfl ?_); refine box_event ?hg (N := 7) ?hd (cs := #[.int .i64 0, .int .i64 0]) (t := 121) ?hr ?_; (case hd => rfl); (case hg => rfl); (case hr => first | (go_simp; done) | (go_simp; rfl)); intro gs hgs w5 BK5 hb5; have LF := Aside0.mk (show gf < gs by rw [hgs]; exact blk_lt HO.out.fs); have LG := Aside0.mk (show gb < gs by rw [hgs]; exact blk_lt HO.out.obj); replace HO := Aside0.mk (HO.out.below hb5); have BS := Aside0.mk BK5; clear BK5 hb5 hgs; have hf0 := blk_cell HO.out.fs 0; have hf1 := blk_cell HO.out.fs 1; have hf2 := blk_cell HO.out.fs 2) | ((with_reducible refine gate_store (t := 121) rfl ?_); refine wpList_store_whole rfl rfl rfl gs _ #[.int .i64 0, .int .i64 n1] _ rfl rfl BS.out (by kernel_rfl) rfl (two_one _ _) ?_; intro w6 hp; replace HO := Aside0.mk (HO.out.grown (put_grownN hp) (by have := LG.out; have := HO.out.g1; omega) (by have := LG.out; omega) (by have := LF.out; omega)); have BSn := Aside0.mk hp.blk; clear BS hp LF LG; have hs0 := blk_cell BSn.out 0; have hs1 := blk_cell BSn.out 1; clear BSn; have hf0 := blk_cell HO.out.fs 0; have hf1 := blk_cell HO.out.fs 1; have hf2 := blk_cell HO.out.fs 2))
     rw [rounds_succ]
     go_wp2_with (first | (go_at_call 82; refine (chk2.calls a0_0 A0_1 c0_1 l0_1 a0_2 A0_3 c0_3 l0_3 A0_4 c0_4 l0_4 A0_5 c0_5 l0_5 gb _ _ _ (Kd.C_below HR1.out HO.out.low) HC1.out (Kd.C_below HR3.out HO.out.low) HC3.out (Kd.C_below HR4.out HO.out.low) HC4.out (Kd.C_below HR5.out HO.out.low) HC5.out HL4.out HO.out.obj H2.out).mono ?_; rintro e w3 ⟨rfl, hb⟩; replace HO := Aside0.mk (HO.out.below hb); clear hb; have hf0 := blk_cell HO.out.fs 0; have hf1 := blk_cell HO.out.fs 1; have hf2 := blk_cell HO.out.fs 2) | ((with_reducible refine gate_dst (N := 7) rfl ?_); refine box_event ?hg (N := 7) ?hd (cs := #[.int .i64 0, .int .i64 0]) (t := 121) ?hr ?_; (case hd => rfl); (case hg => rfl); (case hr => first | (go_simp; done) | (go_simp; rfl)); intro gs hgs w5 BK5 hb5; have LF := Aside0.mk (show gf < gs by rw [hgs]; exact blk_lt HO.out.fs); have LG := Aside0.mk (show gb < gs by rw [hgs]; exact blk_lt HO.out.obj); replace HO := Aside0.mk (HO.out.below hb5); have BS := Aside0.mk BK5; clear BK5 hb5 hgs; have hf0 := blk_cell HO.out.fs 0; have hf1 := blk_cell HO.out.fs 1; have hf2 := blk_cell HO.out.fs 2) | ((with_reducible refine gate_store (t := 121) rfl ?_); refine wpList_store_whole rfl rfl rfl gs _ #[.int .i64 0, .int .i64 n2] _ rfl rfl BS.out (by kernel_rfl) rfl (two_one _ _) ?_; intro w6 hp; replace HO := Aside0.mk (HO.out.grown (put_grownN hp) (by have := LG.out; have := HO.out.g1; omega) (by have := LG.out; omega) (by have := LF.out; omega)); have BSn := Aside0.mk hp.blk; clear BS hp LF LG; have hs0 := blk_cell BSn.out 0; have hs1 := blk_cell BSn.out 1; clear BSn; have hf0 := blk_cell HO.out.fs 0; have hf1 := blk_cell HO.out.fs 1; have hf2 := blk_cell HO.out.fs 2))
     rw [rounds_succ]
     go_wp2_with (first | (go_at_call 84; refine (chk3.calls a0_0 A0_1 c0_1 l0_1 a0_2 A0_3 c0_3 l0_3 A0_4 c0_4 l0_4 A0_5 c0_5 l0_5 gb _ _ _ (Kd.C_below HR1.out HO.out.low) HC1.out (Kd.C_below HR3.out HO.out.low) HC3.out (Kd.C_below HR4.out HO.out.low) HC4.out (Kd.C_below HR5.out HO.out.low) HC5.out HW.out HL1.out HL5.out HO.out.obj H3.out).mono ?_; rintro e w3 ⟨rfl, hb⟩; replace HO := Aside0.mk (HO.out.below hb); clear hb; have hf0 := blk_cell HO.out.fs 0; have hf1 := blk_cell HO.out.fs 1; have hf2 := blk_cell HO.out.fs 2) | ((with_reducible refine gate_dst (N := 7) rfl ?_); refine box_event ?hg (N := 7) ?hd (cs := #[.int .i64 0, .int .i64 0]) (t := 121) ?hr ?_; (case hd => rfl); (case hg => rfl); (case hr => first | (go_simp; done) | (go_simp; rfl)); intro gs hgs w5 BK5 hb5; have LF := Aside0.mk (show gf < gs by rw [hgs]; exact blk_lt HO.out.fs); have LG := Aside0.mk (show gb < gs by rw [hgs]; exact blk_lt HO.out.obj); replace HO := Aside0.mk (HO.out.below hb5); have BS := Aside0.mk BK5; clear BK5 hb5 hgs; have hf0 := blk_cell HO.out.fs 0; have hf1 := blk_cell HO.out.fs 1; have hf2 := blk_cell HO.out.fs 2) | ((with_reducible refine gate_store (t := 121) rfl ?_); refine wpList_store_whole rfl rfl rfl gs _ #[.int .i64 s3, .int .i64 n3] _ rfl rfl BS.out (by kernel_rfl) rfl (two_one _ _) ?_; intro w6 hp; replace HO := Aside0.mk (HO.out.grown (put_grownN hp) (by have := LG.out; have := HO.out.g1; omega) (by have := LG.out; omega) (by have := LF.out; omega)); have BSn := Aside0.mk hp.blk; clear BS hp LF LG; have hs0 := blk_cell BSn.out 0; have hs1 := blk_cell BSn.out 1; clear BSn; have hf0 := blk_cell HO.out.fs 0; have hf1 := blk_cell HO.out.fs 1; have hf2 := blk_cell HO.out.fs 2))
     repeat (go_quiet (fail); try go_wp2)
     go_ret2
     exact ⟨rfl, by first | exact HO.out.low | exact pw_below_drewN HO.out.low _⟩
   ·
    rw [if_neg k2] at h
    injection h with e1 e2
    subst e1 e2
    have k2b : (s2 != 0) = true := bne_iff_ne.mpr k2
    clear k2
    go_enter Tryz.func25, Tryz.ntmps25
    go_wp2_with (first | ((with_reducible refine gate_dst (N := 1) rfl ?_); refine box_event ?hg (N := 1) ?hd (cs := #[.string a0_0, .slice A0_1 l0_1.length c0_1, .int .i64 a0_2, .slice A0_3 l0_3.length c0_3, .slice A0_4 l0_4.length c0_4, .slice A0_5 l0_5.length c0_5]) (t := 27) ?hr ?_; (case hd => rfl); (case hg => rfl); (case hr => first | (go_simp; done) | (go_simp; rfl)); intro gb hgb w1 BK1 hb1; have HB := Aside0.mk (below_then (Below.refl w.heap.size w) (Nat.le_refl _) hb1); have GB := Aside0.mk (show w.heap.size ≤ gb by rw [hgb]; exact Nat.le_refl _); have BO := Aside0.mk (show w1.heap[gb]? = some (objCell a0_0 A0_1 l0_1.length c0_1 a0_2 A0_3 l0_3.length c0_3 A0_4 l0_4.length c0_4 A0_5 l0_5.length c0_5) from BK1); clear BK1 hb1 hgb) | ((with_reducible refine gate_dst (N := 11) rfl ?_); refine lit_event ?hg (N := 11) ?hd (cs := #[(.func (.func 80) #[] #[.pointer (some ⟨gb, 0, none⟩)]), (.func (.func 82) #[] #[.pointer (some ⟨gb, 0, none⟩)]), (.func (.func 84) #[] #[.pointer (some ⟨gb, 0, none⟩)])]) (e := 123) (n := 3) ?hr ?_; (case hd => rfl); (case hg => rfl); (case hr => first | (go_simp; done) | (go_simp; rfl)); intro gf hgf w2 BK2 hb2; have HO := Aside0.mk (show OC w w2 gb (objCell a0_0 A0_1 l0_1.length c0_1 a0_2 A0_3 l0_3.length c0_3 A0_4 l0_4.length c0_4 A0_5 l0_5.length c0_5) gf from ⟨below_then HB.out HB.out.size hb2, blk_below BO.out hb2, BK2, GB.out, by rw [hgf]; exact HB.out.size⟩); clear HB BO BK2 hb2 hgf GB; have hf0 := blk_cell HO.out.fs 0; have hf1 := blk_cell HO.out.fs 1; have hf2 := blk_cell HO.out.fs 2))
    refine wp_loop_rounds 4 ?_
    rw [rounds_succ]
    go_wp2_with (first | (go_at_call 80; refine (chk1.calls a0_0 A0_1 c0_1 l0_1 a0_2 A0_3 c0_3 l0_3 A0_4 c0_4 l0_4 A0_5 c0_5 l0_5 gb _ _ _ (Kd.C_below HR1.out HO.out.low) HC1.out (Kd.C_below HR3.out HO.out.low) HC3.out (Kd.C_below HR4.out HO.out.low) HC4.out (Kd.C_below HR5.out HO.out.low) HC5.out HO.out.obj H1.out).mono ?_; rintro e w3 ⟨rfl, hb⟩; replace HO := Aside0.mk (HO.out.below hb); clear hb; have hf0 := blk_cell HO.out.fs 0; have hf1 := blk_cell HO.out.fs 1; have hf2 := blk_cell HO.out.fs 2) | ((with_reducible refine gate_dst (N := 7) rfl ?_); refine box_event ?hg (N := 7) ?hd (cs := #[.int .i64 0, .int .i64 0]) (t := 121) ?hr ?_; (case hd => rfl); (case hg => rfl); (case hr => first | (go_simp; done) | (go_simp; rfl)); intro gs hgs w5 BK5 hb5; have LF := Aside0.mk (show gf < gs by rw [hgs]; exact blk_lt HO.out.fs); have LG := Aside0.mk (show gb < gs by rw [hgs]; exact blk_lt HO.out.obj); replace HO := Aside0.mk (HO.out.below hb5); have BS := Aside0.mk BK5; clear BK5 hb5 hgs; have hf0 := blk_cell HO.out.fs 0; have hf1 := blk_cell HO.out.fs 1; have hf2 := blk_cell HO.out.fs 2) | ((with_reducible refine gate_store (t := 121) rfl ?_); refine wpList_store_whole rfl rfl rfl gs _ #[.int .i64 0, .int .i64 n1] _ rfl rfl BS.out (by kernel_rfl) rfl (two_one _ _) ?_; intro w6 hp; replace HO := Aside0.mk (HO.out.grown (put_grownN hp) (by have := LG.out; have := HO.out.g1; omega) (by have := LG.out; omega) (by have := LF.out; omega)); have BSn := Aside0.mk hp.blk; clear BS hp LF LG; have hs0 := blk_cell BSn.out 0; have hs1 := blk_cell BSn.out 1; clear BSn; have hf0 := blk_cell HO.out.fs 0; have hf1 := blk_cell HO.out.fs 1; have hf2 := blk_cell HO.out.fs 2))
    rw [rounds_succ]
    go_wp2_with (first | (go_at_call 82; refine (chk2.calls a0_0 A0_1 c0_1 l0_1 a0_2 A0_3 c0_3 l0_3 A0_4 c0_4 l0_4 A0_5 c0_5 l0_5 gb _ _ _ (Kd.C_below HR1.out HO.out.low) HC1.out (Kd.C_below HR3.out HO.out.low) HC3.out (Kd.C_below HR4.out HO.out.low) HC4.out (Kd.C_below HR5.out HO.out.low) HC5.out HL4.out HO.out.obj H2.out).mono ?_; rintro e w3 ⟨rfl, hb⟩; replace HO := Aside0.mk (HO.out.below hb); clear hb; have hf0 := blk_cell HO.out.fs 0; have hf1 := blk_cell HO.out.fs 1; have hf2 := blk_cell HO.out.fs 2) | ((with_reducible refine gate_dst (N := 7) rfl ?_); refine box_event ?hg (N := 7) ?hd (cs := #[.int .i64 0, .int .i64 0]) (t := 121) ?hr ?_; (case hd => rfl); (case hg => rfl); (case hr => first | (go_simp; done) | (go_simp; rfl)); intro gs hgs w5 BK5 hb5; have LF := Aside0.mk (show gf < gs by rw [hgs]; exact blk_lt HO.out.fs); have LG := Aside0.mk (show gb < gs by rw [hgs]; exact blk_lt HO.out.obj); replace HO := Aside0.mk (HO.out.below hb5); have BS := Aside0.mk BK5; clear BK5 hb5 hgs; have hf0 := blk_cell HO.out.fs 0; have hf1 := blk_cell HO.out.fs 1; have hf2 := blk_cell HO.out.fs 2) | ((with_reducible refine gate_store (t := 121) rfl ?_); refine wpList_store_whole rfl rfl rfl gs _ #[.int .i64 s2, .int .i64 n2] _ rfl rfl BS.out (by kernel_rfl) rfl (two_one _ _) ?_; intro w6 hp; replace HO := Aside0.mk (HO.out.grown (put_grownN hp) (by have := LG.out; have := HO.out.g1; omega) (by have := LG.out; omega) (by have := LF.out; omega)); have BSn := Aside0.mk hp.blk; clear BS hp LF LG; have hs0 := blk_cell BSn.out 0; have hs1 := blk_cell BSn.out 1; clear BSn; have hf0 := blk_cell HO.out.fs 0; have hf1 := blk_cell HO.out.fs 1; have hf2 := blk_cell HO.out.fs 2))
    repeat (go_quiet (fail); try go_wp2)
    go_ret2
    exact ⟨rfl, by first | exact HO.out.low | exact pw_below_drewN HO.out.low _⟩
  ·
   rw [if_neg k1] at h
   injection h with e1 e2
   subst e1 e2
   have k1b : (s1 != 0) = true := bne_iff_ne.mpr k1
   clear k1 hok
   go_enter Tryz.func25, Tryz.ntmps25
   go_wp2_with (first | ((with_reducible refine gate_dst (N := 1) rfl ?_); refine box_event ?hg (N := 1) ?hd (cs := #[.string a0_0, .slice A0_1 l0_1.length c0_1, .int .i64 a0_2, .slice A0_3 l0_3.length c0_3, .slice A0_4 l0_4.length c0_4, .slice A0_5 l0_5.length c0_5]) (t := 27) ?hr ?_; (case hd => rfl); (case hg => rfl); (case hr => first | (go_simp; done) | (go_simp; rfl)); intro gb hgb w1 BK1 hb1; have HB := Aside0.mk (below_then (Below.refl w.heap.size w) (Nat.le_refl _) hb1); have GB := Aside0.mk (show w.heap.size ≤ gb by rw [hgb]; exact Nat.le_refl _); have BO := Aside0.mk (show w1.heap[gb]? = some (objCell a0_0 A0_1 l0_1.length c0_1 a0_2 A0_3 l0_3.length c0_3 A0_4 l0_4.length c0_4 A0_5 l0_5.length c0_5) from BK1); clear BK1 hb1 hgb) | ((with_reducible refine gate_dst (N := 11) rfl ?_); refine lit_event ?hg (N := 11) ?hd (cs := #[(.func (.func 80) #[] #[.pointer (some ⟨gb, 0, none⟩)]), (.func (.func 82) #[] #[.pointer (some ⟨gb, 0, none⟩)]), (.func (.func 84) #[] #[.pointer (some ⟨gb, 0, none⟩)])]) (e := 123) (n := 3) ?hr ?_; (case hd => rfl); (case hg => rfl); (case hr => first | (go_simp; done) | (go_simp; rfl)); intro gf hgf w2 BK2 hb2; have HO := Aside0.mk (show OC w w2 gb (objCell a0_0 A0_1 l0_1.length c0_1 a0_2 A0_3 l0_3.length c0_3 A0_4 l0_4.length c0_4 A0_5 l0_5.length c0_5) gf from ⟨below_then HB.out HB.out.size hb2, blk_below BO.out hb2, BK2, GB.out, by rw [hgf]; exact HB.out.size⟩); clear HB BO BK2 hb2 hgf GB; have hf0 := blk_cell HO.out.fs 0; have hf1 := blk_cell HO.out.fs 1; have hf2 := blk_cell HO.out.fs 2))
   refine wp_loop_rounds 4 ?_
   rw [rounds_succ]
   go_wp2_with (first | (go_at_call 80; refine (chk1.calls a0_0 A0_1 c0_1 l0_1 a0_2 A0_3 c0_3 l0_3 A0_4 c0_4 l0_4 A0_5 c0_5 l0_5 gb _ _ _ (Kd.C_below HR1.out HO.out.low) HC1.out (Kd.C_below HR3.out HO.out.low) HC3.out (Kd.C_below HR4.out HO.out.low) HC4.out (Kd.C_below HR5.out HO.out.low) HC5.out HO.out.obj H1.out).mono ?_; rintro e w3 ⟨rfl, hb⟩; replace HO := Aside0.mk (HO.out.below hb); clear hb; have hf0 := blk_cell HO.out.fs 0; have hf1 := blk_cell HO.out.fs 1; have hf2 := blk_cell HO.out.fs 2) | ((with_reducible refine gate_dst (N := 7) rfl ?_); refine box_event ?hg (N := 7) ?hd (cs := #[.int .i64 0, .int .i64 0]) (t := 121) ?hr ?_; (case hd => rfl); (case hg => rfl); (case hr => first | (go_simp; done) | (go_simp; rfl)); intro gs hgs w5 BK5 hb5; have LF := Aside0.mk (show gf < gs by rw [hgs]; exact blk_lt HO.out.fs); have LG := Aside0.mk (show gb < gs by rw [hgs]; exact blk_lt HO.out.obj); replace HO := Aside0.mk (HO.out.below hb5); have BS := Aside0.mk BK5; clear BK5 hb5 hgs; have hf0 := blk_cell HO.out.fs 0; have hf1 := blk_cell HO.out.fs 1; have hf2 := blk_cell HO.out.fs 2) | ((with_reducible refine gate_store (t := 121) rfl ?_); refine wpList_store_whole rfl rfl rfl gs _ #[.int .i64 s1, .int .i64 n1] _ rfl rfl BS.out (by kernel_rfl) rfl (two_one _ _) ?_; intro w6 hp; replace HO := Aside0.mk (HO.out.grown (put_grownN hp) (by have := LG.out; have := HO.out.g1; omega) (by have := LG.out; omega) (by have := LF.out; omega)); have BSn := Aside0.mk hp.blk; clear BS hp LF LG; have hs0 := blk_cell BSn.out 0; have hs1 := blk_cell BSn.out 1; clear BSn; have hf0 := blk_cell HO.out.fs 0; have hf1 := blk_cell HO.out.fs 1; have hf2 := blk_cell HO.out.fs 2))
   repeat (go_quiet (fail); try go_wp2)
   go_ret2
   exact ⟨rfl, by first | exact HO.out.low | exact pw_below_drewN HO.out.low _⟩
 ·
  rw [if_neg hw] at h; cases h
end Go.Proofs.YtiaohbbafaaibabGreatDoor.P

/- OWN TEXT: what wire's reader calls for each part, walked. -/
namespace Go.Proofs.YtiaohbbafaaibabGreatDoor.P
open Go.RowKit Go.Maps Go.Proofs.YtiaohbbafaaibabGreatDoorW.PrintWords Go.Proofs.YtiaohbbafaaibabGreatDoorW.PrintLast Go.Proofs.YtiaohbbafaaibabGreatDoorW.PrintMore Go.Proofs.YtiaohbbafaaibabGreatDoor.Arr Go.Proofs.YtiaohbbafaaibabGreatDoor.MapB
set_option linter.unusedVariables false
set_option linter.unusedSimpArgs false
structure RO where
  nm : ByteArray
  code : List Int
  dat : Int
  data : List Int
  syms : List Sym
  rels : List Rel
  rs : RS
structure OB4 (W : World) (base g : Nat) (a : RO) (v1 v3 v4 v5 : Value) : Prop where
  blk : W.heap[g]? = some (.cells #[.string a.nm, v1, .int .i64 a.dat, v3, v4, v5] 27 (0, 0))
  r1 : Kd.R (Kd.int .u32) 78 W base (fun _ => True) v1 a.code
  r3 : Kd.R (Kd.int .i64) 2 W base (fun _ => True) v3 a.data
  r4 : Kd.R k65 65 W base (fun _ => True) v4 a.syms
  r5 : Kd.R k82 82 W base (fun _ => True) v5 a.rels
def zObj : Array Value := #[.string ⟨#[]⟩, .slice none 0 0, .int .i64 0, .slice none 0 0, .slice none 0 0, .slice none 0 0]
structure RdO (w0 W : World) (r p g q : Nat) (A : Option Addr) (c : Nat) (l : List Int) (a : RO) : Prop where
  rd : Rd w0 W r A c l a.rs
  ptr : W.heap[p]? = some (.cells #[.pointer (some ⟨r, 0, none⟩)] 93 (0, 0))
  res : W.heap[q]? = some (.cells zObj 27 (0, 0)) ∧ q ≠ g
  obj : ∃ v1 v3 v4 v5, OB4 W w0.heap.size g a v1 v3 v4 v5
  gb : w0.heap.size ≤ g
theorem ne_types {W : World} {p q : Nat} {cs ds : Array Value} {e f : TypeId} {x y : Nat × Nat} (h : W.heap[p]? = some (.cells cs e x)) (k : W.heap[q]? = some (.cells ds f y)) (hne : e ≠ f) : p ≠ q := fun z => by
 subst z
 rw [h] at k
 injection k with k
 injection k with _ k _
 exact hne k
theorem OB4.grown {W W1 : World} {base g r : Nat} {a : RO} {v1 v3 v4 v5 : Value} {cs : Array Value} {s : RS} (h : OB4 W base g a v1 v3 v4 v5) (hb : W.heap[r]? = some (.cells cs 97 (0, 0))) (k : W.grownBy W1 (some r)) : OB4 W1 base g { a with rs := s } v1 v3 v4 v5 :=
 ⟨(k.block g (blk_lt h.blk) (fun z => ne_types h.blk hb (by decide) (Option.some.inj z))).trans h.blk, Kd.R_grown1 h.r1 rfl k (Kd.R_ne h.r1 hb (by decide)), Kd.R_grown1 h.r3 rfl k (Kd.R_ne h.r3 hb (by decide)), Kd.R_grown1 h.r4 rfl k (Kd.R_ne h.r4 hb (by decide)), Kd.R_grown1 h.r5 rfl k (Kd.R_ne h.r5 hb (by decide))⟩
theorem OB4.below {W W1 : World} {base g : Nat} {a : RO} {v1 v3 v4 v5 : Value} (h : OB4 W base g a v1 v3 v4 v5) (k : Below W.heap.size W W1) : OB4 W1 base g a v1 v3 v4 v5 :=
 ⟨blk_below h.blk k, Kd.R_below h.r1 k, Kd.R_below h.r3 k, Kd.R_below h.r4 k, Kd.R_below h.r5 k⟩
theorem RdO.below {w0 W W1 : World} {r p g q : Nat} {A : Option Addr} {c : Nat} {l : List Int} {a : RO} (h : RdO w0 W r p g q A c l a) (k : Below W.heap.size W W1) : RdO w0 W1 r p g q A c l a := by
 obtain ⟨v1, v3, v4, v5, ho⟩ := h.obj
 exact ⟨h.rd.below k, blk_below h.ptr k, ⟨blk_below h.res.1 k, h.res.2⟩, ⟨v1, v3, v4, v5, ho.below k⟩, h.gb⟩
theorem RdO.step {w0 W W1 : World} {r p g q : Nat} {A : Option Addr} {c : Nat} {l : List Int} {a : RO} {s : RS} (h : RdO w0 W r p g q A c l a) (hr : Rd w0 W1 r A c l s) (k : W.grownBy W1 (some r)) : RdO w0 W1 r p g q A c l { a with rs := s } := by
 obtain ⟨v, hb, _⟩ := h.rd.blk
 obtain ⟨v1, v3, v4, v5, ho⟩ := h.obj
 exact ⟨hr, (k.block p (blk_lt h.ptr) (fun z => ne_types h.ptr hb (by decide) (Option.some.inj z))).trans h.ptr, ⟨(k.block q (blk_lt h.res.1) (fun z => ne_types h.res.1 hb (by decide) (Option.some.inj z))).trans h.res.1, h.res.2⟩, ⟨v1, v3, v4, v5, ho.grown hb k⟩, h.gb⟩
theorem Rd.row {α : Type} {d : Kd α} {e : TypeId} {w0 W W1 : World} {r : Nat} {A : Option Addr} {c : Nat} {l : List Int} {s : RS} {v : Value} {xs : List α} {base : Nat} {ok : Nat → Prop} (h : Rd w0 W r A c l s) (hR : d.R e W base ok v xs) (h1 : e ≠ 97) (h2 : e ≠ 107) (low : Below w0.heap.size w0 W1) (k : W.grownBy W1 v.ownBlock) : Rd w0 W1 r A c l s := by
 obtain ⟨u, hr, he⟩ := h.blk
 refine ⟨low, ⟨u, (k.block r (blk_lt hr) (Kd.R_ne hR hr h1)).trans hr, ?_⟩, h.base, h.at0, h.at1, h.at2⟩
 cases hs : s.er with
 | none => rw [hs] at he; exact he
 | some p =>
  rw [hs] at he
  obtain ⟨q, e1, e2, e3⟩ := he
  exact ⟨q, e1, e2, (k.block q (blk_lt e3) (Kd.R_ne hR e3 h2)).trans e3⟩
theorem info_u32 : (Tryz.prog.info? 78).map (fun i => (i.zero, i.size, i.bytes)) = some (some (.int .u32 0), 1, 4) := by kernel_rfl
theorem info_i64 : (Tryz.prog.info? 2).map (fun i => (i.zero, i.size, i.bytes)) = some (some (.int .i64 0), 1, 8) := by kernel_rfl
theorem RdO.app1 {w0 W W1 : World} {r p g q : Nat} {A : Option Addr} {c : Nat} {l : List Int} {a : RO} {v1 v3 v4 v5 u : Value} {x : Int} (h : RdO w0 W r p g q A c l a) (ho : OB4 W w0.heap.size g a v1 v3 v4 v5) (hu : Kd.R (Kd.int .u32) 78 W1 w0.heap.size (fun _ => True) u (a.code ++ [x])) (low : Below w0.heap.size w0 W1) (k : W.grownBy W1 v1.ownBlock) :
    W1.heap[g]? = some (.cells #[.string a.nm, v1, .int .i64 a.dat, v3, v4, v5] 27 (0, 0)) ∧ RdO w0 (W1.setCell ⟨g, 1, none⟩ u) r p g q A c l { a with code := a.code ++ [x] } := by
  have hb : W1.heap[g]? = some (.cells #[.string a.nm, v1, .int .i64 a.dat, v3, v4, v5] 27 (0, 0)) := (k.block g (blk_lt ho.blk) (Kd.R_ne ho.r1 ho.blk (by decide))).trans ho.blk
  have hp := put_set (j := 1) (x := u) hb
  have hrd := h.rd.row ho.r1 (by decide) (by decide) low k
  have hpt : W1.heap[p]? = _ := (k.block p (blk_lt h.ptr) (Kd.R_ne ho.r1 h.ptr (by decide))).trans h.ptr
  have hq : W1.heap[q]? = _ := (k.block q (blk_lt h.res.1) (Kd.R_ne ho.r1 h.res.1 (by decide))).trans h.res.1
  have t1 := Kd.R_typed ho.r1
  have k3 := Kd.R_over' ho.r3 t1 (by decide) k
  have k4 := Kd.R_over' ho.r4 t1 (by decide) k
  have k5 := Kd.R_over' ho.r5 t1 (by decide) k
  have G := put_grownN hp
  exact ⟨hb, hrd.other hb (by decide) (by decide) h.gb G, (G.block p (blk_lt hpt) (fun z => ne_types hpt hb (by decide) (Option.some.inj z))).trans hpt, ⟨(G.block q (blk_lt hq) (fun z => h.res.2 (Option.some.inj z))).trans hq, h.res.2⟩, ⟨u, v3, v4, v5, hp.blk, Kd.R_grown1 hu rfl G (Kd.R_ne hu hb (by decide)), Kd.R_grown1 k3 rfl G (Kd.R_ne k3 hb (by decide)), Kd.R_grown1 k4 rfl G (Kd.R_ne k4 hb (by decide)), Kd.R_grown1 k5 rfl G (Kd.R_ne k5 hb (by decide))⟩, h.gb⟩
theorem RdO.app3 {w0 W W1 : World} {r p g q : Nat} {A : Option Addr} {c : Nat} {l : List Int} {a : RO} {v1 v3 v4 v5 u : Value} {x : Int} (h : RdO w0 W r p g q A c l a) (ho : OB4 W w0.heap.size g a v1 v3 v4 v5) (hu : Kd.R (Kd.int .i64) 2 W1 w0.heap.size (fun _ => True) u (a.data ++ [x])) (low : Below w0.heap.size w0 W1) (k : W.grownBy W1 v3.ownBlock) :
    W1.heap[g]? = some (.cells #[.string a.nm, v1, .int .i64 a.dat, v3, v4, v5] 27 (0, 0)) ∧ RdO w0 (W1.setCell ⟨g, 3, none⟩ u) r p g q A c l { a with data := a.data ++ [x] } := by
  have hb : W1.heap[g]? = some (.cells #[.string a.nm, v1, .int .i64 a.dat, v3, v4, v5] 27 (0, 0)) := (k.block g (blk_lt ho.blk) (Kd.R_ne ho.r3 ho.blk (by decide))).trans ho.blk
  have hp := put_set (j := 3) (x := u) hb
  have hrd := h.rd.row ho.r3 (by decide) (by decide) low k
  have hpt : W1.heap[p]? = _ := (k.block p (blk_lt h.ptr) (Kd.R_ne ho.r3 h.ptr (by decide))).trans h.ptr
  have hq : W1.heap[q]? = _ := (k.block q (blk_lt h.res.1) (Kd.R_ne ho.r3 h.res.1 (by decide))).trans h.res.1
  have t1 := Kd.R_typed ho.r3
  have k1 := Kd.R_over' ho.r1 t1 (by decide) k
  have k4 := Kd.R_over' ho.r4 t1 (by decide) k
  have k5 := Kd.R_over' ho.r5 t1 (by decide) k
  have G := put_grownN hp
  exact ⟨hb, hrd.other hb (by decide) (by decide) h.gb G, (G.block p (blk_lt hpt) (fun z => ne_types hpt hb (by decide) (Option.some.inj z))).trans hpt, ⟨(G.block q (blk_lt hq) (fun z => h.res.2 (Option.some.inj z))).trans hq, h.res.2⟩, ⟨v1, u, v4, v5, hp.blk, Kd.R_grown1 k1 rfl G (Kd.R_ne k1 hb (by decide)), Kd.R_grown1 hu rfl G (Kd.R_ne hu hb (by decide)), Kd.R_grown1 k4 rfl G (Kd.R_ne k4 hb (by decide)), Kd.R_grown1 k5 rfl G (Kd.R_ne k5 hb (by decide))⟩, h.gb⟩
set_option maxHeartbeats 8000000 in
set_option maxRecDepth 100000 in
theorem read1.calls (w0 W : World) (r p g q : Nat) (A : Option Addr) (c : Nat) (l : List Int) (a : RO) (h : RdO w0 W r p g q A c l a) (hC : Kd.C (Kd.int .u8) w0 A l.length l) (hcc : l.length ≤ c) (hl : l.length ≤ 1099511627776) (hby : ∀ x ∈ l, 0 ≤ x ∧ x < 256) (hn : a.code.length ≤ 16384) :
  Calls Tryz.prog 61 #[.pointer (some ⟨g, 0, none⟩), .pointer (some ⟨p, 0, none⟩)] W fun e w' => e = .returned (.tuple #[]) ∧ RdO w0 w' r p g q A c l { a with code := a.code ++ [(numR l 4 a.rs).1], rs := (numR l 4 a.rs).2 } := by
 have hu1 := Tryz.underlying27
 have H := Aside0.mk (h.below (below_drew (Below.refl _ _)))
 have HC := Aside0.mk hC
 have HCC := Aside0.mk hcc
 have HL := Aside0.mk hl
 have HBY := Aside0.mk hby
 have HN := Aside0.mk hn
 obtain ⟨v1, v3, v4, v5, ho⟩ := h.obj
 have HO := Aside0.mk (ho.below (below_drew (Below.refl _ _)))
 have hc1 : W.drew.cell? ⟨g, 1, none⟩ = some v1 := (blk_cell HO.out.blk 1).trans rfl
 have hcp : W.drew.cell? ⟨p, 0, none⟩ = some (.pointer (some ⟨r, 0, none⟩)) := (blk_cell H.out.ptr 0).trans rfl
 clear h hC hcc hl hby ho hn
 go_enter Tryz.func61, Tryz.ntmps61
 refine start_ (n := 8) (S := fun w' => w'.cell? ⟨g, 1, none⟩ = some v1 ∧ w'.cell? ⟨p, 0, none⟩ = some (.pointer (some ⟨r, 0, none⟩))) (ds := [7]) #[false, false, false, false, false, false, false, false] (by kernel_rfl) rfl rfl ⟨hc1, hcp⟩ (fun hHeld => ?_)
 generalize W.drew = wd at H HO hc1 hcp hHeld ⊢
 refine pure_ (i := 0) (N := some 2) (v := ?_) (a' := ?_) #[true, false, false, false, false, false, false, false] rfl rfl (by kernel_rfl) (fun _ _ _ h => h) (Or.inl ⟨by rfl, ?_⟩) ?_ ?_
 rotate_left
 ·
  intro w'
  go_simp
  with_reducible rfl
 rotate_left
 ·
  simp only [Act.put, List.setIfInBounds_toArray, List.set_cons_zero, List.set_cons_succ, i64_w, i32_w]
  rfl
 refine take_ (i := 1) (N := some 3) (v := ?_) (a' := ?_) #[true, true, false, false, false, false, false, false] rfl rfl (by kernel_rfl) (fun _ _ _ h => h) (Or.inl ⟨by rfl, ?_⟩) hHeld ?_ ?_
 rotate_left
 ·
  rintro w' ⟨s0, s1⟩
  go_simp
  with_reducible rfl
 rotate_left
 ·
  simp only [Act.put, List.setIfInBounds_toArray, List.set_cons_zero, List.set_cons_succ, i64_w, i32_w]
  rfl
 refine take_ (i := 2) (N := some 4) (v := ?_) (a' := ?_) #[true, true, true, false, false, false, false, false] rfl rfl (by kernel_rfl) (fun _ _ _ h => h) (Or.inl ⟨by rfl, ?_⟩) hHeld ?_ ?_
 rotate_left
 ·
  rintro w' ⟨s0, s1⟩
  go_simp
  with_reducible rfl
 rotate_left
 ·
  simp only [Act.put, List.setIfInBounds_toArray, List.set_cons_zero, List.set_cons_succ, i64_w, i32_w]
  rfl
 refine one_ (i := 3) (N := some 5) #[true, true, true, true, false, false, false, false] rfl rfl (by kernel_rfl) (by decide) (fun K hK => ?_)
 refine call_ 62 #[.pointer (some ⟨r, 0, none⟩), .int .i64 4] rfl rfl (by first | rfl | (go_simp; done) | (go_simp; rfl)) ?_
 refine (num32.calls w0 _ r A c l a.rs H.out.rd HC.out HCC.out HL.out HBY.out).mono ?_
 rintro e_ w1 ⟨rfl, hr_, hg_⟩
 refine ⟨_, rfl, ?_⟩
 obtain ⟨v, hbr, _⟩ := H.out.rd.blk
 have H1 := Aside0.mk (H.out.step hr_ hg_)
 have HO1 := Aside0.mk (HO.out.grown (s := (numR l 4 a.rs).2) hbr hg_)
 have hd1 : w1.cell? ⟨g, 1, none⟩ = some v1 := (blk_cell HO1.out.blk 1).trans rfl
 have hdp : w1.cell? ⟨p, 0, none⟩ = some (.pointer (some ⟨r, 0, none⟩)) := (blk_cell H1.out.ptr 0).trans rfl
 refine hK.out _ _ ⟨hd1, hdp⟩ (fun hHeld => ?_)
 clear hr_ hg_ hbr H HO hc1 hcp
 clear hK K
 refine norm_ (a' := ?_) ?_ ?_
 rotate_left
 ·
  show Act.put _ (some 5) _ = _
  simp only [Act.put, List.setIfInBounds_toArray, List.set_cons_zero, List.set_cons_succ, i64_w, i32_w]
  rfl
 refine one_ (i := 4) (N := some 6) #[true, true, true, true, true, false, false, false] rfl rfl (by kernel_rfl) (by decide) (fun K hK => ?_)
 refine value_ (w1 := ?_) (v := ?_) (by rfl) rfl ?_ ?_
 rotate_left 2
 ·
  go_simp
  constructor
  ·
   rfl
  ·
   rfl
 refine hK.out _ _ ⟨(World.cell?_alloc_lt _ _ _ (World.block_lt_of_cell? _ _ hd1)).trans hd1, (World.cell?_alloc_lt _ _ _ (World.block_lt_of_cell? _ _ hdp)).trans hdp⟩ (fun hHeld => ?_)
 clear hK K
 refine norm_ (a' := ?_) ?_ ?_
 rotate_left
 ·
  show Act.put _ (some 6) _ = _
  simp only [Act.put, List.setIfInBounds_toArray, List.set_cons_zero, List.set_cons_succ, i64_w, i32_w]
  rfl
 refine one_ (i := 5) (N := some 7) #[true, true, true, true, true, true, false, false] rfl rfl (by kernel_rfl) (by decide) (fun K hK => ?_)
 refine Kd.R_append_step (Kd.int .u32) (w0 := w0) w0.heap.size rfl (.tmp 3) (.tmp 6) 22 78 (.int .u32 0) 4 rfl Tryz.underlying22 info_u32 rfl (by decide) (by decide) v1 a.code ((numR l 4 a.rs).1) [(.int .u32 ((numR l 4 a.rs).1))] (fun _ => True) (fun _ => False) rfl rfl rfl (fun _ hk => hk.elim) (fun _ _ => trivial) HO1.out.r1 H1.out.rd.low H1.out.rd.low.size (by have := HN.out; omega) ?_
 intro u w2 hu2 hlow hgr _
 obtain ⟨Ao, co, eo⟩ := Kd.R_slice hu2
 obtain ⟨nn, hnn⟩ : ∃ nn, nn = (a.code ++ [(numR l 4 a.rs).1]).length := ⟨_, rfl⟩
 rw [← hnn] at eo
 subst eo
 have hx := RdO.app1 H1.out HO1.out hu2 hlow hgr
 have HX := Aside0.mk hx.2
 have hz1 : w2.cell? ⟨g, 1, none⟩ = some v1 := (blk_cell hx.1 1).trans rfl
 have hzf := blk_frozen hx.1 1
 have hpt2 : w2.heap[p]? = _ := (hgr.block p (blk_lt H1.out.ptr) (Kd.R_ne HO1.out.r1 H1.out.ptr (by decide))).trans H1.out.ptr
 have hzp : w2.cell? ⟨p, 0, none⟩ = some (.pointer (some ⟨r, 0, none⟩)) := (blk_cell hpt2 0).trans rfl
 refine hK.out _ _ ⟨hz1, hzp⟩ (fun hHeld => ?_)
 clear hlow hgr hx hd1 hdp hpt2 hu2 hnn
 clear hK K
 refine norm_ (a' := ?_) ?_ ?_
 rotate_left
 ·
  show Act.put _ (some 7) _ = _
  simp only [Act.put, List.setIfInBounds_toArray, List.set_cons_zero, List.set_cons_succ, i64_w, i32_w]
  rfl
 refine pure_ (i := 6) (N := some 8) (v := ?_) (a' := ?_) #[true, true, true, true, true, true, true, false] rfl rfl (by kernel_rfl) (fun _ _ _ h => h) (Or.inl ⟨by rfl, ?_⟩) ?_ ?_
 rotate_left
 ·
  intro w'
  go_simp
  with_reducible rfl
 rotate_left
 ·
  simp only [Act.put, List.setIfInBounds_toArray, List.set_cons_zero, List.set_cons_succ, i64_w, i32_w]
  rfl
 refine last_ (i := 7) (N := none) #[true, true, true, true, true, true, true, true] rfl rfl (by kernel_rfl) (by decide) (fun K hK => ?_)
 refine skip_ (w1 := ?_) (by rfl) rfl ?_ ?_
 rotate_left
 ·
  go_simp
  rfl
 refine hK.out _ _ ?_
 clear hK K
 refine done_ (by kernel_rfl) ?_
 refine Go.Great.bodyPost_end0 rfl rfl ?_
 exact ⟨rfl, HX.out⟩
set_option maxHeartbeats 8000000 in
set_option maxRecDepth 100000 in
theorem read2.calls (w0 W : World) (r p g q : Nat) (A : Option Addr) (c : Nat) (l : List Int) (a : RO) (h : RdO w0 W r p g q A c l a) (hC : Kd.C (Kd.int .u8) w0 A l.length l) (hcc : l.length ≤ c) (hl : l.length ≤ 1099511627776) (hby : ∀ x ∈ l, 0 ≤ x ∧ x < 256) (hn : a.data.length ≤ 16384) :
  Calls Tryz.prog 63 #[.pointer (some ⟨g, 0, none⟩), .pointer (some ⟨p, 0, none⟩)] W fun e w' => e = .returned (.tuple #[]) ∧ RdO w0 w' r p g q A c l { a with data := a.data ++ [wrap64 (numR l 8 a.rs).1], rs := (numR l 8 a.rs).2 } := by
 have hu1 := Tryz.underlying27
 have H := Aside0.mk (h.below (below_drew (Below.refl _ _)))
 have HC := Aside0.mk hC
 have HCC := Aside0.mk hcc
 have HL := Aside0.mk hl
 have HBY := Aside0.mk hby
 have HN := Aside0.mk hn
 obtain ⟨v1, v3, v4, v5, ho⟩ := h.obj
 have HO := Aside0.mk (ho.below (below_drew (Below.refl _ _)))
 have hc1 : W.drew.cell? ⟨g, 3, none⟩ = some v3 := (blk_cell HO.out.blk 3).trans rfl
 have hcp : W.drew.cell? ⟨p, 0, none⟩ = some (.pointer (some ⟨r, 0, none⟩)) := (blk_cell H.out.ptr 0).trans rfl
 clear h hC hcc hl hby ho hn
 go_enter Tryz.func63, Tryz.ntmps63
 refine start_ (n := 8) (S := fun w' => w'.cell? ⟨g, 3, none⟩ = some v3 ∧ w'.cell? ⟨p, 0, none⟩ = some (.pointer (some ⟨r, 0, none⟩))) (ds := [7]) #[false, false, false, false, false, false, false, false] (by kernel_rfl) rfl rfl ⟨hc1, hcp⟩ (fun hHeld => ?_)
 generalize W.drew = wd at H HO hc1 hcp hHeld ⊢
 refine pure_ (i := 0) (N := some 2) (v := ?_) (a' := ?_) #[true, false, false, false, false, false, false, false] rfl rfl (by kernel_rfl) (fun _ _ _ h => h) (Or.inl ⟨by rfl, ?_⟩) ?_ ?_
 rotate_left
 ·
  intro w'
  go_simp
  with_reducible rfl
 rotate_left
 ·
  simp only [Act.put, List.setIfInBounds_toArray, List.set_cons_zero, List.set_cons_succ, i64_w, i32_w]
  rfl
 refine take_ (i := 1) (N := some 3) (v := ?_) (a' := ?_) #[true, true, false, false, false, false, false, false] rfl rfl (by kernel_rfl) (fun _ _ _ h => h) (Or.inl ⟨by rfl, ?_⟩) hHeld ?_ ?_
 rotate_left
 ·
  rintro w' ⟨s0, s1⟩
  go_simp
  with_reducible rfl
 rotate_left
 ·
  simp only [Act.put, List.setIfInBounds_toArray, List.set_cons_zero, List.set_cons_succ, i64_w, i32_w]
  rfl
 refine take_ (i := 2) (N := some 4) (v := ?_) (a' := ?_) #[true, true, true, false, false, false, false, false] rfl rfl (by kernel_rfl) (fun _ _ _ h => h) (Or.inl ⟨by rfl, ?_⟩) hHeld ?_ ?_
 rotate_left
 ·
  rintro w' ⟨s0, s1⟩
  go_simp
  with_reducible rfl
 rotate_left
 ·
  simp only [Act.put, List.setIfInBounds_toArray, List.set_cons_zero, List.set_cons_succ, i64_w, i32_w]
  rfl
 refine one_ (i := 3) (N := some 5) #[true, true, true, true, false, false, false, false] rfl rfl (by kernel_rfl) (by decide) (fun K hK => ?_)
 refine call_ 64 #[.pointer (some ⟨r, 0, none⟩), .int .i64 8] rfl rfl (by first | rfl | (go_simp; done) | (go_simp; rfl)) ?_
 refine (num64.calls w0 _ r A c l a.rs H.out.rd HC.out HCC.out HL.out HBY.out).mono ?_
 rintro e_ w1 ⟨rfl, hr_, hg_⟩
 refine ⟨_, rfl, ?_⟩
 obtain ⟨v, hbr, _⟩ := H.out.rd.blk
 have H1 := Aside0.mk (H.out.step hr_ hg_)
 have HO1 := Aside0.mk (HO.out.grown (s := (numR l 8 a.rs).2) hbr hg_)
 have hd1 : w1.cell? ⟨g, 3, none⟩ = some v3 := (blk_cell HO1.out.blk 3).trans rfl
 have hdp : w1.cell? ⟨p, 0, none⟩ = some (.pointer (some ⟨r, 0, none⟩)) := (blk_cell H1.out.ptr 0).trans rfl
 refine hK.out _ _ ⟨hd1, hdp⟩ (fun hHeld => ?_)
 clear hr_ hg_ hbr H HO hc1 hcp
 clear hK K
 refine norm_ (a' := ?_) ?_ ?_
 rotate_left
 ·
  show Act.put _ (some 5) _ = _
  simp only [Act.put, List.setIfInBounds_toArray, List.set_cons_zero, List.set_cons_succ, i64_w, i32_w]
  rfl
 refine one_ (i := 4) (N := some 6) #[true, true, true, true, true, false, false, false] rfl rfl (by kernel_rfl) (by decide) (fun K hK => ?_)
 refine value_ (w1 := ?_) (v := ?_) (by rfl) rfl ?_ ?_
 rotate_left 2
 ·
  go_simp
  constructor
  ·
   rfl
  ·
   rfl
 refine hK.out _ _ ⟨(World.cell?_alloc_lt _ _ _ (World.block_lt_of_cell? _ _ hd1)).trans hd1, (World.cell?_alloc_lt _ _ _ (World.block_lt_of_cell? _ _ hdp)).trans hdp⟩ (fun hHeld => ?_)
 clear hK K
 refine norm_ (a' := ?_) ?_ ?_
 rotate_left
 ·
  show Act.put _ (some 6) _ = _
  simp only [Act.put, List.setIfInBounds_toArray, List.set_cons_zero, List.set_cons_succ, i64_w, i32_w]
  rfl
 refine one_ (i := 5) (N := some 7) #[true, true, true, true, true, true, false, false] rfl rfl (by kernel_rfl) (by decide) (fun K hK => ?_)
 refine Kd.R_append_step (Kd.int .i64) (w0 := w0) w0.heap.size rfl (.tmp 3) (.tmp 6) 23 2 (.int .i64 0) 8 rfl Tryz.underlying23 info_i64 rfl (by decide) (by decide) v3 a.data (wrap64 (numR l 8 a.rs).1) [(.int .i64 (wrap64 (numR l 8 a.rs).1))] (fun _ => True) (fun _ => False) rfl rfl rfl (fun _ hk => hk.elim) (fun _ _ => trivial) HO1.out.r3 H1.out.rd.low H1.out.rd.low.size (by have := HN.out; omega) ?_
 intro u w2 hu2 hlow hgr _
 obtain ⟨Ao, co, eo⟩ := Kd.R_slice hu2
 obtain ⟨nn, hnn⟩ : ∃ nn, nn = (a.data ++ [wrap64 (numR l 8 a.rs).1]).length := ⟨_, rfl⟩
 rw [← hnn] at eo
 subst eo
 have hx := RdO.app3 H1.out HO1.out hu2 hlow hgr
 have HX := Aside0.mk hx.2
 have hz1 : w2.cell? ⟨g, 3, none⟩ = some v3 := (blk_cell hx.1 3).trans rfl
 have hzf := blk_frozen hx.1 3
 have hpt2 : w2.heap[p]? = _ := (hgr.block p (blk_lt H1.out.ptr) (Kd.R_ne HO1.out.r3 H1.out.ptr (by decide))).trans H1.out.ptr
 have hzp : w2.cell? ⟨p, 0, none⟩ = some (.pointer (some ⟨r, 0, none⟩)) := (blk_cell hpt2 0).trans rfl
 refine hK.out _ _ ⟨hz1, hzp⟩ (fun hHeld => ?_)
 clear hlow hgr hx hd1 hdp hpt2 hu2 hnn
 clear hK K
 refine norm_ (a' := ?_) ?_ ?_
 rotate_left
 ·
  show Act.put _ (some 7) _ = _
  simp only [Act.put, List.setIfInBounds_toArray, List.set_cons_zero, List.set_cons_succ, i64_w, i32_w]
  rfl
 refine pure_ (i := 6) (N := some 8) (v := ?_) (a' := ?_) #[true, true, true, true, true, true, true, false] rfl rfl (by kernel_rfl) (fun _ _ _ h => h) (Or.inl ⟨by rfl, ?_⟩) ?_ ?_
 rotate_left
 ·
  intro w'
  go_simp
  with_reducible rfl
 rotate_left
 ·
  simp only [Act.put, List.setIfInBounds_toArray, List.set_cons_zero, List.set_cons_succ, i64_w, i32_w]
  rfl
 refine last_ (i := 7) (N := none) #[true, true, true, true, true, true, true, true] rfl rfl (by kernel_rfl) (by decide) (fun K hK => ?_)
 refine skip_ (w1 := ?_) (by rfl) rfl ?_ ?_
 rotate_left
 ·
  go_simp
  rfl
 refine hK.out _ _ ?_
 clear hK K
 refine done_ (by kernel_rfl) ?_
 refine Go.Great.bodyPost_end0 rfl rfl ?_
 exact ⟨rfl, HX.out⟩
end Go.Proofs.YtiaohbbafaaibabGreatDoor.P

/- OWN TEXT: what wire's reader calls for a symbol and for a relocation, walked. -/
namespace Go.Proofs.YtiaohbbafaaibabGreatDoor.P
open Go.RowKit Go.Maps Go.Proofs.YtiaohbbafaaibabGreatDoorW.PrintWords Go.Proofs.YtiaohbbafaaibabGreatDoorW.PrintLast Go.Proofs.YtiaohbbafaaibabGreatDoorW.PrintMore Go.Proofs.YtiaohbbafaaibabGreatDoor.Arr Go.Proofs.YtiaohbbafaaibabGreatDoor.MapB
set_option linter.unusedVariables false
set_option linter.unusedSimpArgs false
theorem i8_small {x : Int} (h0 : 0 ≤ x) (h1 : x ≤ 3) : IntKind.i8.wrap x = x := by simp [IntKind.wrap, IntKind.signed, IntKind.bits]; omega
theorem RdO.tmp {w0 W W1 : World} {r p g q k : Nat} {A : Option Addr} {c : Nat} {l : List Int} {a : RO} {v1 v3 v4 v5 : Value} {cs : Array Value} {e : TypeId} (h : RdO w0 W r p g q A c l a) (ho : OB4 W w0.heap.size g a v1 v3 v4 v5) (hb : W.heap[k]? = some (.cells cs e (0, 0)))
  (hne : e ≠ 97 ∧ e ≠ 107 ∧ e ≠ 93 ∧ e ≠ 27 ∧ 78 ≠ e ∧ 2 ≠ e) (h4 : some k ≠ v4.ownBlock) (h5 : some k ≠ v5.ownBlock) (hw : w0.heap.size ≤ k) (G : W.grownBy W1 (some k)) : RdO w0 W1 r p g q A c l a ∧ OB4 W1 w0.heap.size g a v1 v3 v4 v5 := by
 have hO : OB4 W1 w0.heap.size g a v1 v3 v4 v5 := ⟨(G.block g (blk_lt ho.blk) (fun z => ne_types hb ho.blk hne.2.2.2.1 (Option.some.inj z).symm)).trans ho.blk, Kd.R_grown1 ho.r1 rfl G (Kd.R_ne ho.r1 hb hne.2.2.2.2.1), Kd.R_grown1 ho.r3 rfl G (Kd.R_ne ho.r3 hb hne.2.2.2.2.2), Kd.R_grown1 ho.r4 rfl G h4, Kd.R_grown1 ho.r5 rfl G h5⟩
 exact ⟨⟨h.rd.other hb hne.1 hne.2.1 hw G, (G.block p (blk_lt h.ptr) (fun z => ne_types hb h.ptr hne.2.2.1 (Option.some.inj z).symm)).trans h.ptr, ⟨(G.block q (blk_lt h.res.1) (fun z => ne_types hb h.res.1 hne.2.2.2.1 (Option.some.inj z).symm)).trans h.res.1, h.res.2⟩, ⟨v1, v3, v4, v5, hO⟩, h.gb⟩, hO⟩

theorem RdO.app4 {w0 W W1 : World} {r p g q : Nat} {A : Option Addr} {c : Nat} {l : List Int} {a : RO} {v1 v3 v4 v5 u : Value} {x : Sym} (h : RdO w0 W r p g q A c l a) (ho : OB4 W w0.heap.size g a v1 v3 v4 v5) (hu : Kd.R k65 65 W1 w0.heap.size (fun _ => True) u (a.syms ++ [x])) (low : Below w0.heap.size w0 W1) (k : W.grownBy W1 v4.ownBlock) :
    W1.heap[g]? = some (.cells #[.string a.nm, v1, .int .i64 a.dat, v3, v4, v5] 27 (0, 0)) ∧ RdO w0 (W1.setCell ⟨g, 4, none⟩ u) r p g q A c l { a with syms := a.syms ++ [x] } := by
  have hb : W1.heap[g]? = some (.cells #[.string a.nm, v1, .int .i64 a.dat, v3, v4, v5] 27 (0, 0)) := (k.block g (blk_lt ho.blk) (Kd.R_ne ho.r4 ho.blk (by decide))).trans ho.blk
  have hp := put_set (j := 4) (x := u) hb
  have hrd := h.rd.row ho.r4 (by decide) (by decide) low k
  have hpt : W1.heap[p]? = _ := (k.block p (blk_lt h.ptr) (Kd.R_ne ho.r4 h.ptr (by decide))).trans h.ptr
  have hq : W1.heap[q]? = _ := (k.block q (blk_lt h.res.1) (Kd.R_ne ho.r4 h.res.1 (by decide))).trans h.res.1
  have t1 := Kd.R_typed ho.r4
  have k1 := Kd.R_over' ho.r1 t1 (by decide) k
  have k3 := Kd.R_over' ho.r3 t1 (by decide) k
  have k5 := Kd.R_over' ho.r5 t1 (by decide) k
  have G := put_grownN hp
  exact ⟨hb, hrd.other hb (by decide) (by decide) h.gb G, (G.block p (blk_lt hpt) (fun z => ne_types hpt hb (by decide) (Option.some.inj z))).trans hpt, ⟨(G.block q (blk_lt hq) (fun z => h.res.2 (Option.some.inj z))).trans hq, h.res.2⟩, ⟨v1, v3, u, v5, hp.blk, Kd.R_grown1 k1 rfl G (Kd.R_ne k1 hb (by decide)), Kd.R_grown1 k3 rfl G (Kd.R_ne k3 hb (by decide)), Kd.R_grown1 hu rfl G (Kd.R_ne hu hb (by decide)), Kd.R_grown1 k5 rfl G (Kd.R_ne k5 hb (by decide))⟩, h.gb⟩
theorem RdO.app5 {w0 W W1 : World} {r p g q : Nat} {A : Option Addr} {c : Nat} {l : List Int} {a : RO} {v1 v3 v4 v5 u : Value} {x : Rel} (h : RdO w0 W r p g q A c l a) (ho : OB4 W w0.heap.size g a v1 v3 v4 v5) (hu : Kd.R k82 82 W1 w0.heap.size (fun _ => True) u (a.rels ++ [x])) (low : Below w0.heap.size w0 W1) (k : W.grownBy W1 v5.ownBlock) :
    W1.heap[g]? = some (.cells #[.string a.nm, v1, .int .i64 a.dat, v3, v4, v5] 27 (0, 0)) ∧ RdO w0 (W1.setCell ⟨g, 5, none⟩ u) r p g q A c l { a with rels := a.rels ++ [x] } := by
  have hb : W1.heap[g]? = some (.cells #[.string a.nm, v1, .int .i64 a.dat, v3, v4, v5] 27 (0, 0)) := (k.block g (blk_lt ho.blk) (Kd.R_ne ho.r5 ho.blk (by decide))).trans ho.blk
  have hp := put_set (j := 5) (x := u) hb
  have hrd := h.rd.row ho.r5 (by decide) (by decide) low k
  have hpt : W1.heap[p]? = _ := (k.block p (blk_lt h.ptr) (Kd.R_ne ho.r5 h.ptr (by decide))).trans h.ptr
  have hq : W1.heap[q]? = _ := (k.block q (blk_lt h.res.1) (Kd.R_ne ho.r5 h.res.1 (by decide))).trans h.res.1
  have t1 := Kd.R_typed ho.r5
  have k1 := Kd.R_over' ho.r1 t1 (by decide) k
  have k3 := Kd.R_over' ho.r3 t1 (by decide) k
  have k4 := Kd.R_over' ho.r4 t1 (by decide) k
  have G := put_grownN hp
  exact ⟨hb, hrd.other hb (by decide) (by decide) h.gb G, (G.block p (blk_lt hpt) (fun z => ne_types hpt hb (by decide) (Option.some.inj z))).trans hpt, ⟨(G.block q (blk_lt hq) (fun z => h.res.2 (Option.some.inj z))).trans hq, h.res.2⟩, ⟨v1, v3, v4, u, hp.blk, Kd.R_grown1 k1 rfl G (Kd.R_ne k1 hb (by decide)), Kd.R_grown1 k3 rfl G (Kd.R_ne k3 hb (by decide)), Kd.R_grown1 k4 rfl G (Kd.R_ne k4 hb (by decide)), Kd.R_grown1 hu rfl G (Kd.R_ne hu hb (by decide))⟩, h.gb⟩
set_option maxHeartbeats 8000000 in
set_option maxRecDepth 100000 in
theorem read4.calls (w0 W : World) (r p g q : Nat) (A : Option Addr) (c : Nat) (l : List Int) (a : RO) (h : RdO w0 W r p g q A c l a) (hC : Kd.C (Kd.int .u8) w0 A l.length l) (hcc : l.length ≤ c) (hl : l.length ≤ 1099511627776) (hby : ∀ x ∈ l, 0 ≤ x ∧ x < 256) (hn : a.rels.length ≤ 16384) :
  Calls Tryz.prog 66 #[.pointer (some ⟨p, 0, none⟩), .pointer (some ⟨g, 0, none⟩)] W fun e w' => e = .returned (.tuple #[]) ∧ RdO w0 w' r p g q A c l { a with rels := a.rels ++ [⟨(countR l 2147483647 a.rs).1, (countR l 2147483647 (countR l 2147483647 a.rs).2).1⟩], rs := (countR l 2147483647 (countR l 2147483647 a.rs).2).2 } := by
 have hu1 := Tryz.underlying27
 have hu2 := Tryz.underlying65
 have hu3 := Tryz.underlying82
 have H := Aside0.mk h
 have HC := Aside0.mk hC
 have HCC := Aside0.mk hcc
 have HL := Aside0.mk hl
 have HBY := Aside0.mk hby
 have HN := Aside0.mk hn
 have hcp : W.cell? ⟨p, 0, none⟩ = some (.pointer (some ⟨r, 0, none⟩)) := (blk_cell H.out.ptr 0).trans rfl
 clear h hC hcc hl hby hn
 go_enter Tryz.func66, Tryz.ntmps66
 go_wp2_with (first | (go_at_call 60; refine (count.calls w0 _ r A c l a.rs H.out.rd HC.out HCC.out HL.out HBY.out 2147483647).mono ?_; rintro e_ w1 ⟨rfl, hr_, hg_⟩; have H1 := Aside0.mk (H.out.step hr_ hg_); obtain ⟨v1, v3, v4, v5, ho_⟩ := H1.out.obj; have HO1 := Aside0.mk ho_; have F4 := Aside0.mk (Kd.R_ne_new ho_.r4 0); have F5 := Aside0.mk (Kd.R_ne_new ho_.r5 0); have hcp1 : w1.cell? ⟨p, 0, none⟩ = some (.pointer (some ⟨r, 0, none⟩)) := (blk_cell H1.out.ptr 0).trans rfl; have hcpa : (w1.alloc (.cells #[.int .i64 (countR l 2147483647 a.rs).1, .int .i64 0] 82)).cell? ⟨p, 0, none⟩ = some (.pointer (some ⟨r, 0, none⟩)) := (World.cell?_alloc_lt _ _ _ (World.block_lt_of_cell? _ _ hcp1)).trans hcp1; have hplt := World.block_lt_of_cell? _ _ hcp1; clear hr_ hg_ ho_ H hcp) | (go_at_call 60; have H2a := Aside0.mk (H1.out.below (below_alloc (Below.refl w1.heap.size w1) (.cells #[.int .i64 (countR l 2147483647 a.rs).1, .int .i64 0] 82))); have HO2a := Aside0.mk (HO1.out.below (below_alloc (Below.refl w1.heap.size w1) (.cells #[.int .i64 (countR l 2147483647 a.rs).1, .int .i64 0] 82))); have BS := Aside0.mk (MapKept.heap_alloc w1 (.cells #[.int .i64 (countR l 2147483647 a.rs).1, .int .i64 0] 82)).1; refine (count.calls w0 _ r A c l (countR l 2147483647 a.rs).2 H2a.out.rd HC.out HCC.out HL.out HBY.out 2147483647).mono ?_; rintro e_ w2 ⟨rfl, hr_, hg_⟩; obtain ⟨v, hbr, _⟩ := H2a.out.rd.blk; have BS2 := Aside0.mk ((hg_.block _ (blk_lt BS.out) (fun z => ne_types BS.out hbr (by decide) (Option.some.inj z))).trans BS.out); have H2 := Aside0.mk (H2a.out.step hr_ hg_); have HO2 := Aside0.mk (HO2a.out.grown (s := (countR l 2147483647 (countR l 2147483647 a.rs).2).2) hbr hg_); have hs0 := (blk_cell BS2.out 0).trans rfl; have hs1 := (blk_cell BS2.out 1).trans rfl; have HLS := Aside0.mk (show w0.heap.size ≤ w1.heap.size from H1.out.rd.low.size); clear hr_ hg_ hbr hcp1 hcpa hplt H1 HO1 H2a HO2a BS) | ((with_reducible refine gate_store (t := 3) rfl ?_); go_loud (refine wpList_store_arr rfl rfl rfl w1.heap.size 1 _ _ (.int .i64 (countR l 2147483647 (countR l 2147483647 a.rs).2).1) rfl rfl rfl rfl (by kernel_rfl) BS2.out (show 1 < 2 by decide) ?_; intro w3 hp_; have HT := H2.out.tmp HO2.out BS2.out (by decide) F4.out F5.out HLS.out (put_grownN hp_); have H3 := Aside0.mk HT.1; have HO3 := Aside0.mk HT.2; have BS3 := Aside0.mk hp_.blk; clear hp_ HT hs0 hs1 H2 HO2 BS2; have hs0 := (blk_cell BS3.out 0).trans rfl; have hs1 := (blk_cell BS3.out 1).trans rfl; have hg5 := (blk_cell HO3.out.blk 5).trans rfl)) | ((with_reducible refine gate_builtin (b := .append) (xs := #[.tmp 10, .tmp 12]) rfl ?_); at_builtin; go_loud (refine Kd.R_append k82 (w0 := w0) w0.heap.size rfl (.tmp 10) (.tmp 12) 25 82 (.agg #[.int .i64 0, .int .i64 0]) 16 rfl Tryz.underlying25 info82 rfl (by decide) (by decide) v5 a.rels (⟨(countR l 2147483647 a.rs).1, (countR l 2147483647 (countR l 2147483647 a.rs).2).1⟩ : Rel) [.int .i64 ((countR l 2147483647 a.rs).1), .int .i64 ((countR l 2147483647 (countR l 2147483647 a.rs).2).1)] (fun _ => True) (fun _ => False) rfl rfl (k82_mkM _ _ _ (⟨(countR l 2147483647 a.rs).1, (countR l 2147483647 (countR l 2147483647 a.rs).2).1⟩ : Rel)) (fun _ hk => hk.elim) (fun _ _ => trivial) HO3.out.r5 H3.out.rd.low H3.out.rd.low.size (by have := HN.out; omega) ?_; intro u w4 hu2 hlow hgr _; obtain ⟨Ao, co, eo⟩ := Kd.R_slice hu2; obtain ⟨nn, hnn⟩ : ∃ nn, nn = (a.rels ++ [(⟨(countR l 2147483647 a.rs).1, (countR l 2147483647 (countR l 2147483647 a.rs).2).1⟩ : Rel)]).length := ⟨_, rfl⟩; rw [← hnn] at eo; subst eo; have hx := RdO.app5 H3.out HO3.out hu2 hlow hgr; have HX := Aside0.mk hx.2; have hz1 := (blk_cell hx.1 5).trans rfl; have hzf := blk_frozen hx.1 5; clear hx hlow hgr hu2 hnn hs0 hs1 hg5)))
 refine Go.Great.bodyPost_end0 rfl rfl ?_
 exact ⟨rfl, HX.out⟩
set_option maxHeartbeats 8000000 in
set_option maxRecDepth 100000 in
theorem read3.calls (w0 W : World) (r p g q : Nat) (A : Option Addr) (c : Nat) (l : List Int) (a : RO) (h : RdO w0 W r p g q A c l a) (hC : Kd.C (Kd.int .u8) w0 A l.length l) (hcc : l.length ≤ c) (hl : l.length ≤ 1099511627776) (hby : ∀ x ∈ l, 0 ≤ x ∧ x < 256) (hn : a.syms.length ≤ 16384) :
  Calls Tryz.prog 65 #[.pointer (some ⟨p, 0, none⟩), .pointer (some ⟨g, 0, none⟩)] W fun e w' => e = .returned (.tuple #[]) ∧ RdO w0 w' r p g q A c l { a with syms := a.syms ++ [⟨(textR l a.rs).1, (countR l 3 (textR l a.rs).2).1, (countR l 2147483647 (countR l 3 (textR l a.rs).2).2).1⟩], rs := (countR l 2147483647 (countR l 3 (textR l a.rs).2).2).2 } := by
 have hu1 := Tryz.underlying27
 have hu2 := Tryz.underlying65
 have hu3 := Tryz.underlying82
 have H := Aside0.mk h
 have HC := Aside0.mk hC
 have HCC := Aside0.mk hcc
 have HL := Aside0.mk hl
 have HBY := Aside0.mk hby
 have HN := Aside0.mk hn
 have hcp : W.cell? ⟨p, 0, none⟩ = some (.pointer (some ⟨r, 0, none⟩)) := (blk_cell H.out.ptr 0).trans rfl
 clear h hC hcc hl hby hn
 go_enter Tryz.func65, Tryz.ntmps65
 go_upto_region 1 with ((go_at_call 58; refine (rtext.calls w0 _ r A c l a.rs H.out.rd HC.out HCC.out HL.out HBY.out).mono ?_; rintro e_ w1 ⟨rfl, hr_, hg_⟩; have H1 := Aside0.mk (H.out.step hr_ hg_); obtain ⟨v1, v3, v4, v5, ho_⟩ := H1.out.obj; have HO1 := Aside0.mk ho_; have F4 := Aside0.mk (Kd.R_ne_new ho_.r4 0); have F5 := Aside0.mk (Kd.R_ne_new ho_.r5 0); have hcp1 : w1.cell? ⟨p, 0, none⟩ = some (.pointer (some ⟨r, 0, none⟩)) := (blk_cell H1.out.ptr 0).trans rfl; clear hr_ hg_ ho_ H hcp))
 have HRG := Aside0.mk (countR_range l 3 (textR l a.rs).2 HBY.out (by decide))
 have hi8 : IntKind.i8.wrap (countR l 3 (textR l a.rs).2).1 = (countR l 3 (textR l a.rs).2).1 := i8_small HRG.out.1 HRG.out.2
 have H2 := Aside0.mk (H1.out.below (below_drew (below_alloc (Below.refl w1.heap.size w1) (.cells #[.string (textR l a.rs).1, .int .i8 0, .int .i64 0] 65))))
 have HO2 := Aside0.mk (HO1.out.below (below_drew (below_alloc (Below.refl w1.heap.size w1) (.cells #[.string (textR l a.rs).1, .int .i8 0, .int .i64 0] 65))))
 have BS := Aside0.mk (show (w1.alloc (.cells #[.string (textR l a.rs).1, .int .i8 0, .int .i64 0] 65)).drew.heap[w1.heap.size]? = _ from (MapKept.heap_alloc w1 (.cells #[.string (textR l a.rs).1, .int .i8 0, .int .i64 0] 65)).1)
 have HLS := Aside0.mk (show w0.heap.size ≤ w1.heap.size from H1.out.rd.low.size)
 have hcp2 : (w1.alloc (.cells #[.string (textR l a.rs).1, .int .i8 0, .int .i64 0] 65)).drew.cell? ⟨p, 0, none⟩ = some (.pointer (some ⟨r, 0, none⟩)) := (blk_cell H2.out.ptr 0).trans rfl
 clear hcp1 H1 HO1
 refine start_ (n := 9) (S := fun w' => w'.cell? ⟨p, 0, none⟩ = some (.pointer (some ⟨r, 0, none⟩))) (ds := [8]) #[false, false, false, false, false, false, false, false, false] (by kernel_rfl) rfl rfl hcp2 (fun hHeld => ?_)
 generalize (w1.alloc (.cells #[.string (textR l a.rs).1, .int .i8 0, .int .i64 0] 65)).drew = wd at H2 HO2 BS hcp2 hHeld ⊢
 generalize w1.heap.size = k at BS F4 F5 HLS ⊢
 refine take_ (i := 0) (N := some 6) (v := ?_) (a' := ?_) #[true, false, false, false, false, false, false, false, false] rfl rfl (by kernel_rfl) (fun _ _ _ h => h) (Or.inl ⟨by rfl, ?_⟩) hHeld ?_ ?_
 rotate_left
 ·
  rintro w' s0
  go_simp
  with_reducible rfl
 rotate_left
 ·
  simp only [Act.put, List.setIfInBounds_toArray, List.set_cons_zero, List.set_cons_succ, i64_w, i32_w]
  rfl
 refine take_ (i := 3) (N := some 9) (v := ?_) (a' := ?_) #[true, false, false, true, false, false, false, false, false] rfl rfl (by kernel_rfl) (fun _ _ _ h => h) (Or.inl ⟨by rfl, ?_⟩) hHeld ?_ ?_
 rotate_left
 ·
  rintro w' s0
  go_simp
  with_reducible rfl
 rotate_left
 ·
  simp only [Act.put, List.setIfInBounds_toArray, List.set_cons_zero, List.set_cons_succ, i64_w, i32_w]
  rfl
 refine one_ (i := 1) (N := some 7) #[true, true, false, true, false, false, false, false, false] rfl rfl (by kernel_rfl) (by decide) (fun K hK => ?_)
 refine call_ 60 #[.pointer (some ⟨r, 0, none⟩), .int .i64 3] rfl rfl (by first | rfl | (go_simp; done) | (go_simp; rfl)) ?_
 refine (count.calls w0 _ r A c l (textR l a.rs).2 H2.out.rd HC.out HCC.out HL.out HBY.out 3).mono ?_
 rintro e_ w3 ⟨rfl, hr_, hg_⟩
 refine ⟨_, rfl, ?_⟩
 obtain ⟨v, hbr, _⟩ := H2.out.rd.blk
 have BSn := Aside0.mk ((hg_.block _ (blk_lt BS.out) (fun z => ne_types BS.out hbr (by decide) (Option.some.inj z))).trans BS.out)
 clear BS
 have BS := BSn
 clear BSn
 have H3 := Aside0.mk (H2.out.step hr_ hg_)
 have HO3 := Aside0.mk (HO2.out.grown (s := (countR l 3 (textR l a.rs).2).2) hbr hg_)
 have hcp3 : w3.cell? ⟨p, 0, none⟩ = some (.pointer (some ⟨r, 0, none⟩)) := (blk_cell H3.out.ptr 0).trans rfl
 refine hK.out _ _ hcp3 (fun hHeld => ?_)
 clear hr_ hg_ hbr H2 HO2 hcp2
 clear hK K
 refine norm_ (a' := ?_) ?_ ?_
 rotate_left
 ·
  show Act.put _ (some 7) _ = _
  simp only [Act.put, List.setIfInBounds_toArray, List.set_cons_zero, List.set_cons_succ, i64_w, i32_w]
  rfl
 refine pure_ (i := 2) (N := some 8) (v := ?_) (a' := ?_) #[true, true, true, true, false, false, false, false, false] rfl rfl (by kernel_rfl) (fun _ _ _ h => h) (Or.inl ⟨by rfl, ?_⟩) ?_ ?_
 rotate_left
 ·
  intro w'
  go_simp
  first | (with_reducible rfl) | (rw [hi8]; with_reducible rfl)
 rotate_left
 ·
  simp only [Act.put, List.setIfInBounds_toArray, List.set_cons_zero, List.set_cons_succ, i64_w, i32_w]
  rfl
 refine pure_ (i := 5) (N := some 11) (v := ?_) (a' := ?_) #[true, true, true, true, false, true, false, false, false] rfl rfl (by kernel_rfl) (fun _ _ _ h => h) (Or.inl ⟨by rfl, ?_⟩) ?_ ?_
 rotate_left
 ·
  intro w'
  go_simp
  with_reducible rfl
 rotate_left
 ·
  simp only [Act.put, List.setIfInBounds_toArray, List.set_cons_zero, List.set_cons_succ, i64_w, i32_w]
  rfl
 refine one_ (i := 4) (N := some 10) #[true, true, true, true, true, true, false, false, false] rfl rfl (by kernel_rfl) (by decide) (fun K hK => ?_)
 refine call_ 60 #[.pointer (some ⟨r, 0, none⟩), .int .i64 2147483647] rfl rfl (by first | rfl | (go_simp; done) | (go_simp; rfl)) ?_
 refine (count.calls w0 _ r A c l (countR l 3 (textR l a.rs).2).2 H3.out.rd HC.out HCC.out HL.out HBY.out 2147483647).mono ?_
 rintro e_ w4 ⟨rfl, hr_, hg_⟩
 refine ⟨_, rfl, ?_⟩
 obtain ⟨v, hbr, _⟩ := H3.out.rd.blk
 have BSn := Aside0.mk ((hg_.block _ (blk_lt BS.out) (fun z => ne_types BS.out hbr (by decide) (Option.some.inj z))).trans BS.out)
 clear BS
 have BS := BSn
 clear BSn
 have H4 := Aside0.mk (H3.out.step hr_ hg_)
 have HO4 := Aside0.mk (HO3.out.grown (s := (countR l 2147483647 (countR l 3 (textR l a.rs).2).2).2) hbr hg_)
 have hcp4 : w4.cell? ⟨p, 0, none⟩ = some (.pointer (some ⟨r, 0, none⟩)) := (blk_cell H4.out.ptr 0).trans rfl
 refine hK.out _ _ hcp4 (fun hHeld => ?_)
 clear hr_ hg_ hbr H3 HO3 hcp3
 clear hK K
 refine norm_ (a' := ?_) ?_ ?_
 rotate_left
 ·
  show Act.put _ (some 10) _ = _
  simp only [Act.put, List.setIfInBounds_toArray, List.set_cons_zero, List.set_cons_succ, i64_w, i32_w]
  rfl
 refine one_ (i := 6) (N := none) #[true, true, true, true, true, true, true, false, false] rfl rfl (by kernel_rfl) (by decide) (fun K hK => ?_)
 refine skip_ (w1 := ?_) (by rfl) rfl ?_ ?_
 rotate_left
 ·
  have hq0 := (blk_cell BS.out 1).trans rfl
  have hqf := blk_frozen BS.out 1
  go_simp
  rfl
 have hp_ := put_set (j := 1) (x := .int .i8 (countR l 3 (textR l a.rs).2).1) BS.out
 have HT := H4.out.tmp HO4.out BS.out (by decide) F4.out F5.out HLS.out (put_grownN hp_)
 have BSn := Aside0.mk hp_.blk
 clear BS
 have BS := BSn
 have H5 := Aside0.mk HT.1
 have HO5 := Aside0.mk HT.2
 clear BSn hp_ HT H4 HO4
 have hcp5 := (blk_cell H5.out.ptr 0).trans rfl
 refine hK.out _ _ hcp5 (fun hHeld => ?_)
 clear hcp4
 clear hK K
 try clear hHeld
 generalize w4.setCell ⟨k, 1, none⟩ (.int .i8 (countR l 3 (textR l a.rs).2).1) = w5 at BS H5 HO5 hcp5 ⊢
 refine pure_ (i := 7) (N := some 12) (v := ?_) (a' := ?_) #[true, true, true, true, true, true, true, true, false] rfl rfl (by kernel_rfl) (fun _ _ _ h => h) (Or.inl ⟨by rfl, ?_⟩) ?_ ?_
 rotate_left
 ·
  intro w'
  go_simp
  with_reducible rfl
 rotate_left
 ·
  simp only [Act.put, List.setIfInBounds_toArray, List.set_cons_zero, List.set_cons_succ, i64_w, i32_w]
  rfl
 refine last_ (i := 8) (N := none) #[true, true, true, true, true, true, true, true, true] rfl rfl (by kernel_rfl) (by decide) (fun K hK => ?_)
 refine skip_ (w1 := ?_) (by rfl) rfl ?_ ?_
 rotate_left
 ·
  have hq0 := (blk_cell BS.out 2).trans rfl
  have hqf := blk_frozen BS.out 2
  go_simp
  rfl
 have hp_ := put_set (j := 2) (x := .int .i64 (countR l 2147483647 (countR l 3 (textR l a.rs).2).2).1) BS.out
 have HT := H5.out.tmp HO5.out BS.out (by decide) F4.out F5.out HLS.out (put_grownN hp_)
 have BSn := Aside0.mk hp_.blk
 clear BS
 have BS := BSn
 have H6 := Aside0.mk HT.1
 have HO6 := Aside0.mk HT.2
 clear BSn hp_ HT H5 HO5
 have hcp6 := (blk_cell H6.out.ptr 0).trans rfl
 refine hK.out _ _ ?_
 clear hK K hcp5
 try clear hHeld
 generalize w5.setCell ⟨k, 2, none⟩ (.int .i64 (countR l 2147483647 (countR l 3 (textR l a.rs).2).2).1) = w6 at BS H6 HO6 ⊢
 refine done_ (by kernel_rfl) ?_
 clear hi8
 have hs0 := (blk_cell BS.out 0).trans rfl
 have hs1 := (blk_cell BS.out 1).trans rfl
 have hs2 := (blk_cell BS.out 2).trans rfl
 have hg4 := (blk_cell HO6.out.blk 4).trans rfl
 go_wp2_with (first | ((with_reducible refine gate_builtin (b := .append) (xs := #[.tmp 14, .tmp 16]) rfl ?_); at_builtin; go_loud (refine Kd.R_append k65 (w0 := w0) w0.heap.size rfl (.tmp 14) (.tmp 16) 24 65 (.agg #[.string ⟨#[]⟩, .int .i8 0, .int .i64 0]) 32 rfl Tryz.underlying24 info65 rfl (by decide) (by decide) v4 a.syms (⟨(textR l a.rs).1, (countR l 3 (textR l a.rs).2).1, (countR l 2147483647 (countR l 3 (textR l a.rs).2).2).1⟩ : Sym) [.string ((textR l a.rs).1), .int .i8 ((countR l 3 (textR l a.rs).2).1), .int .i64 ((countR l 2147483647 (countR l 3 (textR l a.rs).2).2).1)] (fun _ => True) (fun _ => False) rfl rfl (k65_mkM _ _ _ (⟨(textR l a.rs).1, (countR l 3 (textR l a.rs).2).1, (countR l 2147483647 (countR l 3 (textR l a.rs).2).2).1⟩ : Sym)) (fun _ hk => hk.elim) (fun _ _ => trivial) HO6.out.r4 H6.out.rd.low H6.out.rd.low.size (by have := HN.out; omega) ?_; intro u w7 hu2 hlow hgr _; obtain ⟨Ao, co, eo⟩ := Kd.R_slice hu2; obtain ⟨nn, hnn⟩ : ∃ nn, nn = (a.syms ++ [(⟨(textR l a.rs).1, (countR l 3 (textR l a.rs).2).1, (countR l 2147483647 (countR l 3 (textR l a.rs).2).2).1⟩ : Sym)]).length := ⟨_, rfl⟩; rw [← hnn] at eo; subst eo; have hx := RdO.app4 H6.out HO6.out hu2 hlow hgr; have HX := Aside0.mk hx.2; have hz1 := (blk_cell hx.1 4).trans rfl; have hzf := blk_frozen hx.1 4; clear hx hlow hgr hu2 hnn hs0 hs1 hs2 hg4)))
 refine Go.Great.bodyPost_end0 rfl rfl ?_
 exact ⟨rfl, HX.out⟩
end Go.Proofs.YtiaohbbafaaibabGreatDoor.P

/- OWN TEXT: what writes numbers and texts as bytes behind a pointer, walked: which bytes, and that nothing else is turned. -/
namespace Go.Proofs.YtiaohbbafaaibabGreatDoor.P
open Go.RowKit Go.Proofs.YtiaohbbafaaibabGreatDoorW.PrintWords Go.Proofs.YtiaohbbafaaibabGreatDoorW.PrintLast Go.Proofs.YtiaohbbafaaibabGreatDoorW.PrintMore Go.Proofs.YtiaohbbafaaibabGreatDoor.Arr
set_option linter.unusedVariables false
set_option linter.unusedSimpArgs false
def beN (v : Int) : Nat → List Int
 | 0 => []
 | n + 1 => (v / 256 ^ n) % 256 :: beN v n
theorem beN_length (v : Int) : ∀ n, (beN v n).length = n
 | 0 => rfl
 | n + 1 => by show (beN v n).length + 1 = n + 1; rw [beN_length v n]
structure OnlyP (g : Nat) (W W1 : World) : Prop where
  size : W.heap.size ≤ W1.heap.size
  far : ∀ k, k < W.heap.size → k ≠ g → (∀ cs, W.heap[k]? ≠ some (.cells cs 5 (0, 0))) → W1.heap[k]? = W.heap[k]?
theorem OnlyP.refl (g : Nat) (W : World) : OnlyP g W W := ⟨Nat.le_refl _, fun _ _ _ _ => rfl⟩
theorem OnlyP.trans {g : Nat} {W W1 W2 : World} (h : OnlyP g W W1) (k : OnlyP g W1 W2) : OnlyP g W W2 :=
  ⟨Nat.le_trans h.size k.size, fun q hq hn ht => by
    have h1 := h.far q hq hn ht
    rw [k.far q (Nat.lt_of_lt_of_le hq h.size) hn (fun cs => by rw [h1]; exact ht cs), h1]⟩
theorem OnlyP.of_below {g : Nat} {W W1 : World} (h : Below W.heap.size W W1) : OnlyP g W W1 := ⟨h.size, fun q hq _ _ => h.block q hq⟩
theorem OnlyP.blk {g k : Nat} {W W1 : World} {o : Obj} (h : OnlyP g W W1) (hb : W.heap[k]? = some o) (hk : k ≠ g) (ht : ∀ cs, o ≠ .cells cs 5 (0, 0)) : W1.heap[k]? = some o := by
 rw [h.far k (blk_lt hb) hk (fun cs e => ht cs (Option.some.inj (hb.symm.trans e))), hb]
def PR (W : World) (base : Nat) (v : Value) (l : List Int) : Prop := Kd.R (Kd.int .u8) 5 W base (fun _ => True) v l ∨ (∃ gl, v = .slice (some ⟨gl, 0, none⟩) 4 4 ∧ base ≤ gl ∧ W.heap[gl]? = some (.cells #[.int .u8 80, .int .u8 76, .int .u8 79, .int .u8 49] 5 (4, 5))) ∧ l = [80, 76, 79, 49]
theorem PR.R {W : World} {base : Nat} {v : Value} {l : List Int} (h : PR W base v l) (hl : 4 < l.length) : Kd.R (Kd.int .u8) 5 W base (fun _ => True) v l := by
 rcases h with h | ⟨_, rfl⟩
 ·
  exact h
 ·
  simp at hl
theorem PR.move {W W1 : World} {base : Nat} {v : Value} {l : List Int} (h : PR W base v l) (hg : ∀ k, v.ownBlock = some k → W1.heap[k]? = W.heap[k]?) (hR : Kd.R (Kd.int .u8) 5 W base (fun _ => True) v l → Kd.R (Kd.int .u8) 5 W1 base (fun _ => True) v l) : PR W1 base v l := by
 rcases h with h | ⟨⟨gl, rfl, h1, h2⟩, h3⟩
 ·
  exact .inl (hR h)
 ·
  exact .inr ⟨⟨gl, rfl, h1, by rw [hg gl rfl]; exact h2⟩, h3⟩
theorem PR.lt {W : World} {base : Nat} {v : Value} {l : List Int} (h : PR W base v l) : ∀ k, v.ownBlock = some k → k < W.heap.size ∧ ∃ cs fz, W.heap[k]? = some (.cells cs 5 fz) := by
 intro k hk
 rcases h with h | ⟨⟨gl, rfl, h1, h2⟩, h3⟩
 ·
  obtain ⟨cs, hc⟩ := Kd.R_typed h k hk
  exact ⟨blk_lt hc, cs, _, hc⟩
 ·
  obtain rfl : gl = k := Option.some.inj hk
  exact ⟨blk_lt h2, _, _, h2⟩
theorem PR.below {W W1 : World} {base : Nat} {v : Value} {l : List Int} (h : PR W base v l) (hb : Below W.heap.size W W1) : PR W1 base v l := h.move (fun k hk => hb.block k (h.lt k hk).1) (fun hr => Kd.R_below hr hb)
structure Pen (w0 W : World) (g : Nat) (v : Value) (l : List Int) : Prop where
  low : Below w0.heap.size w0 W
  blk : W.heap[g]? = some (.cells #[v] 75 (0, 0))
  own : PR W w0.heap.size v l
  base : w0.heap.size ≤ g
def PenIs (w0 W : World) (g : Nat) (l : List Int) : Prop := ∃ v, Pen w0 W g v l
theorem Pen.below {w0 W W1 : World} {g : Nat} {v : Value} {l : List Int} (h : Pen w0 W g v l) (hb : Below W.heap.size W W1) : Pen w0 W1 g v l := ⟨below_then h.low h.low.size hb, blk_below h.blk hb, h.own.below hb, h.base⟩
theorem PenIs.below {w0 W W1 : World} {g : Nat} {l : List Int} (h : PenIs w0 W g l) (hb : Below W.heap.size W W1) : PenIs w0 W1 g l := by
 obtain ⟨v, hv⟩ := h
 exact ⟨v, hv.below hb⟩
theorem PR.ne {W : World} {base g : Nat} {v : Value} {l : List Int} {cs : Array Value} {e : TypeId} {fz : Nat × Nat} (h : PR W base v l) (hb : W.heap[g]? = some (.cells cs e fz)) (he : 5 ≠ e) : some g ≠ v.ownBlock := by
 intro hk
 obtain ⟨_, c1, f1, h1⟩ := h.lt g hk.symm
 rw [hb] at h1
 injection h1 with h1
 injection h1 with _ h1 _
 exact he h1.symm
theorem PR.put {W W1 : World} {base k : Nat} {v : Value} {l : List Int} {cs c1 : Array Value} {e e1 : TypeId} (h : PR W base v l) (hb : W.heap[k]? = some (.cells cs e (0, 0))) (he : 5 ≠ e) (hp : Put W W1 k c1 e1) : PR W1 base v l :=
 h.move (fun q hq => hp.far q (fun e_ => h.ne hb he (by rw [← e_]; exact hq.symm))) (fun hr => Kd.R_grown1 hr rfl (put_grownN hp) (Kd.R_ne hr hb he))
def FarB (W W1 : World) : Prop := W.heap.size ≤ W1.heap.size ∧ ∀ k, k < W.heap.size → (∀ cs, W.heap[k]? ≠ some (.cells cs 5 (0, 0))) → W1.heap[k]? = W.heap[k]?
theorem FarB.of_R {W W1 : World} {base : Nat} {v : Value} {l : List Int} (h : Kd.R (Kd.int .u8) 5 W base (fun _ => True) v l) (hg : W.grownBy W1 v.ownBlock) : FarB W W1 := ⟨hg.size, fun k hk ht => hg.block k hk (fun e => by
  obtain ⟨cs, hcs⟩ := Kd.R_typed h k e.symm
  exact ht cs hcs)⟩
theorem Pen.store {w0 W W1 : World} {g : Nat} {v v1 : Value} {l l1 : List Int} (h : Pen w0 W g v l) (hr : Kd.R (Kd.int .u8) 5 W1 w0.heap.size (fun _ => True) v1 l1) (hb : Below w0.heap.size w0 W1) (hg : FarB W W1) : W1.cell? ⟨g, 0, none⟩ = some v ∧ W1.frozen? ⟨g, 0, none⟩ = false ∧ PenIs w0 (W1.setCell ⟨g, 0, none⟩ v1) g l1 ∧ OnlyP g W (W1.setCell ⟨g, 0, none⟩ v1) := by
 have hb1 : W1.heap[g]? = some (.cells #[v] 75 (0, 0)) := by
  rw [hg.2 g (blk_lt h.blk) (fun cs e => by rw [h.blk] at e; injection e with e; injection e with _ e _; exact absurd e (by decide))]
  exact h.blk
 have hp := put_set (j := 0) (x := v1) hb1
 refine ⟨blk_cell hb1 0, blk_frozen hb1 0, ⟨v1, hp.below hb h.base, hp.blk, .inl (Kd.R_grown1 hr rfl (put_grownN hp) (Kd.R_ne hr hb1 (by decide))), h.base⟩, ⟨Nat.le_trans hg.1 (by rw [hp.size]; exact Nat.le_refl _), fun k hk hkg ht => ?_⟩⟩
 rw [hp.far k hkg]
 exact hg.2 k hk ht
theorem info_byte : (Tryz.prog.info? 5).map (fun i => (i.zero, i.size, i.bytes)) = some (some (.int .u8 0), 1, 1) := by kernel_rfl
theorem u8_wrap (y : Int) : IntKind.u8.wrap y = y % 256 := by simp [IntKind.wrap, IntKind.signed, IntKind.bits]
theorem shr_be {x : Int} {k : Nat} (h0 : 0 ≤ x) : x / 2 ^ (8 * (k : Int)).toNat % 256 = x / 256 ^ k % 256 := by
 rw [show (8 * (k : Int)).toNat = 8 * k by omega, Int.pow_mul]
 rfl
theorem beN_step {x : Int} {k : Nat} {pre r : List Int} (h : pre ++ beN x (k + 1) = r) : (pre ++ [x / 256 ^ k % 256]) ++ beN x k = r := by
 rw [← h, List.append_assoc]
 rfl
theorem own_nums {W : World} {base : Nat} {ok : Nat → Prop} {v : Value} {l : List Int} (h : Kd.R (Kd.int .u8) 5 W base ok v l) : W.ownsRow base 5 1 v l.length (nums .u8 l) := Kd.own_of_R h
theorem R_of_nums {W : World} {base : Nat} {v : Value} {l : List Int} (h : W.ownsRow base 5 1 v l.length (nums .u8 l)) : Kd.R (Kd.int .u8) 5 W base (fun _ => True) v l := Kd.R_of_own h (fun _ _ => trivial)
theorem PR.append_step {ops : Array Oper} {o : Oper} {a : Act} {Q : Exit → Act → World → Prop} {Kc : Act → World → Prop} {w0 W : World} (hg : o.guard = none) (s x : Operand)
  (ho : o.op = .call { callee := .builtin .append, args := #[s, x], argTypes := #[31, 31] }) (v : Value) (l : List Int) (p : Int) (hs : a.eval s = v) (hx : a.eval x = .slice (some ⟨W.heap.size, 0, none⟩) 1 1)
  (HO : PR W w0.heap.size v l) (HB : Below w0.heap.size w0 W) (hl : l.length + 1 ≤ 140737488355328)
  (h : ∀ v1 w1, Kd.R (Kd.int .u8) 5 w1 w0.heap.size (fun _ => True) v1 (l ++ [p]) → Below w0.heap.size w0 w1 → FarB W w1 → Kc (a.put o.dst v1) w1) :
  if Region.wanted o (yielded ops a.tmps) = true then Oper.wp Tryz.prog o a (W.alloc (.cells #[.int .u8 p] 5)) Kc Q else Kc (a.put o.dst undef) (W.alloc (.cells #[.int .u8 p] 5)) := by
 have hw : Region.wanted o (yielded ops a.tmps) = true := by simp [Region.wanted, hg]
 rcases HO with HO | ⟨⟨gl, hv, h1, h2⟩, h3⟩
 ·
  refine Kd.R_append_step (Kd.int .u8) (w0 := w0) w0.heap.size hw s x 31 5 (.int .u8 0) 1 ho Tryz.underlying31 info_byte rfl (by decide) (by omega) v l p [.int .u8 p] (fun _ => True) (fun _ => False) hs hx rfl (fun _ hk => hk.elim) (fun _ _ => trivial) HO HB HB.size (by omega) ?_
  intro v1 w1 hr hb hg1 _
  exact h v1 w1 hr hb (FarB.of_R HO hg1)
 ·
  subst hv h3
  obtain ⟨i0, hi, hz⟩ := Option.map_eq_some_iff.1 info_byte
  simp only [Prod.mk.injEq] at hz
  have hnew : (W.alloc (.cells #[.int .u8 p] 5)).heap[W.heap.size]? = some (.cells #[.int .u8 p] 5 (0, 0)) := blk_new W _
  have hal : Below w0.heap.size w0 (W.alloc (.cells #[.int .u8 p] 5)) := HB.alloc HB.size _
  refine step_append_grows (E := Kc (a.put o.dst undef) (W.alloc (.cells #[.int .u8 p] 5))) hg s x 31 ho 5 i0 (.int .u8 0) 1 1 Tryz.underlying31 hi hz.1 hz.2.1 hz.2.2 rfl (by decide) (some ⟨gl, 0, none⟩) 4 4 [.int .u8 80, .int .u8 76, .int .u8 79, .int .u8 49] hs (fun e => by cases e) rfl ?_ ⟨W.heap.size, 0, none⟩ 1 1 [.int .u8 p] hx rfl ?_ (by intro u hu; rw [List.mem_singleton.1 hu]; rfl) (by omega) (by decide) (by decide) ?_
  ·
   intro b hb j u hu
   obtain rfl : (⟨gl, 0, none⟩ : Addr) = b := Option.some.inj hb
   have h4 : (W.alloc (.cells #[.int .u8 p] 5)).heap[gl]? = some (.cells #[.int .u8 80, .int .u8 76, .int .u8 79, .int .u8 49] 5 (4, 5)) := by rw [(Below.refl W.heap.size W).alloc (Nat.le_refl _) _ |>.block gl (blk_lt h2)]; exact h2
   rw [add_plain, cell_of_row _ gl j _ _ _ h4]
   rw [← Array.getElem?_toList]
   exact hu
  ·
   intro j u hu
   rw [add_plain, cell_of_row _ _ j _ _ _ hnew]
   rw [← Array.getElem?_toList]
   exact hu
  ·
   intro v1 w1 hown hgr
   refine h v1 w1 (R_of_nums (l := [80, 76, 79, 49] ++ [p]) (own_less hown (Nat.le_trans HB.size (by show W.heap.size ≤ (W.heap.push _).size; simp)))) (hal.grown hgr hal.size (fun k hk => by cases hk)) ⟨?_, fun k hk _ => ?_⟩
   ·
    have := hgr.size
    have h5 : (W.alloc (.cells #[.int .u8 p] 5)).heap.size = W.heap.size + 1 := by show (W.heap.push _).size = _; simp
    omega
   ·
    rw [hgr.block k (by show k < (W.heap.push _).size; simp; omega) (by simp)]
    exact (Below.refl W.heap.size W).alloc (Nat.le_refl _) _ |>.block k hk
set_option maxHeartbeats 8000000 in
set_option maxRecDepth 100000 in
theorem number.calls (w0 W : World) (g : Nat) (l : List Int) (hp : PenIs w0 W g l) (x : Int) (h0 : 0 ≤ x) (h1 : x < 18446744073709551616) (n : Nat) (hn : n ≤ 8) (hl : l.length + n ≤ 140737488355328) :
  Calls Tryz.prog 28 #[.pointer (some ⟨g, 0, none⟩), .int .u64 x, .int .i64 (n : Int)] W fun e w' => e = .returned (.tuple #[]) ∧ PenIs w0 w' g (l ++ beN x n) ∧ OnlyP g W w' := by
 have hu1 := Tryz.underlying75
 have HP := Aside0.mk (And.intro hp (OnlyP.refl g W))
 have HX0 := Aside0.mk h0
 have HX1 := Aside0.mk h1
 have HL := Aside0.mk hl
 have HN := Aside0.mk hn
 have p0 : (0 : Int) ≤ (n : Int) := by omega
 have p1 : (n : Int) ≤ 8 := by omega
 clear hp h0 h1 hl hn
 go_enter Tryz.func28, Tryz.ntmps28
 go_wp2
 go_loopw [6] (fun u6 wr => ∃ (m : Nat) (pre : List Int), u6 = .int .i64 ((m : Int) - 1) ∧ m ≤ n ∧ Aside0 (pre ++ beN x m = l ++ beN x n ∧ pre.length + m = l.length + n) ∧ Aside0 (PenIs w0 wr g pre ∧ OnlyP g W wr)) (fun u6 _ => (intOf u6 + 1).toNat)
 case atStart => exact ⟨n, l, by first | rfl | (simp; done), Nat.le_refl _, ⟨rfl, rfl⟩, HP⟩
 case round =>
  clear HP
  obtain ⟨m, pre, hu6, hmn, HE, HP⟩ := hrel
  cases m with
  | zero =>
   obtain rfl : u6 = .int .i64 (-1) := hu6
   clear hmn
   go_wp2
   refine Go.Great.bodyPost_end0 rfl rfl ?_
   have he := HE.out.1
   rw [show beN x 0 = [] from rfl, List.append_nil] at he
   subst he
   exact ⟨rfl, HP.out⟩
  | succ k =>
   obtain rfl : u6 = .int .i64 (k : Int) := by rw [hu6]; congr 1; omega
   clear hu6
   have hkb : decide ((k : Int) ≥ 0) = true := decide_eq_true (by omega)
   have q0 : (0 : Int) ≤ (k : Int) := by omega
   have q1 : (k : Int) ≤ 7 := by omega
   have HM := Aside0.mk hmn
   clear hmn
   obtain ⟨⟨v, hv⟩, hon⟩ := HP.out
   have HV := Aside0.mk (hv.below (below_drew (Below.refl _ _)))
   have HON := Aside0.mk (hon.trans (OnlyP.of_below (below_drew (Below.refl _ _))))
   clear HP hv hon
   have hc0 := (blk_cell HV.out.blk 0).trans rfl
   go_wp2
   refine start_ (n := 15) (S := fun w' => w'.cell? ⟨g, 0, none⟩ = some v) (ds := [14]) #[false, false, false, false, false, false, false, false, false, false, false, false, false, false, false] (by kernel_rfl) rfl rfl hc0 (fun hHeld => ?_)
   generalize wr.drew = wd at HV HON hc0 hHeld ⊢
   refine pure_ (i := 0) (N := some 13) (v := ?_) (a' := ?_) #[true, false, false, false, false, false, false, false, false, false, false, false, false, false, false] rfl rfl (by kernel_rfl) (fun _ _ _ h => h) (Or.inl ⟨by rfl, ?_⟩) ?_ ?_
   rotate_left
   ·
    intro w'
    go_simp
    with_reducible rfl
   rotate_left
   ·
    simp only [Act.put, List.setIfInBounds_toArray, List.set_cons_zero, List.set_cons_succ, i64_w, i32_w]
    rfl
   refine pure_ (i := 1) (N := some 14) (v := ?_) (a' := ?_) #[true, true, false, false, false, false, false, false, false, false, false, false, false, false, false] rfl rfl (by kernel_rfl) (fun _ _ _ h => h) (Or.inl ⟨by rfl, ?_⟩) ?_ ?_
   rotate_left
   ·
    intro w'
    go_simp
    with_reducible rfl
   rotate_left
   ·
    simp only [Act.put, List.setIfInBounds_toArray, List.set_cons_zero, List.set_cons_succ, i64_w, i32_w]
    rfl
   refine pure_ (i := 2) (N := some 15) (v := ?_) (a' := ?_) #[true, true, true, false, false, false, false, false, false, false, false, false, false, false, false] rfl rfl (by kernel_rfl) (fun _ _ _ h => h) (Or.inl ⟨by rfl, ?_⟩) ?_ ?_
   rotate_left
   ·
    intro w'
    go_simp
    with_reducible rfl
   rotate_left
   ·
    simp only [Act.put, List.setIfInBounds_toArray, List.set_cons_zero, List.set_cons_succ, i64_w, i32_w]
    rfl
   refine pure_ (i := 3) (N := some 16) (v := ?_) (a' := ?_) #[true, true, true, true, false, false, false, false, false, false, false, false, false, false, false] rfl rfl (by kernel_rfl) (fun _ _ _ h => h) (Or.inl ⟨by rfl, ?_⟩) ?_ ?_
   rotate_left
   ·
    intro w'
    go_simp
    with_reducible rfl
   rotate_left
   ·
    simp only [Act.put, List.setIfInBounds_toArray, List.set_cons_zero, List.set_cons_succ, i64_w, i32_w]
    rfl
   refine take_ (i := 4) (N := some 17) (v := ?_) (a' := ?_) #[true, true, true, true, true, false, false, false, false, false, false, false, false, false, false] rfl rfl (by kernel_rfl) (fun _ _ _ h => h) (Or.inl ⟨by rfl, ?_⟩) hHeld ?_ ?_
   rotate_left
   ·
    rintro w' s0
    go_simp
    with_reducible rfl
   rotate_left
   ·
    simp only [Act.put, List.setIfInBounds_toArray, List.set_cons_zero, List.set_cons_succ, i64_w, i32_w]
    rfl
   refine pure_ (i := 5) (N := some 18) (v := ?_) (a' := ?_) #[true, true, true, true, true, true, false, false, false, false, false, false, false, false, false] rfl rfl (by kernel_rfl) (fun _ _ _ h => h) (Or.inl ⟨by rfl, ?_⟩) ?_ ?_
   rotate_left
   ·
    intro w'
    go_simp
    with_reducible rfl
   rotate_left
   ·
    simp only [Act.put, List.setIfInBounds_toArray, List.set_cons_zero, List.set_cons_succ, i64_w, i32_w]
    rfl
   refine pure_ (i := 6) (N := some 19) (v := ?_) (a' := ?_) #[true, true, true, true, true, true, true, false, false, false, false, false, false, false, false] rfl rfl (by kernel_rfl) (fun _ _ _ h => h) (Or.inl ⟨by rfl, ?_⟩) ?_ ?_
   rotate_left
   ·
    intro w'
    go_simp
    with_reducible rfl
   rotate_left
   ·
    simp only [Act.put, List.setIfInBounds_toArray, List.set_cons_zero, List.set_cons_succ, i64_w, i32_w]
    rfl
   refine pure_ (i := 7) (N := some 20) (v := ?_) (a' := ?_) #[true, true, true, true, true, true, true, true, false, false, false, false, false, false, false] rfl rfl (by kernel_rfl) (fun _ _ _ h => h) (Or.inl ⟨by rfl, ?_⟩) ?_ ?_
   rotate_left
   ·
    intro w'
    go_simp
    rw [i64_w, wrap64_id (x := 8 * (k : Int)) (by omega) (by omega)]
   rotate_left
   ·
    simp only [Act.put, List.setIfInBounds_toArray, List.set_cons_zero, List.set_cons_succ, i64_w, i32_w]
    rfl
   refine pure_ (i := 8) (N := some 21) (v := ?_) (a' := ?_) #[true, true, true, true, true, true, true, true, true, false, false, false, false, false, false] rfl rfl (by kernel_rfl) (fun _ _ _ h => h) (Or.inl ⟨by rfl, ?_⟩) ?_ ?_
   rotate_left
   ·
    intro w'
    go_simp
    with_reducible rfl
   rotate_left
   ·
    simp only [Act.put, List.setIfInBounds_toArray, List.set_cons_zero, List.set_cons_succ, i64_w, i32_w]
    rfl
   refine pure_ (i := 9) (N := some 22) (v := ?_) (a' := ?_) #[true, true, true, true, true, true, true, true, true, true, false, false, false, false, false] rfl rfl (by kernel_rfl) (fun _ _ _ h => h) (Or.inl ⟨by rfl, ?_⟩) ?_ ?_
   rotate_left
   ·
    intro w'
    go_simp
    with_reducible rfl
   rotate_left
   ·
    simp only [Act.put, List.setIfInBounds_toArray, List.set_cons_zero, List.set_cons_succ, i64_w, i32_w]
    rfl
   refine one_ (i := 10) (N := some 23) #[true, true, true, true, true, true, true, true, true, true, true, false, false, false, false] rfl rfl (by kernel_rfl) (by decide) (fun K hK => ?_)
   refine value_ (w1 := ?_) (v := ?_) (by rfl) rfl ?_ ?_
   rotate_left 2
   ·
    go_simp
    constructor
    ·
     rfl
    ·
     rfl
   refine hK.out _ _ ((World.cell?_alloc_lt _ _ _ (World.block_lt_of_cell? _ _ hc0)).trans hc0) (fun hHeld => ?_)
   clear hK K
   refine norm_ (a' := ?_) ?_ ?_
   rotate_left
   ·
    show Act.put _ (some 23) _ = _
    simp only [Act.put, List.setIfInBounds_toArray, List.set_cons_zero, List.set_cons_succ, i64_w, i32_w]
    rfl
   refine one_ (i := 11) (N := some 24) #[true, true, true, true, true, true, true, true, true, true, true, true, false, false, false] rfl rfl (by kernel_rfl) (by decide) (fun K hK => ?_)
   refine PR.append_step (w0 := w0) (by rfl) (.tmp 17) (.tmp 23) rfl v pre (IntKind.u8.wrap (x / 2 ^ (8 * (k : Int)).toNat)) rfl rfl ?aO ?aB ?aL ?_
   (case aB => exact HV.out.low)
   (case aO => exact HV.out.own)
   (case aL => have := HE.out.2; have := HL.out; omega)
   intro v1 w1 ho1 hb1 hg1
   rw [u8_wrap, shr_be HX0.out] at ho1
   obtain ⟨hc1, hf1, hr1, hon1⟩ := HV.out.store ho1 hb1 hg1
   have HR1 := Aside0.mk (And.intro hr1 (HON.out.trans hon1))
   obtain ⟨Ao, co, eo⟩ := Kd.R_slice ho1
   subst eo
   refine hK.out _ _ hc1 (fun hHeld => ?_)
   clear hr1 hon1 hc0
   clear hK K
   refine norm_ (a' := ?_) ?_ ?_
   rotate_left
   ·
    show Act.put _ (some 24) _ = _
    simp only [Act.put, List.setIfInBounds_toArray, List.set_cons_zero, List.set_cons_succ, i64_w, i32_w]
    rfl
   refine pure_ (i := 12) (N := some 25) (v := ?_) (a' := ?_) #[true, true, true, true, true, true, true, true, true, true, true, true, true, false, false] rfl rfl (by kernel_rfl) (fun _ _ _ h => h) (Or.inl ⟨by rfl, ?_⟩) ?_ ?_
   rotate_left
   ·
    intro w'
    go_simp
    with_reducible rfl
   rotate_left
   ·
    simp only [Act.put, List.setIfInBounds_toArray, List.set_cons_zero, List.set_cons_succ, i64_w, i32_w]
    rfl
   refine pure_ (i := 13) (N := some 26) (v := ?_) (a' := ?_) #[true, true, true, true, true, true, true, true, true, true, true, true, true, true, false] rfl rfl (by kernel_rfl) (fun _ _ _ h => h) (Or.inl ⟨by rfl, ?_⟩) ?_ ?_
   rotate_left
   ·
    intro w'
    go_simp
    with_reducible rfl
   rotate_left
   ·
    simp only [Act.put, List.setIfInBounds_toArray, List.set_cons_zero, List.set_cons_succ, i64_w, i32_w]
    rfl
   refine last_ (i := 14) (N := none) #[true, true, true, true, true, true, true, true, true, true, true, true, true, true, true] rfl rfl (by kernel_rfl) (by decide) (fun K hK => ?_)
   refine skip_ (w1 := ?_) (by rfl) rfl ?_ ?_
   rotate_left
   ·
    go_simp
    rfl
   refine hK.out _ _ ?_
   clear hK K
   refine done_ (by kernel_rfl) ?_
   clear HV HON ho1 hb1 hg1 hHeld hc1 hf1
   go_wp2
   go_roundw
   case measure => simp only [intOf]; omega
   case rel => exact ⟨k, _, by first | rfl | (simp; done), by have := HM.out; omega, ⟨beN_step HE.out.1, by rw [List.length_append]; have := HE.out.2; simp only [List.length_cons, List.length_nil]; omega⟩, by have h2 := HR1.out; rw [show (pre ++ [x / 256 ^ k % 256]).length = pre.length + 1 from by simp] at h2; exact ⟨h2⟩⟩
set_option maxHeartbeats 8000000 in
set_option maxRecDepth 100000 in
theorem four.calls (w0 W : World) (g : Nat) (l : List Int) (hp : PenIs w0 W g l) (x : Int) (h0 : 0 ≤ x) (h1 : x ≤ 9223372036854775807) (hl : l.length + 4 ≤ 140737488355328) :
  Calls Tryz.prog 26 #[.pointer (some ⟨g, 0, none⟩), .int .i64 x] W fun e w' => e = .returned (.tuple #[]) ∧ PenIs w0 w' g (l ++ beN x 4) ∧ OnlyP g W w' := by
 have HP := Aside0.mk hp
 have HL := Aside0.mk hl
 have HX := Aside0.mk (And.intro h0 (show x < 18446744073709551616 by omega))
 have HW := Aside0.mk (show IntKind.u64.wrap x = x by rw [IntKind.wrap_u64]; omega)
 clear hp hl h0 h1
 go_enter Tryz.func26, Tryz.ntmps26
 go_wp2_with (go_at_call 28; (try rw [HW.out]); refine (number.calls w0 _ g l HP.out x HX.out.1 HX.out.2 4 (by decide) HL.out).mono ?_; rintro e w1 ⟨rfl, hp, ho⟩; have HQ := Aside0.mk (And.intro hp ho); clear hp ho)
 refine Go.Great.bodyPost_end0 rfl rfl ?_
 exact ⟨rfl, HQ.out⟩
set_option maxHeartbeats 8000000 in
set_option maxRecDepth 100000 in
theorem text.calls (w0 W : World) (g : Nat) (l : List Int) (hp : PenIs w0 W g l) (s : ByteArray) (h4 : 4 ≤ l.length) (hl : l.length + 4 + s.size ≤ 140737488355328) :
  Calls Tryz.prog 27 #[.pointer (some ⟨g, 0, none⟩), .string s] W fun e w' => e = .returned (.tuple #[]) ∧ PenIs w0 w' g (l ++ beN (s.size : Int) 4 ++ bytesOf s) ∧ OnlyP g W w' := by
 have hu1 := Tryz.underlying75
 have HP := Aside0.mk hp
 have HL := Aside0.mk hl
 have H4 := Aside0.mk h4
 clear hp hl h4
 go_enter Tryz.func27, Tryz.ntmps27
 go_upto_region 1 with (go_at_call 26; refine (four.calls w0 _ g l HP.out (s.size : Int) (by omega) (by have := HL.out; omega) (by have := HL.out; omega)).mono ?_; rintro e w1 ⟨rfl, hp, ho⟩; have HQ := Aside0.mk (And.intro hp ho); clear hp ho HP)
 obtain ⟨⟨v, hv⟩, ho⟩ := HQ.out
 have HV := Aside0.mk hv
 have HO := Aside0.mk ho
 have HLN := Aside0.mk (show (l ++ beN (s.size : Int) 4).length = l.length + 4 by rw [List.length_append, beN_length])
 clear HQ hv ho
 have HRW := Aside0.mk (HV.out.own.R (by rw [HLN.out]; have := H4.out; omega))
 have hc0 := (blk_cell HV.out.blk 0).trans rfl
 go_wp2_with ((with_reducible refine gate_builtin (b := .append) (xs := #[.tmp 12, .tmp 13]) rfl ?_); at_builtin; refine print_append_str (w0 := w0) w0.heap.size rfl (.tmp 12) (.tmp 13) 31 9 5 rfl Tryz.underlying31 Tryz.underlying9 info_byte v (l ++ beN (s.size : Int) 4) s rfl rfl ?aO ?aB ?aS ?aL ?_; (case aO => exact own_nums HRW.out); (case aB => exact HV.out.low); (case aS => exact HV.out.low.size); (case aL => (rw [HLN.out]; exact HL.out)); intro v1 w2 hown hb hg; have hr := R_of_nums hown; obtain ⟨hc1, hf1, hr1, hon1⟩ := HV.out.store hr hb (FarB.of_R HRW.out hg); have HR1 := Aside0.mk (And.intro hr1 (HO.out.trans hon1)); obtain ⟨Ao, co, eo⟩ := Kd.R_slice hr; obtain ⟨nn, hnn⟩ : ∃ nn, nn = (l ++ beN (s.size : Int) 4 ++ bytesOf s).length := ⟨_, rfl⟩; rw [← hnn] at eo; subst eo; clear hnn hown hb hg hr hr1 hon1 hc0)
 refine Go.Great.bodyPost_end0 rfl rfl ?_
 exact ⟨rfl, HR1.out⟩
end Go.Proofs.YtiaohbbafaaibabGreatDoor.P
