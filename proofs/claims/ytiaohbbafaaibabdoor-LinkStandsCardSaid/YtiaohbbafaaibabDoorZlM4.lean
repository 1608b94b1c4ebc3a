/- OWN TEXT and printed parts of this claim, laid together: HObj, HSymW, SymD, LnkD. -/
import Derived.Test.YtiaohbbafaaibabDoorZlM2
import Derived.Test.YtiaohbbafaaibabDoorZlM1
import Derived.Handy
import Derived.Test.YtiaohbbafaaibabDoorZlM3
import Derived.WalkMore
/- OWN TEXT: what object.Check comes to (it calls closures out of a list, which the print does not take), in the print's own form. -/
namespace Go.Proofs.YtiaohbbafaaibabDoor.P
open Go.RowKit Go.Maps Go.Proofs.YtiaohbbafaaibabDoorW.PrintWords Go.Proofs.YtiaohbbafaaibabDoorW.PrintLast Go.Proofs.YtiaohbbafaaibabDoorW.PrintMore Go.Proofs.YtiaohbbafaaibabDoor.Arr Go.Proofs.YtiaohbbafaaibabDoor.MapB
set_option linter.unusedVariables false
set_option linter.unusedSimpArgs false

theorem sizeS_ok {name : ByteArray} {code : List Int} {dat : Int} {data : List Int} {ns nr : Nat} (h : (sizeS name code dat data ns nr).1 = 0) : nameS name = true ∧ code.length ≤ 16384 ∧ ns ≤ 256 ∧ nr ≤ code.length ∧ 0 ≤ dat ∧ dat + (data.length : Int) ≤ 4096 := by
 unfold sizeS at h
 split at h
 ·
  rename_i h0
  refine ⟨h0, ?_⟩
  split at h
  ·
   exact absurd h (by decide)
  split at h
  ·
   exact absurd h (by decide)
  split at h
  ·
   exact absurd h (by decide)
  split at h
  ·
   exact absurd h (by decide)
  split at h
  ·
   exact absurd h (by decide)
  split at h
  ·
   exact absurd h (by decide)
  omega
 ·
  exact absurd h (by decide)
section
variable {P : Program} {ops : Array Oper} {rest : List Oper} {o : Oper} {a : Act} {Q : Exit → Act → World → Prop}
theorem lit_event {W : World} (hgd : o.guard = none) {N : Tmp} (_hd : o.dst = some N) {cs : Array Value} {e : TypeId} {n : Nat}
  (hrun : (execOp a.eval o).run P W = .ok (.value (.slice (some ⟨W.heap.size, 0, none⟩) n n)) (W.alloc (.cells cs e (0, 0))))
  (h : ∀ g, g = W.heap.size → ∀ w1, w1.heap[g]? = some (.cells cs e (0, 0)) → Below W.heap.size W w1 → wpList P ops Q rest (a.put o.dst (.slice (some ⟨g, 0, none⟩) n n)) w1) : wpList P ops Q (o :: rest) a W :=
 Kd.event_run hgd hrun (h _ rfl _ (blk_new W _) (below_alloc (Below.refl _ _) _))
end

set_option maxHeartbeats 8000000 in
set_option maxRecDepth 100000 in
theorem sizeH.calls (a0_0 : ByteArray) (A0_1 : Option Addr) (c0_1 : Nat) (l0_1 : List Int) (a0_2 : Int) (A0_3 : Option Addr) (c0_3 : Nat) (l0_3 : List Int) (A0_4 : Option Addr) (c0_4 : Nat) (l0_4 : List (S75)) (A0_5 : Option Addr) (c0_5 : Nat) (l0_5 : List (S68)) (r1 r2 : Int) (w : World) (hr0_1 : Kd.C (Kd.int .u32) w A0_1 l0_1.length l0_1) (hc0_1 : l0_1.length ≤ c0_1) (hr0_3 : Kd.C (Kd.int .i64) w A0_3 l0_3.length l0_3) (hc0_3 : l0_3.length ≤ c0_3) (hr0_4 : Kd.C k75 w A0_4 l0_4.length l0_4) (hc0_4 : l0_4.length ≤ c0_4) (hr0_5 : Kd.C k68 w A0_5 l0_5.length l0_5) (hc0_5 : l0_5.length ≤ c0_5) (h : sizeS a0_0 l0_1 a0_2 l0_3 l0_4.length l0_5.length = (r1, r2)) :
  Calls Tryd.prog 44 #[.agg #[.string a0_0, .slice A0_1 l0_1.length c0_1, .int .i64 a0_2, .slice A0_3 l0_3.length c0_3, .slice A0_4 l0_4.length c0_4, .slice A0_5 l0_5.length c0_5]] w fun e w' => e = .returned (.agg #[.int .i64 r1, .int .i64 r2]) ∧ Below w.heap.size w w' := by
 have hu1 := Tryd.underlying27
 have hu2 := Tryd.underlying101
 have HB := Aside0.mk (Below.refl w.heap.size w)
 clear hr0_1 hc0_1 hr0_3 hc0_3 hr0_4 hc0_4 hr0_5 hc0_5
 unfold sizeS at h
 have hN : object_Name.f a0_0 = some (nameS a0_0) := rfl
 generalize nameS a0_0 = b at h hN
 have HN := Aside0.mk hN
 clear hN
 cases b
 rotate_left
 rw [if_pos rfl] at h
 refine dite (16384 < (l0_1.length : Int)) (fun c0 => ?_) (fun c0 => ?_)
 rw [if_pos c0] at h; have b0 : decide (16384 < (l0_1.length : Int)) = true := decide_eq_true c0; have n0 : decide (16384 < l0_1.length) = true := decide_eq_true (by omega)
 rotate_left
 rw [if_neg c0] at h; have b0 : decide (16384 < (l0_1.length : Int)) = false := decide_eq_false c0; have n0 : decide (16384 < l0_1.length) = false := decide_eq_false (by omega)
 refine dite (256 < (l0_4.length : Int)) (fun c1 => ?_) (fun c1 => ?_)
 rw [if_pos c1] at h; have b1 : decide (256 < (l0_4.length : Int)) = true := decide_eq_true c1; have n1 : decide (256 < l0_4.length) = true := decide_eq_true (by omega)
 rotate_left
 rw [if_neg c1] at h; have b1 : decide (256 < (l0_4.length : Int)) = false := decide_eq_false c1; have n1 : decide (256 < l0_4.length) = false := decide_eq_false (by omega)
 refine dite ((l0_1.length : Int) < (l0_5.length : Int)) (fun c2 => ?_) (fun c2 => ?_)
 rw [if_pos c2] at h; have b2 : decide ((l0_1.length : Int) < (l0_5.length : Int)) = true := decide_eq_true c2; have n2 : decide (l0_1.length < l0_5.length) = true := decide_eq_true (by omega)
 rotate_left
 rw [if_neg c2] at h; have b2 : decide ((l0_1.length : Int) < (l0_5.length : Int)) = false := decide_eq_false c2; have n2 : decide (l0_1.length < l0_5.length) = false := decide_eq_false (by omega)
 refine dite (a0_2 < 0) (fun c3 => ?_) (fun c3 => ?_)
 rw [if_pos c3] at h; have b3 : decide (a0_2 < 0) = true := decide_eq_true c3
 rotate_left
 rw [if_neg c3] at h; have b3 : decide (a0_2 < 0) = false := decide_eq_false c3
 refine dite (4096 < a0_2) (fun c4 => ?_) (fun c4 => ?_)
 rw [if_pos c4] at h; have b4 : decide (4096 < a0_2) = true := decide_eq_true c4
 rotate_left
 rw [if_neg c4] at h; have b4 : decide (4096 < a0_2) = false := decide_eq_false c4
 refine dite (4096 - a0_2 < (l0_3.length : Int)) (fun c5 => ?_) (fun c5 => ?_)
 rw [if_pos c5] at h; have b5 : decide (wrap64 (4096 - a0_2) < (l0_3.length : Int)) = true := by rw [wrap64_id (by omega) (by omega)]; exact decide_eq_true c5
 rotate_left
 rw [if_neg c5] at h; have b5 : decide (wrap64 (4096 - a0_2) < (l0_3.length : Int)) = false := by rw [wrap64_id (by omega) (by omega)]; exact decide_eq_false c5
 all_goals
  try clear c0; try clear c1; try clear c2; try clear c3; try clear c4; try clear c5
  try rw [if_neg (by decide)] at h
  obtain ⟨rfl, rfl⟩ := Prod.mk.inj h
  clear h
  go_enter Tryd.func44, Tryd.ntmps44
  go_wp2_with (first | ((with_reducible refine gate_dst (N := 1) rfl ?_); refine box_event ?hg (N := 1) ?hd (cs := #[.string a0_0, .slice A0_1 l0_1.length c0_1, .int .i64 a0_2, .slice A0_3 l0_3.length c0_3, .slice A0_4 l0_4.length c0_4, .slice A0_5 l0_5.length c0_5]) (t := 27) ?hr ?_; (case hd => rfl); (case hg => rfl); (case hr => first | (go_simp; done) | (go_simp; rfl)); intro gb hg_ w1 BK_ hb_; have BO := Aside0.mk (show w1.heap[gb]? = some (objCell a0_0 A0_1 l0_1.length c0_1 a0_2 A0_3 l0_3.length c0_3 A0_4 l0_4.length c0_4 A0_5 l0_5.length c0_5) from BK_); replace HB := Aside0.mk (bsQ hb_ HB.out); clear BK_ hb_ hg_) | ((with_reducible refine gate_dst (N := 2) rfl ?_); refine box_event ?hg (N := 2) ?hd (cs := #[.int .i64 0, .int .i64 0]) (t := 101) ?hr ?_; (case hd => rfl); (case hg => rfl); (case hr => first | (go_simp; done) | (go_simp; rfl)); intro gr hgr w2 BK2 hb2; have G1 := Aside0.mk (gwQ hgr HB.out); replace HB := Aside0.mk (bsQ hb2 HB.out); replace BO := Aside0.mk (blk_below BO.out hb2); have BR := Aside0.mk (show w2.heap[gr]? = some (ansCell 0 0) from BK2); clear BK2 hb2 hgr; have hco0 := blk_cell BO.out 0; have hco1 := blk_cell BO.out 1; have hco2 := blk_cell BO.out 2; have hco3 := blk_cell BO.out 3; have hco4 := blk_cell BO.out 4; have hco5 := blk_cell BO.out 5) | (go_at_call 76; refine (object_Name.calls a0_0 _ _ HN.out).mono ?_; rintro e_ w3 ⟨rfl, hb_⟩; replace HB := Aside0.mk (bsQ hb_ HB.out); replace BO := Aside0.mk (blk_below BO.out hb_); replace BR := Aside0.mk (blk_below BR.out hb_); clear hb_ hco0 hco1 hco2 hco3 hco4 hco5; have hco0 := blk_cell BO.out 0; have hco1 := blk_cell BO.out 1; have hco2 := blk_cell BO.out 2; have hco3 := blk_cell BO.out 3; have hco4 := blk_cell BO.out 4; have hco5 := blk_cell BO.out 5) | ((with_reducible refine gate_store (t := 101) rfl ?_); refine wpList_store_whole rfl rfl rfl gr _ #[.int .i64 _, .int .i64 _] _ rfl rfl BR.out (by kernel_rfl) rfl (two_one _ _) ?_; intro w9 hp; have HE := Aside0.mk (hp.below HB.out G1.out); have HP := Aside0.mk hp.blk; clear hp))
  refine bodyPost_ret (results_cell_row rfl _ _ gr 101 #[.int .i64 _, .int .i64 _] (0, 0) _ rfl HP.out Tryd.underlying101 rfl (by kernel_rfl)) rfl ?_
  exact ⟨rfl, HE.out⟩
set_option maxHeartbeats 4000000 in
set_option maxRecDepth 100000 in
theorem chk1.calls (a0_0 : ByteArray) (A0_1 : Option Addr) (c0_1 : Nat) (l0_1 : List Int) (a0_2 : Int) (A0_3 : Option Addr) (c0_3 : Nat) (l0_3 : List Int) (A0_4 : Option Addr) (c0_4 : Nat) (l0_4 : List (S75)) (A0_5 : Option Addr) (c0_5 : Nat) (l0_5 : List (S68)) (gb : Nat) (r1 r2 : Int) (w : World) (hr0_1 : Kd.C (Kd.int .u32) w A0_1 l0_1.length l0_1) (hc0_1 : l0_1.length ≤ c0_1) (hr0_3 : Kd.C (Kd.int .i64) w A0_3 l0_3.length l0_3) (hc0_3 : l0_3.length ≤ c0_3) (hr0_4 : Kd.C k75 w A0_4 l0_4.length l0_4) (hc0_4 : l0_4.length ≤ c0_4) (hr0_5 : Kd.C k68 w A0_5 l0_5.length l0_5) (hc0_5 : l0_5.length ≤ c0_5) (hob : w.heap[gb]? = some (objCell a0_0 A0_1 l0_1.length c0_1 a0_2 A0_3 l0_3.length c0_3 A0_4 l0_4.length c0_4 A0_5 l0_5.length c0_5)) (h : sizeS a0_0 l0_1 a0_2 l0_3 l0_4.length l0_5.length = (r1, r2)) :
  Calls Tryd.prog 43 #[.pointer (some ⟨gb, 0, none⟩)] w fun e w' => e = .returned (.agg #[.int .i64 r1, .int .i64 r2]) ∧ Below w.heap.size w w' := by
 have hu1 := Tryd.underlying27
 have hu2 := Tryd.underlying101
 have HR1 := Aside0.mk hr0_1
 have HC1 := Aside0.mk hc0_1
 have HR3 := Aside0.mk hr0_3
 have HC3 := Aside0.mk hc0_3
 have HR4 := Aside0.mk hr0_4
 have HC4 := Aside0.mk hc0_4
 have HR5 := Aside0.mk hr0_5
 have HC5 := Aside0.mk hc0_5
 have HH := Aside0.mk h
 have BO := Aside0.mk hob
 clear hr0_1 hc0_1 hr0_3 hc0_3 hr0_4 hc0_4 hr0_5 hc0_5 h hob
 go_enter Tryd.func43, Tryd.ntmps43
 go_wp2_with (first | ((with_reducible refine gate_dst (N := 1) rfl ?_); refine box_event ?hg (N := 1) ?hd (cs := #[.int .i64 0, .int .i64 0]) (t := 101) ?hr ?_; (case hd => rfl); (case hg => rfl); (case hr => first | (go_simp; done) | (go_simp; rfl)); intro gr hgr w2 BK2 hb2; have G1 := Aside0.mk (show w.heap.size ≤ gr by rw [hgr]; exact Nat.le_refl _); have HB := Aside0.mk (below_then (Below.refl w.heap.size w) (Nat.le_refl _) hb2); replace BO := Aside0.mk (blk_below BO.out hb2); have BR := Aside0.mk (show w2.heap[gr]? = some (ansCell 0 0) from BK2); clear BK2 hb2 hgr; have hco0 := blk_cell BO.out 0; have hco1 := blk_cell BO.out 1; have hco2 := blk_cell BO.out 2; have hco3 := blk_cell BO.out 3; have hco4 := blk_cell BO.out 4; have hco5 := blk_cell BO.out 5) | (go_at_call 44; refine (sizeH.calls a0_0 A0_1 c0_1 l0_1 a0_2 A0_3 c0_3 l0_3 A0_4 c0_4 l0_4 A0_5 c0_5 l0_5 _ _ _ (Kd.C_below HR1.out HB.out) HC1.out (Kd.C_below HR3.out HB.out) HC3.out (Kd.C_below HR4.out HB.out) HC4.out (Kd.C_below HR5.out HB.out) HC5.out HH.out).mono ?_; rintro e w3 ⟨rfl, hb⟩; replace HB := Aside0.mk (below_then HB.out HB.out.size hb); replace BR := Aside0.mk (blk_below BR.out hb); clear BO hb) | ((with_reducible refine gate_store (t := 101) rfl ?_); refine wpList_store_whole rfl rfl rfl gr _ #[.int .i64 r1, .int .i64 r2] _ rfl rfl BR.out (by kernel_rfl) rfl (two_one _ _) ?_; intro w9 hp; have HE := Aside0.mk (hp.below HB.out G1.out); have HP := Aside0.mk hp.blk; clear hp))
 refine bodyPost_ret (results_cell_row rfl _ _ gr 101 #[.int .i64 r1, .int .i64 r2] (0, 0) _ rfl HP.out Tryd.underlying101 rfl (by kernel_rfl)) rfl ?_
 exact ⟨rfl, HE.out⟩

set_option maxHeartbeats 4000000 in
set_option maxRecDepth 100000 in
theorem chk2.calls (a0_0 : ByteArray) (A0_1 : Option Addr) (c0_1 : Nat) (l0_1 : List Int) (a0_2 : Int) (A0_3 : Option Addr) (c0_3 : Nat) (l0_3 : List Int) (A0_4 : Option Addr) (c0_4 : Nat) (l0_4 : List (S75)) (A0_5 : Option Addr) (c0_5 : Nat) (l0_5 : List (S68)) (gb : Nat) (r1 r2 : Int) (w : World) (hr0_1 : Kd.C (Kd.int .u32) w A0_1 l0_1.length l0_1) (hc0_1 : l0_1.length ≤ c0_1) (hr0_3 : Kd.C (Kd.int .i64) w A0_3 l0_3.length l0_3) (hc0_3 : l0_3.length ≤ c0_3) (hr0_4 : Kd.C k75 w A0_4 l0_4.length l0_4) (hc0_4 : l0_4.length ≤ c0_4) (hr0_5 : Kd.C k68 w A0_5 l0_5.length l0_5) (hc0_5 : l0_5.length ≤ c0_5) (hl : l0_4.length ≤ 1000000) (hob : w.heap[gb]? = some (objCell a0_0 A0_1 l0_1.length c0_1 a0_2 A0_3 l0_3.length c0_3 A0_4 l0_4.length c0_4 A0_5 l0_5.length c0_5)) (h : symsS l0_4 (l0_1.length : Int) = (r1, r2)) :
  Calls Tryd.prog 45 #[.pointer (some ⟨gb, 0, none⟩)] w fun e w' => e = .returned (.agg #[.int .i64 r1, .int .i64 r2]) ∧ Below w.heap.size w w' := by
 have hu1 := Tryd.underlying27
 have hu2 := Tryd.underlying101
 have HR1 := Aside0.mk hr0_1
 have HC1 := Aside0.mk hc0_1
 have HR3 := Aside0.mk hr0_3
 have HC3 := Aside0.mk hc0_3
 have HR4 := Aside0.mk hr0_4
 have HC4 := Aside0.mk hc0_4
 have HR5 := Aside0.mk hr0_5
 have HC5 := Aside0.mk hc0_5
 have HH := Aside0.mk h
 have BO := Aside0.mk hob
 have HL := Aside0.mk hl
 clear hl
 clear hr0_1 hc0_1 hr0_3 hc0_3 hr0_4 hc0_4 hr0_5 hc0_5 h hob
 go_enter Tryd.func45, Tryd.ntmps45
 go_wp2_with (first | ((with_reducible refine gate_dst (N := 1) rfl ?_); refine box_event ?hg (N := 1) ?hd (cs := #[.int .i64 0, .int .i64 0]) (t := 101) ?hr ?_; (case hd => rfl); (case hg => rfl); (case hr => first | (go_simp; done) | (go_simp; rfl)); intro gr hgr w2 BK2 hb2; have G1 := Aside0.mk (show w.heap.size ≤ gr by rw [hgr]; exact Nat.le_refl _); have HB := Aside0.mk (below_then (Below.refl w.heap.size w) (Nat.le_refl _) hb2); replace BO := Aside0.mk (blk_below BO.out hb2); have BR := Aside0.mk (show w2.heap[gr]? = some (ansCell 0 0) from BK2); clear BK2 hb2 hgr; have hco0 := blk_cell BO.out 0; have hco1 := blk_cell BO.out 1; have hco2 := blk_cell BO.out 2; have hco3 := blk_cell BO.out 3; have hco4 := blk_cell BO.out 4; have hco5 := blk_cell BO.out 5) | (go_at_call 46; refine (object_symbols.calls a0_0 A0_1 c0_1 l0_1 a0_2 A0_3 c0_3 l0_3 A0_4 c0_4 l0_4 A0_5 c0_5 l0_5 _ _ _ (Kd.C_below HR1.out HB.out) HC1.out (Kd.C_below HR3.out HB.out) HC3.out (Kd.C_below HR4.out HB.out) HC4.out (Kd.C_below HR5.out HB.out) HC5.out HL.out HH.out).mono ?_; rintro e w3 ⟨rfl, hb⟩; replace HB := Aside0.mk (below_then HB.out HB.out.size hb); replace BR := Aside0.mk (blk_below BR.out hb); clear BO hb) | ((with_reducible refine gate_store (t := 101) rfl ?_); refine wpList_store_whole rfl rfl rfl gr _ #[.int .i64 r1, .int .i64 r2] _ rfl rfl BR.out (by kernel_rfl) rfl (two_one _ _) ?_; intro w9 hp; have HE := Aside0.mk (hp.below HB.out G1.out); have HP := Aside0.mk hp.blk; clear hp))
 refine bodyPost_ret (results_cell_row rfl _ _ gr 101 #[.int .i64 r1, .int .i64 r2] (0, 0) _ rfl HP.out Tryd.underlying101 rfl (by kernel_rfl)) rfl ?_
 exact ⟨rfl, HE.out⟩

set_option maxHeartbeats 4000000 in
set_option maxRecDepth 100000 in
theorem chk3.calls (a0_0 : ByteArray) (A0_1 : Option Addr) (c0_1 : Nat) (l0_1 : List Int) (a0_2 : Int) (A0_3 : Option Addr) (c0_3 : Nat) (l0_3 : List Int) (A0_4 : Option Addr) (c0_4 : Nat) (l0_4 : List (S75)) (A0_5 : Option Addr) (c0_5 : Nat) (l0_5 : List (S68)) (gb : Nat) (r1 r2 : Int) (w : World) (hr0_1 : Kd.C (Kd.int .u32) w A0_1 l0_1.length l0_1) (hc0_1 : l0_1.length ≤ c0_1) (hr0_3 : Kd.C (Kd.int .i64) w A0_3 l0_3.length l0_3) (hc0_3 : l0_3.length ≤ c0_3) (hr0_4 : Kd.C k75 w A0_4 l0_4.length l0_4) (hc0_4 : l0_4.length ≤ c0_4) (hr0_5 : Kd.C k68 w A0_5 l0_5.length l0_5) (hc0_5 : l0_5.length ≤ c0_5) (hw : wordsO l0_1 = true) (hl : l0_1.length ≤ 16384) (hl5 : l0_5.length ≤ 1000000) (hob : w.heap[gb]? = some (objCell a0_0 A0_1 l0_1.length c0_1 a0_2 A0_3 l0_3.length c0_3 A0_4 l0_4.length c0_4 A0_5 l0_5.length c0_5)) (h : relocsS l0_1 (l0_4.length : Int) l0_5 = (r1, r2)) :
  Calls Tryd.prog 47 #[.pointer (some ⟨gb, 0, none⟩)] w fun e w' => e = .returned (.agg #[.int .i64 r1, .int .i64 r2]) ∧ Below w.heap.size w w' := by
 have hu1 := Tryd.underlying27
 have hu2 := Tryd.underlying101
 have HR1 := Aside0.mk hr0_1
 have HC1 := Aside0.mk hc0_1
 have HR3 := Aside0.mk hr0_3
 have HC3 := Aside0.mk hc0_3
 have HR4 := Aside0.mk hr0_4
 have HC4 := Aside0.mk hc0_4
 have HR5 := Aside0.mk hr0_5
 have HC5 := Aside0.mk hc0_5
 have HH := Aside0.mk h
 have BO := Aside0.mk hob
 have HL := Aside0.mk hl
 have HL5 := Aside0.mk hl5
 have HW := Aside0.mk hw
 clear hl hl5 hw
 clear hr0_1 hc0_1 hr0_3 hc0_3 hr0_4 hc0_4 hr0_5 hc0_5 h hob
 go_enter Tryd.func47, Tryd.ntmps47
 go_wp2_with (first | ((with_reducible refine gate_dst (N := 1) rfl ?_); refine box_event ?hg (N := 1) ?hd (cs := #[.int .i64 0, .int .i64 0]) (t := 101) ?hr ?_; (case hd => rfl); (case hg => rfl); (case hr => first | (go_simp; done) | (go_simp; rfl)); intro gr hgr w2 BK2 hb2; have G1 := Aside0.mk (show w.heap.size ≤ gr by rw [hgr]; exact Nat.le_refl _); have HB := Aside0.mk (below_then (Below.refl w.heap.size w) (Nat.le_refl _) hb2); replace BO := Aside0.mk (blk_below BO.out hb2); have BR := Aside0.mk (show w2.heap[gr]? = some (ansCell 0 0) from BK2); clear BK2 hb2 hgr; have hco0 := blk_cell BO.out 0; have hco1 := blk_cell BO.out 1; have hco2 := blk_cell BO.out 2; have hco3 := blk_cell BO.out 3; have hco4 := blk_cell BO.out 4; have hco5 := blk_cell BO.out 5) | (go_at_call 48; refine (object_relocs.calls a0_0 A0_1 c0_1 l0_1 a0_2 A0_3 c0_3 l0_3 A0_4 c0_4 l0_4 A0_5 c0_5 l0_5 _ _ _ (Kd.C_below HR1.out HB.out) HC1.out (Kd.C_below HR3.out HB.out) HC3.out (Kd.C_below HR4.out HB.out) HC4.out (Kd.C_below HR5.out HB.out) HC5.out HW.out HL.out HL5.out HH.out).mono ?_; rintro e w3 ⟨rfl, hb⟩; replace HB := Aside0.mk (below_then HB.out HB.out.size hb); replace BR := Aside0.mk (blk_below BR.out hb); clear BO hb) | ((with_reducible refine gate_store (t := 101) rfl ?_); refine wpList_store_whole rfl rfl rfl gr _ #[.int .i64 r1, .int .i64 r2] _ rfl rfl BR.out (by kernel_rfl) rfl (two_one _ _) ?_; intro w9 hp; have HE := Aside0.mk (hp.below HB.out G1.out); have HP := Aside0.mk hp.blk; clear hp))
 refine bodyPost_ret (results_cell_row rfl _ _ gr 101 #[.int .i64 r1, .int .i64 r2] (0, 0) _ rfl HP.out Tryd.underlying101 rfl (by kernel_rfl)) rfl ?_
 exact ⟨rfl, HE.out⟩

def fsCell (gb : Nat) : Obj := .cells #[(.func (.func 43) #[] #[.pointer (some ⟨gb, 0, none⟩)]), (.func (.func 45) #[] #[.pointer (some ⟨gb, 0, none⟩)]), (.func (.func 47) #[] #[.pointer (some ⟨gb, 0, none⟩)])] 103 (0, 0)
structure OC (w W : World) (gb : Nat) (oi : Obj) (gf : Nat) : Prop where
  low : Below w.heap.size w W
  obj : W.heap[gb]? = some oi
  fs : W.heap[gf]? = some (fsCell gb)
  g1 : w.heap.size ≤ gb
  g2 : w.heap.size ≤ gf
theorem OC.below {w W W1 : World} {gb gf : Nat} {oi : Obj} (h : OC w W gb oi gf) (hb : Below W.heap.size W W1) : OC w W1 gb oi gf :=
 ⟨below_then h.low h.low.size hb, blk_below h.obj hb, blk_below h.fs hb, h.g1, h.g2⟩
theorem OC.grown {w W W1 : World} {gb gf g : Nat} {oi : Obj} (h : OC w W gb oi gf) (hg : W.grownBy W1 (some g)) (hw : w.heap.size ≤ g) (h1 : gb ≠ g) (h2 : gf ≠ g) : OC w W1 gb oi gf :=
 ⟨pw_below_grown h.low (some g) h.low.size hg (fun k hk => by have := Option.some.inj hk; omega), blk_grown h.obj hg (fun e => h1 (Option.some.inj e)), blk_grown h.fs hg (fun e => h2 (Option.some.inj e)), h.g1, h.g2⟩
set_option maxHeartbeats 8000000 in
set_option maxRecDepth 100000 in
theorem object_Check.calls (a0_0 : ByteArray) (A0_1 : Option Addr) (c0_1 : Nat) (l0_1 : List Int) (a0_2 : Int) (A0_3 : Option Addr) (c0_3 : Nat) (l0_3 : List Int) (A0_4 : Option Addr) (c0_4 : Nat) (l0_4 : List (S75)) (A0_5 : Option Addr) (c0_5 : Nat) (l0_5 : List (S68)) (r1 r2 : Int) (w : World) (hr0_1 : Kd.C (Kd.int .u32) w A0_1 l0_1.length l0_1) (hc0_1 : l0_1.length ≤ c0_1) (hr0_3 : Kd.C (Kd.int .i64) w A0_3 l0_3.length l0_3) (hc0_3 : l0_3.length ≤ c0_3) (hr0_4 : Kd.C k75 w A0_4 l0_4.length l0_4) (hc0_4 : l0_4.length ≤ c0_4) (hr0_5 : Kd.C k68 w A0_5 l0_5.length l0_5) (hc0_5 : l0_5.length ≤ c0_5) (h : object_Check.f a0_0 l0_1 a0_2 l0_3 l0_4 l0_5 = some (r1, r2)) :
  Calls Tryd.prog 11 #[.agg #[.string a0_0, .slice A0_1 l0_1.length c0_1, .int .i64 a0_2, .slice A0_3 l0_3.length c0_3, .slice A0_4 l0_4.length c0_4, .slice A0_5 l0_5.length c0_5]] w fun e w' => e = .returned (.tuple #[.int .i64 r1, .int .i64 r2]) ∧ Below w.heap.size w w' := by
 have hu1 := Tryd.underlying27
 have hu2 := Tryd.underlying101
 unfold object_Check.f at h
 by_cases hw : wordsO l0_1 = true
 ·
  rw [if_pos hw] at h
  have h := Option.some.inj h
  have HR1 := Aside0.mk hr0_1
  have HC1 := Aside0.mk hc0_1
  have HR3 := Aside0.mk hr0_3
  have HC3 := Aside0.mk hc0_3
  have HR4 := Aside0.mk hr0_4
  have HC4 := Aside0.mk hc0_4
  have HR5 := Aside0.mk hr0_5
  have HC5 := Aside0.mk hc0_5
  have HW := Aside0.mk hw
  clear hr0_1 hc0_1 hr0_3 hc0_3 hr0_4 hc0_4 hr0_5 hc0_5 hw
  unfold chkO at h
  have hok : (sizeS a0_0 l0_1 a0_2 l0_3 l0_4.length l0_5.length).1 = 0 → _ := fun h => sizeS_ok h
  generalize hz1 : sizeS a0_0 l0_1 a0_2 l0_3 l0_4.length l0_5.length = z1 at h hok
  have H1 := Aside0.mk hz1
  clear hz1
  obtain ⟨s1, n1⟩ := z1
  simp only at h hok
  by_cases k1 : s1 = 0
  ·
   rw [if_pos k1] at h
   obtain ⟨_, hl1, hl4, hl5, _, _⟩ := hok k1
   subst k1
   have HL1 := Aside0.mk hl1
   have HL4 := Aside0.mk (show l0_4.length ≤ 1000000 by omega)
   have HL5 := Aside0.mk (show l0_5.length ≤ 1000000 by omega)
   clear hok hl1 hl4 hl5
   generalize hz2 : symsS l0_4 (l0_1.length : Int) = z2 at h
   have H2 := Aside0.mk hz2
   clear hz2
   obtain ⟨s2, n2⟩ := z2
   simp only at h
   by_cases k2 : s2 = 0
   ·
    rw [if_pos k2] at h
    subst k2
    generalize hz3 : relocsS l0_1 (l0_4.length : Int) l0_5 = z3 at h
    have H3 := Aside0.mk hz3
    clear hz3
    obtain ⟨s3, n3⟩ := z3
    simp only at h
    by_cases k3 : s3 = 0
    ·
     rw [if_pos k3] at h
     subst k3
     injection h with e1 e2
     subst e1 e2
     go_enter Tryd.func11, Tryd.ntmps11
     go_wp2_with (first | ((with_reducible refine gate_dst (N := 1) rfl ?_); refine box_event ?hg (N := 1) ?hd (cs := #[.string a0_0, .slice A0_1 l0_1.length c0_1, .int .i64 a0_2, .slice A0_3 l0_3.length c0_3, .slice A0_4 l0_4.length c0_4, .slice A0_5 l0_5.length c0_5]) (t := 27) ?hr ?_; (case hd => rfl); (case hg => rfl); (case hr => first | (go_simp; done) | (go_simp; rfl)); intro gb hgb w1 BK1 hb1; have HB := Aside0.mk (below_then (Below.refl w.heap.size w) (Nat.le_refl _) hb1); have GB := Aside0.mk (show w.heap.size ≤ gb by rw [hgb]; exact Nat.le_refl _); have BO := Aside0.mk (show w1.heap[gb]? = some (objCell a0_0 A0_1 l0_1.length c0_1 a0_2 A0_3 l0_3.length c0_3 A0_4 l0_4.length c0_4 A0_5 l0_5.length c0_5) from BK1); clear BK1 hb1 hgb) | ((with_reducible refine gate_dst (N := 11) rfl ?_); refine lit_event ?hg (N := 11) ?hd (cs := #[(.func (.func 43) #[] #[.pointer (some ⟨gb, 0, none⟩)]), (.func (.func 45) #[] #[.pointer (some ⟨gb, 0, none⟩)]), (.func (.func 47) #[] #[.pointer (some ⟨gb, 0, none⟩)])]) (e := 103) (n := 3) ?hr ?_; (case hd => rfl); (case hg => rfl); (case hr => first | (go_simp; done) | (go_simp; rfl)); intro gf hgf w2 BK2 hb2; have HO := Aside0.mk (show OC w w2 gb (objCell a0_0 A0_1 l0_1.length c0_1 a0_2 A0_3 l0_3.length c0_3 A0_4 l0_4.length c0_4 A0_5 l0_5.length c0_5) gf from ⟨below_then HB.out HB.out.size hb2, blk_below BO.out hb2, BK2, GB.out, by rw [hgf]; exact HB.out.size⟩); clear HB BO BK2 hb2 hgf GB; have hf0 := blk_cell HO.out.fs 0; have hf1 := blk_cell HO.out.fs 1; have hf2 := blk_cell HO.out.fs 2))
     refine wp_loop_rounds 4 ?_
     rw [rounds_succ]
     go_wp2_with (first | (go_at_call 43; refine (chk1.calls a0_0 A0_1 c0_1 l0_1 a0_2 A0_3 c0_3 l0_3 A0_4 c0_4 l0_4 A0_5 c0_5 l0_5 gb _ _ _ (Kd.C_below HR1.out HO.out.low) HC1.out (Kd.C_below HR3.out HO.out.low) HC3.out (Kd.C_below HR4.out HO.out.low) HC4.out (Kd.C_below HR5.out HO.out.low) HC5.out HO.out.obj H1.out).mono ?_; rintro e w3 ⟨rfl, hb⟩; replace HO := Aside0.mk (HO.out.below hb); clear hb; have hf0 := blk_cell HO.out.fs 0; have hf1 := blk_cell HO.out.fs 1; have hf2 := blk_cell HO.out.fs 2) | ((with_reducible refine gate_dst (N := 7) rfl ?_); refine box_event ?hg (N := 7) ?hd (cs := #[.int .i64 0, .int .i64 0]) (t := 101) ?hr ?_; (case hd => rfl); (case hg => rfl); (case hr => first | (go_simp; done) | (go_simp; rfl)); intro gs hgs w5 BK5 hb5; have LF := Aside0.mk (show gf < gs by rw [hgs]; exact blk_lt HO.out.fs); have LG := Aside0.mk (show gb < gs by rw [hgs]; exact blk_lt HO.out.obj); replace HO := Aside0.mk (HO.out.below hb5); have BS := Aside0.mk BK5; clear BK5 hb5 hgs; have hf0 := blk_cell HO.out.fs 0; have hf1 := blk_cell HO.out.fs 1; have hf2 := blk_cell HO.out.fs 2) | ((with_reducible refine gate_store (t := 101) rfl ?_); refine wpList_store_whole rfl rfl rfl gs _ #[.int .i64 0, .int .i64 n1] _ rfl rfl BS.out (by kernel_rfl) rfl (two_one _ _) ?_; intro w6 hp; replace HO := Aside0.mk (HO.out.grown (put_grownN hp) (by have := LG.out; have := HO.out.g1; omega) (by have := LG.out; omega) (by have := LF.out; omega)); have BSn := Aside0.mk hp.blk; clear BS hp LF LG; have hs0 := blk_cell BSn.out 0; have hs1 := blk_cell BSn.out 1; clear BSn; have hf0 := blk_cell HO.out.fs 0; have hf1 := blk_cell HO.out.fs 1; have hf2 := blk_cell HO.out.fs 2))
     rw [rounds_succ]
     go_wp2_with (first | (go_at_call 45; refine (chk2.calls a0_0 A0_1 c0_1 l0_1 a0_2 A0_3 c0_3 l0_3 A0_4 c0_4 l0_4 A0_5 c0_5 l0_5 gb _ _ _ (Kd.C_below HR1.out HO.out.low) HC1.out (Kd.C_below HR3.out HO.out.low) HC3.out (Kd.C_below HR4.out HO.out.low) HC4.out (Kd.C_below HR5.out HO.out.low) HC5.out HL4.out HO.out.obj H2.out).mono ?_; rintro e w3 ⟨rfl, hb⟩; replace HO := Aside0.mk (HO.out.below hb); clear hb; have hf0 := blk_cell HO.out.fs 0; have hf1 := blk_cell HO.out.fs 1; have hf2 := blk_cell HO.out.fs 2) | ((with_reducible refine gate_dst (N := 7) rfl ?_); refine box_event ?hg (N := 7) ?hd (cs := #[.int .i64 0, .int .i64 0]) (t := 101) ?hr ?_; (case hd => rfl); (case hg => rfl); (case hr => first | (go_simp; done) | (go_simp; rfl)); intro gs hgs w5 BK5 hb5; have LF := Aside0.mk (show gf < gs by rw [hgs]; exact blk_lt HO.out.fs); have LG := Aside0.mk (show gb < gs by rw [hgs]; exact blk_lt HO.out.obj); replace HO := Aside0.mk (HO.out.below hb5); have BS := Aside0.mk BK5; clear BK5 hb5 hgs; have hf0 := blk_cell HO.out.fs 0; have hf1 := blk_cell HO.out.fs 1; have hf2 := blk_cell HO.out.fs 2) | ((with_reducible refine gate_store (t := 101) rfl ?_); refine wpList_store_whole rfl rfl rfl gs _ #[.int .i64 0, .int .i64 n2] _ rfl rfl BS.out (by kernel_rfl) rfl (two_one _ _) ?_; intro w6 hp; replace HO := Aside0.mk (HO.out.grown (put_grownN hp) (by have := LG.out; have := HO.out.g1; omega) (by have := LG.out; omega) (by have := LF.out; omega)); have BSn := Aside0.mk hp.blk; clear BS hp LF LG; have hs0 := blk_cell BSn.out 0; have hs1 := blk_cell BSn.out 1; clear BSn; have hf0 := blk_cell HO.out.fs 0; have hf1 := blk_cell HO.out.fs 1; have hf2 := blk_cell HO.out.fs 2))
     rw [rounds_succ]
     go_wp2_with (first | (go_at_call 47; refine (chk3.calls a0_0 A0_1 c0_1 l0_1 a0_2 A0_3 c0_3 l0_3 A0_4 c0_4 l0_4 A0_5 c0_5 l0_5 gb _ _ _ (Kd.C_below HR1.out HO.out.low) HC1.out (Kd.C_below HR3.out HO.out.low) HC3.out (Kd.C_below HR4.out HO.out.low) HC4.out (Kd.C_below HR5.out HO.out.low) HC5.out HW.out HL1.out HL5.out HO.out.obj H3.out).mono ?_; rintro e w3 ⟨rfl, hb⟩; replace HO := Aside0.mk (HO.out.below hb); clear hb; have hf0 := blk_cell HO.out.fs 0; have hf1 := blk_cell HO.out.fs 1; have hf2 := blk_cell HO.out.fs 2) | ((with_reducible refine gate_dst (N := 7) rfl ?_); refine box_event ?hg (N := 7) ?hd (cs := #[.int .i64 0, .int .i64 0]) (t := 101) ?hr ?_; (case hd => rfl); (case hg => rfl); (case hr => first | (go_simp; done) | (go_simp; rfl)); intro gs hgs w5 BK5 hb5; have LF := Aside0.mk (show gf < gs by rw [hgs]; exact blk_lt HO.out.fs); have LG := Aside0.mk (show gb < gs by rw [hgs]; exact blk_lt HO.out.obj); replace HO := Aside0.mk (HO.out.below hb5); have BS := Aside0.mk BK5; clear BK5 hb5 hgs; have hf0 := blk_cell HO.out.fs 0; have hf1 := blk_cell HO.out.fs 1; have hf2 := blk_cell HO.out.fs 2) | ((with_reducible refine gate_store (t := 101) rfl ?_); refine wpList_store_whole rfl rfl rfl gs _ #[.int .i64 0, .int .i64 n3] _ rfl rfl BS.out (by kernel_rfl) rfl (two_one _ _) ?_; intro w6 hp; replace HO := Aside0.mk (HO.out.grown (put_grownN hp) (by have := LG.out; have := HO.out.g1; omega) (by have := LG.out; omega) (by have := LF.out; omega)); have BSn := Aside0.mk hp.blk; clear BS hp LF LG; have hs0 := blk_cell BSn.out 0; have hs1 := blk_cell BSn.out 1; clear BSn; have hf0 := blk_cell HO.out.fs 0; have hf1 := blk_cell HO.out.fs 1; have hf2 := blk_cell HO.out.fs 2))
     rw [rounds_succ]
     go_wp2
     go_ret2
     exact ⟨rfl, HO.out.low⟩
    ·
     rw [if_neg k3] at h
     injection h with e1 e2
     subst e1 e2
     have k3b : (s3 != 0) = true := bne_iff_ne.mpr k3
     clear k3
     go_enter Tryd.func11, Tryd.ntmps11
     go_wp2_with (first | ((with_reducible refine gate_dst (N := 1) rfl ?_); refine box_event ?hg (N := 1) ?hd (cs := #[.string a0_0, .slice A0_1 l0_1.length c0_1, .int .i64 a0_2, .slice A0_3 l0_3.length c0_3, .slice A0_4 l0_4.length c0_4, .slice A0_5 l0_5.length c0_5]) (t := 27) ?hr ?_; (case hd => rfl); (case hg => rfl); (case hr => first | (go_simp; done) | (go_simp; rfl)); intro gb hgb w1 BK1 hb1; have HB := Aside0.mk (below_then (Below.refl w.heap.size w) (Nat.le_refl _) hb1); have GB := Aside0.mk (show w.heap.size ≤ gb by rw [hgb]; exact Nat.le_refl _); have BO := Aside0.mk (show w1.heap[gb]? = some (objCell a0_0 A0_1 l0_1.length c0_1 a0_2 A0_3 l0_3.length c0_3 A0_4 l0_4.length c0_4 A0_5 l0_5.length c0_5) from BK1); clear BK1 hb1 hgb) | ((with_reducible refine gate_dst (N := 11) rfl ?_); refine lit_event ?hg (N := 11) ?hd (cs := #[(.func (.func 43) #[] #[.pointer (some ⟨gb, 0, none⟩)]), (.func (.func 45) #[] #[.pointer (some ⟨gb, 0, none⟩)]), (.func (.func 47) #[] #[.pointer (some ⟨gb, 0, none⟩)])]) (e := 103) (n := 3) ?hr ?_; (case hd => rfl); (case hg => rfl); (case hr => first | (go_simp; done) | (go_simp; rfl)); intro gf hgf w2 BK2 hb2; have HO := Aside0.mk (show OC w w2 gb (objCell a0_0 A0_1 l0_1.length c0_1 a0_2 A0_3 l0_3.length c0_3 A0_4 l0_4.length c0_4 A0_5 l0_5.length c0_5) gf from ⟨below_then HB.out HB.out.size hb2, blk_below BO.out hb2, BK2, GB.out, by rw [hgf]; exact HB.out.size⟩); clear HB BO BK2 hb2 hgf GB; have hf0 := blk_cell HO.out.fs 0; have hf1 := blk_cell HO.out.fs 1; have hf2 := blk_cell HO.out.fs 2))
     refine wp_loop_rounds 4 ?_
     rw [rounds_succ]
     go_wp2_with (first | (go_at_call 43; refine (chk1.calls a0_0 A0_1 c0_1 l0_1 a0_2 A0_3 c0_3 l0_3 A0_4 c0_4 l0_4 A0_5 c0_5 l0_5 gb _ _ _ (Kd.C_below HR1.out HO.out.low) HC1.out (Kd.C_below HR3.out HO.out.low) HC3.out (Kd.C_below HR4.out HO.out.low) HC4.out (Kd.C_below HR5.out HO.out.low) HC5.out HO.out.obj H1.out).mono ?_; rintro e w3 ⟨rfl, hb⟩; replace HO := Aside0.mk (HO.out.below hb); clear hb; have hf0 := blk_cell HO.out.fs 0; have hf1 := blk_cell HO.out.fs 1; have hf2 := blk_cell HO.out.fs 2) | ((with_reducible refine gate_dst (N := 7) rfl ?_); refine box_event ?hg (N := 7) ?hd (cs := #[.int .i64 0, .int .i64 0]) (t := 101) ?hr ?_; (case hd => rfl); (case hg => rfl); (case hr => first | (go_simp; done) | (go_simp; rfl)); intro gs hgs w5 BK5 hb5; have LF := Aside0.mk (show gf < gs by rw [hgs]; exact blk_lt HO.out.fs); have LG := Aside0.mk (show gb < gs by rw [hgs]; exact blk_lt HO.out.obj); replace HO := Aside0.mk (HO.out.below hb5); have BS := Aside0.mk BK5; clear BK5 hb5 hgs; have hf0 := blk_cell HO.out.fs 0; have hf1 := blk_cell HO.out.fs 1; have hf2 := blk_cell HO.out.fs 2) | ((with_reducible refine gate_store (t := 101) rfl ?_); refine wpList_store_whole rfl rfl rfl gs _ #[.int .i64 0, .int .i64 n1] _ rfl rfl BS.out (by kernel_rfl) rfl (two_one _ _) ?_; intro w6 hp; replace HO := Aside0.mk (HO.out.grown (put_grownN hp) (by have := LG.out; have := HO.out.g1; omega) (by have := LG.out; omega) (by have := LF.out; omega)); have BSn := Aside0.mk hp.blk; clear BS hp LF LG; have hs0 := blk_cell BSn.out 0; have hs1 := blk_cell BSn.out 1; clear BSn; have hf0 := blk_cell HO.out.fs 0; have hf1 := blk_cell HO.out.fs 1; have hf2 := blk_cell HO.out.fs 2))
     rw [rounds_succ]
     go_wp2_with (first | (go_at_call 45; refine (chk2.calls a0_0 A0_1 c0_1 l0_1 a0_2 A0_3 c0_3 l0_3 A0_4 c0_4 l0_4 A0_5 c0_5 l0_5 gb _ _ _ (Kd.C_below HR1.out HO.out.low) HC1.out (Kd.C_below HR3.out HO.out.low) HC3.out (Kd.C_below HR4.out HO.out.low) HC4.out (Kd.C_below HR5.out HO.out.low) HC5.out HL4.out HO.out.obj H2.out).mono ?_; rintro e w3 ⟨rfl, hb⟩; replace HO := Aside0.mk (HO.out.below hb); clear hb; have hf0 := blk_cell HO.out.fs 0; have hf1 := blk_cell HO.out.fs 1; have hf2 := blk_cell HO.out.fs 2) | ((with_reducible refine gate_dst (N := 7) rfl ?_); refine box_event ?hg (N := 7) ?hd (cs := #[.int .i64 0, .int .i64 0]) (t := 101) ?hr ?_; (case hd => rfl); (case hg => rfl); (case hr => first | (go_simp; done) | (go_simp; rfl)); intro gs hgs w5 BK5 hb5; have LF := Aside0.mk (show gf < gs by rw [hgs]; exact blk_lt HO.out.fs); have LG := Aside0.mk (show gb < gs by rw [hgs]; exact blk_lt HO.out.obj); replace HO := Aside0.mk (HO.out.below hb5); have BS := Aside0.mk BK5; clear BK5 hb5 hgs; have hf0 := blk_cell HO.out.fs 0; have hf1 := blk_cell HO.out.fs 1; have hf2 := blk_cell HO.out.fs 2) | ((with_reducible refine gate_store (t := 101) rfl ?_); refine wpList_store_whole rfl rfl rfl gs _ #[.int .i64 0, .int .i64 n2] _ rfl rfl BS.out (by kernel_rfl) rfl (two_one _ _) ?_; intro w6 hp; replace HO := Aside0.mk (HO.out.grown (put_grownN hp) (by have := LG.out; have := HO.out.g1; omega) (by have := LG.out; omega) (by have := LF.out; omega)); have BSn := Aside0.mk hp.blk; clear BS hp LF LG; have hs0 := blk_cell BSn.out 0; have hs1 := blk_cell BSn.out 1; clear BSn; have hf0 := blk_cell HO.out.fs 0; have hf1 := blk_cell HO.out.fs 1; have hf2 := blk_cell HO.out.fs 2))
     rw [rounds_succ]
     go_wp2_with (first | (go_at_call 47; refine (chk3.calls a0_0 A0_1 c0_1 l0_1 a0_2 A0_3 c0_3 l0_3 A0_4 c0_4 l0_4 A0_5 c0_5 l0_5 gb _ _ _ (Kd.C_below HR1.out HO.out.low) HC1.out (Kd.C_below HR3.out HO.out.low) HC3.out (Kd.C_below HR4.out HO.out.low) HC4.out (Kd.C_below HR5.out HO.out.low) HC5.out HW.out HL1.out HL5.out HO.out.obj H3.out).mono ?_; rintro e w3 ⟨rfl, hb⟩; replace HO := Aside0.mk (HO.out.below hb); clear hb; have hf0 := blk_cell HO.out.fs 0; have hf1 := blk_cell HO.out.fs 1; have hf2 := blk_cell HO.out.fs 2) | ((with_reducible refine gate_dst (N := 7) rfl ?_); refine box_event ?hg (N := 7) ?hd (cs := #[.int .i64 0, .int .i64 0]) (t := 101) ?hr ?_; (case hd => rfl); (case hg => rfl); (case hr => first | (go_simp; done) | (go_simp; rfl)); intro gs hgs w5 BK5 hb5; have LF := Aside0.mk (show gf < gs by rw [hgs]; exact blk_lt HO.out.fs); have LG := Aside0.mk (show gb < gs by rw [hgs]; exact blk_lt HO.out.obj); replace HO := Aside0.mk (HO.out.below hb5); have BS := Aside0.mk BK5; clear BK5 hb5 hgs; have hf0 := blk_cell HO.out.fs 0; have hf1 := blk_cell HO.out.fs 1; have hf2 := blk_cell HO.out.fs 2) | ((with_reducible refine gate_store (t := 101) rfl ?_); refine wpList_store_whole rfl rfl rfl gs _ #[.int .i64 s3, .int .i64 n3] _ rfl rfl BS.out (by kernel_rfl) rfl (two_one _ _) ?_; intro w6 hp; replace HO := Aside0.mk (HO.out.grown (put_grownN hp) (by have := LG.out; have := HO.out.g1; omega) (by have := LG.out; omega) (by have := LF.out; omega)); have BSn := Aside0.mk hp.blk; clear BS hp LF LG; have hs0 := blk_cell BSn.out 0; have hs1 := blk_cell BSn.out 1; clear BSn; have hf0 := blk_cell HO.out.fs 0; have hf1 := blk_cell HO.out.fs 1; have hf2 := blk_cell HO.out.fs 2))
     repeat (go_quiet (fail); try go_wp2)
     go_ret2
     exact ⟨rfl, by first | exact HO.out.low | exact pw_below_drewN HO.out.low _⟩
   ·
    rw [if_neg k2] at h
    injection h with e1 e2
    subst e1 e2
    have k2b : (s2 != 0) = true := bne_iff_ne.mpr k2
    clear k2
    go_enter Tryd.func11, Tryd.ntmps11
    go_wp2_with (first | ((with_reducible refine gate_dst (N := 1) rfl ?_); refine box_event ?hg (N := 1) ?hd (cs := #[.string a0_0, .slice A0_1 l0_1.length c0_1, .int .i64 a0_2, .slice A0_3 l0_3.length c0_3, .slice A0_4 l0_4.length c0_4, .slice A0_5 l0_5.length c0_5]) (t := 27) ?hr ?_; (case hd => rfl); (case hg => rfl); (case hr => first | (go_simp; done) | (go_simp; rfl)); intro gb hgb w1 BK1 hb1; have HB := Aside0.mk (below_then (Below.refl w.heap.size w) (Nat.le_refl _) hb1); have GB := Aside0.mk (show w.heap.size ≤ gb by rw [hgb]; exact Nat.le_refl _); have BO := Aside0.mk (show w1.heap[gb]? = some (objCell a0_0 A0_1 l0_1.length c0_1 a0_2 A0_3 l0_3.length c0_3 A0_4 l0_4.length c0_4 A0_5 l0_5.length c0_5) from BK1); clear BK1 hb1 hgb) | ((with_reducible refine gate_dst (N := 11) rfl ?_); refine lit_event ?hg (N := 11) ?hd (cs := #[(.func (.func 43) #[] #[.pointer (some ⟨gb, 0, none⟩)]), (.func (.func 45) #[] #[.pointer (some ⟨gb, 0, none⟩)]), (.func (.func 47) #[] #[.pointer (some ⟨gb, 0, none⟩)])]) (e := 103) (n := 3) ?hr ?_; (case hd => rfl); (case hg => rfl); (case hr => first | (go_simp; done) | (go_simp; rfl)); intro gf hgf w2 BK2 hb2; have HO := Aside0.mk (show OC w w2 gb (objCell a0_0 A0_1 l0_1.length c0_1 a0_2 A0_3 l0_3.length c0_3 A0_4 l0_4.length c0_4 A0_5 l0_5.length c0_5) gf from ⟨below_then HB.out HB.out.size hb2, blk_below BO.out hb2, BK2, GB.out, by rw [hgf]; exact HB.out.size⟩); clear HB BO BK2 hb2 hgf GB; have hf0 := blk_cell HO.out.fs 0; have hf1 := blk_cell HO.out.fs 1; have hf2 := blk_cell HO.out.fs 2))
    refine wp_loop_rounds 4 ?_
    rw [rounds_succ]
    go_wp2_with (first | (go_at_call 43; refine (chk1.calls a0_0 A0_1 c0_1 l0_1 a0_2 A0_3 c0_3 l0_3 A0_4 c0_4 l0_4 A0_5 c0_5 l0_5 gb _ _ _ (Kd.C_below HR1.out HO.out.low) HC1.out (Kd.C_below HR3.out HO.out.low) HC3.out (Kd.C_below HR4.out HO.out.low) HC4.out (Kd.C_below HR5.out HO.out.low) HC5.out HO.out.obj H1.out).mono ?_; rintro e w3 ⟨rfl, hb⟩; replace HO := Aside0.mk (HO.out.below hb); clear hb; have hf0 := blk_cell HO.out.fs 0; have hf1 := blk_cell HO.out.fs 1; have hf2 := blk_cell HO.out.fs 2) | ((with_reducible refine gate_dst (N := 7) rfl ?_); refine box_event ?hg (N := 7) ?hd (cs := #[.int .i64 0, .int .i64 0]) (t := 101) ?hr ?_; (case hd => rfl); (case hg => rfl); (case hr => first | (go_simp; done) | (go_simp; rfl)); intro gs hgs w5 BK5 hb5; have LF := Aside0.mk (show gf < gs by rw [hgs]; exact blk_lt HO.out.fs); have LG := Aside0.mk (show gb < gs by rw [hgs]; exact blk_lt HO.out.obj); replace HO := Aside0.mk (HO.out.below hb5); have BS := Aside0.mk BK5; clear BK5 hb5 hgs; have hf0 := blk_cell HO.out.fs 0; have hf1 := blk_cell HO.out.fs 1; have hf2 := blk_cell HO.out.fs 2) | ((with_reducible refine gate_store (t := 101) rfl ?_); refine wpList_store_whole rfl rfl rfl gs _ #[.int .i64 0, .int .i64 n1] _ rfl rfl BS.out (by kernel_rfl) rfl (two_one _ _) ?_; intro w6 hp; replace HO := Aside0.mk (HO.out.grown (put_grownN hp) (by have := LG.out; have := HO.out.g1; omega) (by have := LG.out; omega) (by have := LF.out; omega)); have BSn := Aside0.mk hp.blk; clear BS hp LF LG; have hs0 := blk_cell BSn.out 0; have hs1 := blk_cell BSn.out 1; clear BSn; have hf0 := blk_cell HO.out.fs 0; have hf1 := blk_cell HO.out.fs 1; have hf2 := blk_cell HO.out.fs 2))
    rw [rounds_succ]
    go_wp2_with (first | (go_at_call 45; refine (chk2.calls a0_0 A0_1 c0_1 l0_1 a0_2 A0_3 c0_3 l0_3 A0_4 c0_4 l0_4 A0_5 c0_5 l0_5 gb _ _ _ (Kd.C_below HR1.out HO.out.low) HC1.out (Kd.C_below HR3.out HO.out.low) HC3.out (Kd.C_below HR4.out HO.out.low) HC4.out (Kd.C_below HR5.out HO.out.low) HC5.out HL4.out HO.out.obj H2.out).mono ?_; rintro e w3 ⟨rfl, hb⟩; replace HO := Aside0.mk (HO.out.below hb); clear hb; have hf0 := blk_cell HO.out.fs 0; have hf1 := blk_cell HO.out.fs 1; have hf2 := blk_cell HO.out.fs 2) | ((with_reducible refine gate_dst (N := 7) rfl ?_); refine box_event ?hg (N := 7) ?hd (cs := #[.int .i64 0, .int .i64 0]) (t := 101) ?hr ?_; (case hd => rfl); (case hg => rfl); (case hr => first | (go_simp; done) | (go_simp; rfl)); intro gs hgs w5 BK5 hb5; have LF := Aside0.mk (show gf < gs by rw [hgs]; exact blk_lt HO.out.fs); have LG := Aside0.mk (show gb < gs by rw [hgs]; exact blk_lt HO.out.obj); replace HO := Aside0.mk (HO.out.below hb5); have BS := Aside0.mk BK5; clear BK5 hb5 hgs; have hf0 := blk_cell HO.out.fs 0; have hf1 := blk_cell HO.out.fs 1; have hf2 := blk_cell HO.out.fs 2) | ((with_reducible refine gate_store (t := 101) rfl ?_); refine wpList_store_whole rfl rfl rfl gs _ #[.int .i64 s2, .int .i64 n2] _ rfl rfl BS.out (by kernel_rfl) rfl (two_one _ _) ?_; intro w6 hp; replace HO := Aside0.mk (HO.out.grown (put_grownN hp) (by have := LG.out; have := HO.out.g1; omega) (by have := LG.out; omega) (by have := LF.out; omega)); have BSn := Aside0.mk hp.blk; clear BS hp LF LG; have hs0 := blk_cell BSn.out 0; have hs1 := blk_cell BSn.out 1; clear BSn; have hf0 := blk_cell HO.out.fs 0; have hf1 := blk_cell HO.out.fs 1; have hf2 := blk_cell HO.out.fs 2))
    repeat (go_quiet (fail); try go_wp2)
    go_ret2
    exact ⟨rfl, by first | exact HO.out.low | exact pw_below_drewN HO.out.low _⟩
  ·
   rw [if_neg k1] at h
   injection h with e1 e2
   subst e1 e2
   have k1b : (s1 != 0) = true := bne_iff_ne.mpr k1
   clear k1 hok
   go_enter Tryd.func11, Tryd.ntmps11
   go_wp2_with (first | ((with_reducible refine gate_dst (N := 1) rfl ?_); refine box_event ?hg (N := 1) ?hd (cs := #[.string a0_0, .slice A0_1 l0_1.length c0_1, .int .i64 a0_2, .slice A0_3 l0_3.length c0_3, .slice A0_4 l0_4.length c0_4, .slice A0_5 l0_5.length c0_5]) (t := 27) ?hr ?_; (case hd => rfl); (case hg => rfl); (case hr => first | (go_simp; done) | (go_simp; rfl)); intro gb hgb w1 BK1 hb1; have HB := Aside0.mk (below_then (Below.refl w.heap.size w) (Nat.le_refl _) hb1); have GB := Aside0.mk (show w.heap.size ≤ gb by rw [hgb]; exact Nat.le_refl _); have BO := Aside0.mk (show w1.heap[gb]? = some (objCell a0_0 A0_1 l0_1.length c0_1 a0_2 A0_3 l0_3.length c0_3 A0_4 l0_4.length c0_4 A0_5 l0_5.length c0_5) from BK1); clear BK1 hb1 hgb) | ((with_reducible refine gate_dst (N := 11) rfl ?_); refine lit_event ?hg (N := 11) ?hd (cs := #[(.func (.func 43) #[] #[.pointer (some ⟨gb, 0, none⟩)]), (.func (.func 45) #[] #[.pointer (some ⟨gb, 0, none⟩)]), (.func (.func 47) #[] #[.pointer (some ⟨gb, 0, none⟩)])]) (e := 103) (n := 3) ?hr ?_; (case hd => rfl); (case hg => rfl); (case hr => first | (go_simp; done) | (go_simp; rfl)); intro gf hgf w2 BK2 hb2; have HO := Aside0.mk (show OC w w2 gb (objCell a0_0 A0_1 l0_1.length c0_1 a0_2 A0_3 l0_3.length c0_3 A0_4 l0_4.length c0_4 A0_5 l0_5.length c0_5) gf from ⟨below_then HB.out HB.out.size hb2, blk_below BO.out hb2, BK2, GB.out, by rw [hgf]; exact HB.out.size⟩); clear HB BO BK2 hb2 hgf GB; have hf0 := blk_cell HO.out.fs 0; have hf1 := blk_cell HO.out.fs 1; have hf2 := blk_cell HO.out.fs 2))
   refine wp_loop_rounds 4 ?_
   rw [rounds_succ]
   go_wp2_with (first | (go_at_call 43; refine (chk1.calls a0_0 A0_1 c0_1 l0_1 a0_2 A0_3 c0_3 l0_3 A0_4 c0_4 l0_4 A0_5 c0_5 l0_5 gb _ _ _ (Kd.C_below HR1.out HO.out.low) HC1.out (Kd.C_below HR3.out HO.out.low) HC3.out (Kd.C_below HR4.out HO.out.low) HC4.out (Kd.C_below HR5.out HO.out.low) HC5.out HO.out.obj H1.out).mono ?_; rintro e w3 ⟨rfl, hb⟩; replace HO := Aside0.mk (HO.out.below hb); clear hb; have hf0 := blk_cell HO.out.fs 0; have hf1 := blk_cell HO.out.fs 1; have hf2 := blk_cell HO.out.fs 2) | ((with_reducible refine gate_dst (N := 7) rfl ?_); refine box_event ?hg (N := 7) ?hd (cs := #[.int .i64 0, .int .i64 0]) (t := 101) ?hr ?_; (case hd => rfl); (case hg => rfl); (case hr => first | (go_simp; done) | (go_simp; rfl)); intro gs hgs w5 BK5 hb5; have LF := Aside0.mk (show gf < gs by rw [hgs]; exact blk_lt HO.out.fs); have LG := Aside0.mk (show gb < gs by rw [hgs]; exact blk_lt HO.out.obj); replace HO := Aside0.mk (HO.out.below hb5); have BS := Aside0.mk BK5; clear BK5 hb5 hgs; have hf0 := blk_cell HO.out.fs 0; have hf1 := blk_cell HO.out.fs 1; have hf2 := blk_cell HO.out.fs 2) | ((with_reducible refine gate_store (t := 101) rfl ?_); refine wpList_store_whole rfl rfl rfl gs _ #[.int .i64 s1, .int .i64 n1] _ rfl rfl BS.out (by kernel_rfl) rfl (two_one _ _) ?_; intro w6 hp; replace HO := Aside0.mk (HO.out.grown (put_grownN hp) (by have := LG.out; have := HO.out.g1; omega) (by have := LG.out; omega) (by have := LF.out; omega)); have BSn := Aside0.mk hp.blk; clear BS hp LF LG; have hs0 := blk_cell BSn.out 0; have hs1 := blk_cell BSn.out 1; clear BSn; have hf0 := blk_cell HO.out.fs 0; have hf1 := blk_cell HO.out.fs 1; have hf2 := blk_cell HO.out.fs 2))
   repeat (go_quiet (fail); try go_wp2)
   go_ret2
   exact ⟨rfl, by first | exact HO.out.low | exact pw_below_drewN HO.out.low _⟩
 ·
  rw [if_neg hw] at h; cases h
end Go.Proofs.YtiaohbbafaaibabDoor.P

/- OWN TEXT: symbol.Resolve, walked: the objects' own checks and names, the names gathered, each symbol bound. -/
namespace Go.Proofs.YtiaohbbafaaibabDoor.P
open Go.RowKit Go.Maps Go.Proofs.YtiaohbbafaaibabDoorW.PrintWords Go.Proofs.YtiaohbbafaaibabDoorW.PrintLast Go.Proofs.YtiaohbbafaaibabDoorW.PrintMore Go.Proofs.YtiaohbbafaaibabDoor.Arr Go.Proofs.YtiaohbbafaaibabDoor.MapB Go.Proofs.YtiaohbbafaaibabDoor.SymM
set_option linter.unusedVariables false
set_option linter.unusedSimpArgs false
theorem chk_named {nm : ByteArray} {code : List Int} {dat : Int} {data : List Int} {syms : List Sym} {rels : List Rel} {n : Int} (h : object_Check.f nm code dat data syms rels = some (0, n)) : nameS nm = true := by
 unfold object_Check.f at h
 split at h
 ·
  have h := Option.some.inj h
  unfold chkO at h
  cases hn : nameS nm with
  | true => rfl
  | false =>
   have : sizeS nm code dat data syms.length rels.length = (20, -1) := by unfold sizeS; rw [hn, if_neg (by decide)]
   rw [this, if_neg (by decide)] at h
   injection h with h
   exact absurd h (by decide)
 ·
  cases h
theorem results_four {fn : Func} {t u v x : Tmp} (h : fn.results = #[.tmp t, .tmp u, .tmp v, .tmp x]) (tmps : Array Value) (P : Program) (w : World) :
  (results fn tmps).run P w = .ok (.tuple #[tmps.getD t undef, tmps.getD u undef, tmps.getD v undef, tmps.getD x undef]) w := by
 simp [results, h]
theorem info_def : (Tryd.prog.info? 59).map (fun i => (i.zero, i.size, i.bytes)) = some (some (.agg #[.int .i64 0, .int .i64 0]), 2, 16) := by kernel_rfl
theorem info_row : (Tryd.prog.info? 62).map (fun i => (i.zero, i.size, i.bytes)) = some (some (.slice none 0 0), 1, 24) := by kernel_rfl
set_option maxHeartbeats 8000000 in
set_option maxRecDepth 100000 in
theorem symRes.calls (A0 : Option Addr) (c0 : Nat) (l0 : List ObjT) (w : World) (d : List (List DefT)) (r2 r3 r4 : Int) (hr0 : Kd.C k27 w A0 l0.length l0) (hsy : ∀ i, i < l0.length → (ob l0 i).f4.length ≤ 1000000000) (h : resolveR l0 = some (d, r2, r3, r4)) :
  Calls Tryd.prog 21 #[.slice A0 l0.length c0] w fun e w' => ∃ v0_ : Value, e = .returned (.tuple #[v0_, .int .i64 r2, .int .i64 r3, .int .i64 r4]) ∧ RowsIs w' w.heap.size (fun _ => True) v0_ d ∧ Below w.heap.size w w' := by
 have hu1 := Tryd.underlying75
 have hu2 := Tryd.underlying27
 have hu3 := Tryd.underlying59
 have hu4 := Tryd.underlying130
 have HR := Aside0.mk hr0
 have HSY := Aside0.mk hsy
 clear hr0 hsy
 unfold resolveR at h
 by_cases c : (l0.length : Int) > 32
 ·
  rw [if_pos c] at h
  simp only [Option.some.injEq, Prod.mk.injEq] at h
  obtain ⟨rfl, rfl, rfl, rfl⟩ := h
  have cb : decide ((l0.length : Int) > 32) = true := decide_eq_true c
  clear c
  go_enter Tryd.func21, Tryd.ntmps21
  go_wp2_with (first | ((with_reducible refine gate_dst (N := 1) rfl ?_); refine box_event ?hg (N := 1) ?hd (cs := #[.slice A0 l0.length c0]) (t := 43) ?hr ?_; (case hd => rfl); (case hg => rfl); (case hr => first | (go_simp; done) | (go_simp; rfl)); intro gl hgl w1 BK1 hb1; have BL := Aside0.mk BK1; have hcl : w1.cell? ⟨gl, 0, none⟩ = some (.slice A0 l0.length c0) := (blk_cell BK1 0).trans rfl; have GL := Aside0.mk (show w.heap.size ≤ gl by rw [hgl]; exact Nat.le_refl _); have HB := Aside0.mk hb1; clear BK1 hb1 hgl))
  go_step3
  go_wp2
  (try rw [Exit.noGoto_ret])
  (try simp only [Exit.inBlock, Exit.then])
  refine bodyPost_ret (results_four rfl _ _ _) rfl ?_
  exact ⟨_, rfl, Kd.S_nil _ _ _ _ _, HB.out⟩
 ·
  rw [if_neg c] at h
  have HN := Aside0.mk (show chkSy l0 l0.length ≠ none from fun e => by rw [e] at h; cases h)
  have HH := Aside0.mk h
  have H32 := Aside0.mk (show l0.length ≤ 32 by omega)
  have cb : decide ((l0.length : Int) > 32) = false := decide_eq_false c
  clear c h
  go_enter Tryd.func21, Tryd.ntmps21
  go_wp2_with (first | ((with_reducible refine gate_dst (N := 1) rfl ?_); refine box_event ?hg (N := 1) ?hd (cs := #[.slice A0 l0.length c0]) (t := 43) ?hr ?_; (case hd => rfl); (case hg => rfl); (case hr => first | (go_simp; done) | (go_simp; rfl)); intro gl hgl w1 BK1 hb1; have BL := Aside0.mk BK1; have hcl : w1.cell? ⟨gl, 0, none⟩ = some (.slice A0 l0.length c0) := (blk_cell BK1 0).trans rfl; have GL := Aside0.mk (show w.heap.size ≤ gl by rw [hgl]; exact Nat.le_refl _); have HB := Aside0.mk hb1; clear BK1 hb1 hgl))
  go_step3
  go_wp2_with (first | ((with_reducible refine gate_dst (N := 22) rfl ?_); refine wpList_make_map (P := Tryd.prog) (k := 9) (e := 4) (t := 129) ?hg (N := 22) ?hd ?ho ?hr ?_; (case hd => rfl); (case hg => rfl); (case ho => rfl); (case hr => first | (go_simp; done) | (go_simp; rfl)); intro b hgb w2 hs0 hb; have HO := Aside0.mk (show R1 w w2 gl b 0 (lCell A0 l0.length c0) (fun _ => false) from ⟨below_then HB.out HB.out.size hb, blk_below BL.out hb, hs0, by rw [hgb]; exact Nat.ne_of_lt (blk_lt BL.out), GL.out, by rw [hgb]; exact HB.out.size⟩); clear HB BL GL hcl hs0 hb hgb; have hcl : w2.cell? ⟨gl, 0, none⟩ = some (.slice A0 l0.length c0) := (blk_cell HO.out.hl 0).trans rfl))
  go_loopw [3, 25] (fun u3 u25 wr => u3 = .int .i64 0 ∧ ∃ i : Nat, u25 = .int .i64 (i : Int) ∧ i ≤ l0.length ∧ Aside0 (chkSy l0 i = some none) ∧ Aside0 (R1 w wr gl b i (lCell A0 l0.length c0) (objSeen l0 i))) (fun u3 u25 _ => l0.length - (intOf u25).toNat)
  case atStart => exact ⟨rfl, 0, rfl, Nat.zero_le _, ⟨rfl⟩, HO⟩
  case round =>
   clear HO hcl
   obtain ⟨rfl, i, rfl, hile, HF, HO⟩ := hrel
   by_cases hlt : i < l0.length
   ·
    obtain ⟨e, n, hck, hways⟩ := chkR_round l0 i hlt HF.out HN.out
    have p0 : (0 : Int) ≤ (i : Int) := by omega
    have q0 : (i : Int) < (l0.length : Int) := by omega
    obtain ⟨ad, A1, c1, A3, c3, A4, c4, A5, c5, eA, hx0, hx1, hx2, hx3, hx4, hx5, hL1, hC1, hL3, hC3, hL4, hC4, hL5, hC5⟩ := at_T27 HR.out (i : Int) p0 q0
    subst eA
    rw [show ((i : Int)).toNat = i by omega] at hx0 hx1 hx2 hx3 hx4 hx5
    rw [show rd_T27 l0 (i : Int) = ob l0 i from rfl] at hx0 hx1 hx2 hx3 hx4 hx5 hL1 hC1 hL3 hC3 hL4 hC4 hL5 hC5
    have hy0 := pw_cell_below HO.out.low hx0
    have hy1 := pw_cell_below HO.out.low hx1
    have hy2 := pw_cell_below HO.out.low hx2
    have hy3 := pw_cell_below HO.out.low hx3
    have hy4 := pw_cell_below HO.out.low hx4
    have hy5 := pw_cell_below HO.out.low hx5
    clear hx0 hx1 hx2 hx3 hx4 hx5
    have hos : objSeen l0 (i + 1) = addS (objSeen l0 i) (keyN (ob l0 i).f0) := rfl
    obtain ⟨x, hx⟩ : ∃ x, ob l0 i = x := ⟨_, rfl⟩
    rw [hx] at hy0 hy1 hy2 hy3 hy4 hy5 hL1 hC1 hL3 hC3 hL4 hC4 hL5 hC5 hck hways hos
    obtain ⟨x0, x1, x2, x3, x4, x5⟩ := x
    simp only at hy0 hy1 hy2 hy3 hy4 hy5 hL1 hC1 hL3 hC3 hL4 hC4 hL5 hC5 hck hways hos
    clear hx
    have HOS := Aside0.mk hos
    have HCK := Aside0.mk hck
    have C1 := Aside0.mk (And.intro hL1 hC1)
    have C3 := Aside0.mk (And.intro hL3 hC3)
    have C4 := Aside0.mk (And.intro hL4 hC4)
    have C5 := Aside0.mk (And.intro hL5 hC5)
    clear hos hck hL1 hC1 hL3 hC3 hL4 hC4 hL5 hC5
    have HLT := Aside0.mk hlt
    have hltb : decide ((i : Int) < (l0.length : Int)) = true := decide_eq_true (by omega)
    have HWR := Aside0.mk (show wrap64 ((i : Int) + 1) = ((i + 1 : Nat) : Int) by rw [wrap64_id (by have := H32.out; omega) (by have := H32.out; omega)]; rfl)
    replace p0 := eq_true p0
    replace q0 := eq_true q0
    rcases hways with ⟨he, hfin⟩ | ⟨he, hm, hfin⟩ | ⟨he, hm, hnext⟩
    ·
     have cne : (e != 0) = true := bne_iff_ne.mpr he
     clear he
     have h := HH.out
     rw [hfin] at h
     simp only [Option.some.injEq, Prod.mk.injEq] at h
     obtain ⟨rfl, rfl, rfl, rfl⟩ := h
     clear hfin
     clear HH
     go_wp2_with (first | ((with_reducible refine gate_dst (N := 8) rfl ?_); refine box_event ?hg (N := 8) ?hd (cs := #[.string (⟨#[]⟩ : ByteArray), .slice none 0 0, .int .i64 0, .slice none 0 0, .slice none 0 0, .slice none 0 0]) (t := 27) ?hr ?_; (case hd => rfl); (case hg => rfl); (case hr => first | (go_simp; done) | (go_simp; rfl)); intro go hgo w3 BK3 hb3; have BO := Aside0.mk BK3; have GO := Aside0.mk (show w.heap.size ≤ go by rw [hgo]; exact HO.out.low.size); have NO := Aside0.mk (show gl < go ∧ b < go by rw [hgo]; exact ⟨blk_lt HO.out.hl, HO.out.seen.lt⟩); replace HO := Aside0.mk (HO.out.below hb3); clear BK3 hb3 hgo) | ((with_reducible refine gate_store (t := 27) rfl ?_); refine wpList_store_whole rfl rfl rfl go _ #[.string x0, .slice A1 x1.length c1, .int .i64 x2, .slice A3 x3.length c3, .slice A4 x4.length c4, .slice A5 x5.length c5] _ rfl rfl BO.out (by kernel_rfl) rfl (obj_oneS _ _ _ _ _ _ _ _ _ _ _ _ _ _) ?_; intro w4 hp; replace HO := Aside0.mk (HO.out.put hp GO.out (by have := NO.out; omega) (by have := NO.out; omega)); replace BO := Aside0.mk hp.blk; clear hp; have ho0 := blk_cell BO.out 0; have ho1 := blk_cell BO.out 1; have ho2 := blk_cell BO.out 2; have ho3 := blk_cell BO.out 3; have ho4 := blk_cell BO.out 4; have ho5 := blk_cell BO.out 5) | (go_at_call 11; refine (object_Check.calls x0 A1 c1 x1 x2 A3 c3 x3 A4 c4 x4 A5 c5 x5 e n _ (Kd.C_below C1.out.2 HO.out.low) C1.out.1 (Kd.C_below C3.out.2 HO.out.low) C3.out.1 (Kd.C_below C4.out.2 HO.out.low) C4.out.1 (Kd.C_below C5.out.2 HO.out.low) C5.out.1 HCK.out).mono ?_; rintro e_ w7 ⟨rfl, hb⟩; replace HO := Aside0.mk (HO.out.below hb); replace BO := Aside0.mk (blk_below BO.out hb); clear hb ho0 ho1 ho2 ho3 ho4 ho5; have ho0 := blk_cell BO.out 0; have ho1 := blk_cell BO.out 1; have ho2 := blk_cell BO.out 2; have ho3 := blk_cell BO.out 3; have ho4 := blk_cell BO.out 4; have ho5 := blk_cell BO.out 5))
     (try rw [Exit.noGoto_ret])
     (try simp only [Exit.inBlock, Exit.then])
     refine bodyPost_ret (results_four rfl _ _ _) rfl ?_
     exact ⟨_, rfl, Kd.S_nil _ _ _ _ _, HO.out.low⟩
    ·
     subst he
     have HM := Aside0.mk hm
     clear hm
     have h := HH.out
     rw [hfin] at h
     simp only [Option.some.injEq, Prod.mk.injEq] at h
     obtain ⟨rfl, rfl, rfl, rfl⟩ := h
     clear hfin
     clear HH
     have HKY := Aside0.mk (show keyOf Tryd.prog 9 (.string x0) = some (keyN x0) from Go.WideMaps.keyOf_string_mk Tryd.underlying9 (by have := nameS_len (chk_named HCK.out); unfold maxLen; omega))
     go_wp2_with (first | ((with_reducible refine gate_dst (N := 8) rfl ?_); refine box_event ?hg (N := 8) ?hd (cs := #[.string (⟨#[]⟩ : ByteArray), .slice none 0 0, .int .i64 0, .slice none 0 0, .slice none 0 0, .slice none 0 0]) (t := 27) ?hr ?_; (case hd => rfl); (case hg => rfl); (case hr => first | (go_simp; done) | (go_simp; rfl)); intro go hgo w3 BK3 hb3; have BO := Aside0.mk BK3; have GO := Aside0.mk (show w.heap.size ≤ go by rw [hgo]; exact HO.out.low.size); have NO := Aside0.mk (show gl < go ∧ b < go by rw [hgo]; exact ⟨blk_lt HO.out.hl, HO.out.seen.lt⟩); replace HO := Aside0.mk (HO.out.below hb3); clear BK3 hb3 hgo) | ((with_reducible refine gate_store (t := 27) rfl ?_); refine wpList_store_whole rfl rfl rfl go _ #[.string x0, .slice A1 x1.length c1, .int .i64 x2, .slice A3 x3.length c3, .slice A4 x4.length c4, .slice A5 x5.length c5] _ rfl rfl BO.out (by kernel_rfl) rfl (obj_oneS _ _ _ _ _ _ _ _ _ _ _ _ _ _) ?_; intro w4 hp; replace HO := Aside0.mk (HO.out.put hp GO.out (by have := NO.out; omega) (by have := NO.out; omega)); replace BO := Aside0.mk hp.blk; clear hp; have ho0 := blk_cell BO.out 0; have ho1 := blk_cell BO.out 1; have ho2 := blk_cell BO.out 2; have ho3 := blk_cell BO.out 3; have ho4 := blk_cell BO.out 4; have ho5 := blk_cell BO.out 5) | (go_at_call 11; refine (object_Check.calls x0 A1 c1 x1 x2 A3 c3 x3 A4 c4 x4 A5 c5 x5 0 n _ (Kd.C_below C1.out.2 HO.out.low) C1.out.1 (Kd.C_below C3.out.2 HO.out.low) C3.out.1 (Kd.C_below C4.out.2 HO.out.low) C4.out.1 (Kd.C_below C5.out.2 HO.out.low) C5.out.1 HCK.out).mono ?_; rintro e_ w7 ⟨rfl, hb⟩; replace HO := Aside0.mk (HO.out.below hb); replace BO := Aside0.mk (blk_below BO.out hb); clear hb ho0 ho1 ho2 ho3 ho4 ho5; have ho0 := blk_cell BO.out 0; have ho1 := blk_cell BO.out 1; have ho2 := blk_cell BO.out 2; have ho3 := blk_cell BO.out 3; have ho4 := blk_cell BO.out 4; have ho5 := blk_cell BO.out 5) | (at_lookup; refine wpList_lookup_seen rfl _ _ 129 rfl 9 4 lawN Tryd.underlying129 Tryd.underlying4 (zeroBN _) b _ _ rfl HO.out.seen _ _ rfl HKY.out trivial ?_; rw [HM.out]))
     (try rw [Exit.noGoto_ret])
     (try simp only [Exit.inBlock, Exit.then])
     refine bodyPost_ret (results_four rfl _ _ _) rfl ?_
     exact ⟨_, rfl, Kd.S_nil _ _ _ _ _, HO.out.low⟩
    ·
     subst he
     have HM := Aside0.mk hm
     have HNX := Aside0.mk hnext
     clear hm hnext
     have HKY := Aside0.mk (show keyOf Tryd.prog 9 (.string x0) = some (keyN x0) from Go.WideMaps.keyOf_string_mk Tryd.underlying9 (by have := nameS_len (chk_named HCK.out); unfold maxLen; omega))
     go_wp2_with (first | ((with_reducible refine gate_dst (N := 8) rfl ?_); refine box_event ?hg (N := 8) ?hd (cs := #[.string (⟨#[]⟩ : ByteArray), .slice none 0 0, .int .i64 0, .slice none 0 0, .slice none 0 0, .slice none 0 0]) (t := 27) ?hr ?_; (case hd => rfl); (case hg => rfl); (case hr => first | (go_simp; done) | (go_simp; rfl)); intro go hgo w3 BK3 hb3; have BO := Aside0.mk BK3; have GO := Aside0.mk (show w.heap.size ≤ go by rw [hgo]; exact HO.out.low.size); have NO := Aside0.mk (show gl < go ∧ b < go by rw [hgo]; exact ⟨blk_lt HO.out.hl, HO.out.seen.lt⟩); replace HO := Aside0.mk (HO.out.below hb3); clear BK3 hb3 hgo) | ((with_reducible refine gate_store (t := 27) rfl ?_); refine wpList_store_whole rfl rfl rfl go _ #[.string x0, .slice A1 x1.length c1, .int .i64 x2, .slice A3 x3.length c3, .slice A4 x4.length c4, .slice A5 x5.length c5] _ rfl rfl BO.out (by kernel_rfl) rfl (obj_oneS _ _ _ _ _ _ _ _ _ _ _ _ _ _) ?_; intro w4 hp; replace HO := Aside0.mk (HO.out.put hp GO.out (by have := NO.out; omega) (by have := NO.out; omega)); replace BO := Aside0.mk hp.blk; clear hp; have ho0 := blk_cell BO.out 0; have ho1 := blk_cell BO.out 1; have ho2 := blk_cell BO.out 2; have ho3 := blk_cell BO.out 3; have ho4 := blk_cell BO.out 4; have ho5 := blk_cell BO.out 5) | (go_at_call 11; refine (object_Check.calls x0 A1 c1 x1 x2 A3 c3 x3 A4 c4 x4 A5 c5 x5 0 n _ (Kd.C_below C1.out.2 HO.out.low) C1.out.1 (Kd.C_below C3.out.2 HO.out.low) C3.out.1 (Kd.C_below C4.out.2 HO.out.low) C4.out.1 (Kd.C_below C5.out.2 HO.out.low) C5.out.1 HCK.out).mono ?_; rintro e_ w7 ⟨rfl, hb⟩; replace HO := Aside0.mk (HO.out.below hb); replace BO := Aside0.mk (blk_below BO.out hb); clear hb ho0 ho1 ho2 ho3 ho4 ho5; have ho0 := blk_cell BO.out 0; have ho1 := blk_cell BO.out 1; have ho2 := blk_cell BO.out 2; have ho3 := blk_cell BO.out 3; have ho4 := blk_cell BO.out 4; have ho5 := blk_cell BO.out 5) | (at_lookup; refine wpList_lookup_seen rfl _ _ 129 rfl 9 4 lawN Tryd.underlying129 Tryd.underlying4 (zeroBN _) b _ _ rfl HO.out.seen _ _ rfl HKY.out trivial ?_; rw [HM.out]) | (at_mapUpdate; refine wpList_update_seen rfl _ _ _ 129 rfl 9 4 lawN Tryd.underlying129 Tryd.underlying4 b _ _ rfl HO.out.seen (by have := H32.out; have := HLT.out; unfold maxLen; omega) _ _ rfl rfl HKY.out trivial ?_; intro w8 hs8 hg8; replace HO := Aside0.mk (HO.out.add hg8 hs8); clear hs8 hg8))
     go_roundw
     case measure => have hq := HLT.out; (try rw [HWR.out]); simp only [intOf]; omega
     case rel => exact ⟨rfl, i + 1, by first | rfl | (rw [HWR.out]; done), by have := HLT.out; omega, HNX, ⟨by rw [HOS.out]; exact HO.out⟩⟩
   ·
    have hi0 : i = l0.length := by omega
    subst hi0
    have h := HH.out
    rw [HF.out] at h
    simp only at h
    clear HH
    have HH := Aside0.mk h
    clear h HF HN hlt hile
    have hltb : decide ((l0.length : Int) < (l0.length : Int)) = false := by simp
    have hcl : wr.cell? ⟨gl, 0, none⟩ = some (.slice A0 l0.length c0) := (blk_cell HO.out.hl 0).trans rfl
    obtain ⟨at_, hat_⟩ : ∃ at_, aObj l0 l0.length = at_ := ⟨_, rfl⟩
    have h := HH.out
    rw [hat_] at h
    clear HH
    have HAT := Aside0.mk hat_
    clear hat_
    obtain ⟨a0, a1⟩ := at_
    simp only at h
    by_cases ca : 0 ≤ a0
    ·
     have cab : decide (a0 ≥ 0) = true := decide_eq_true ca
     rw [if_pos ca] at h
     simp only [Option.some.injEq, Prod.mk.injEq] at h
     obtain ⟨rfl, rfl, rfl, rfl⟩ := h
     clear ca
     go_wp2_with (first | ((with_reducible refine gate_dst (N := 11) rfl ?_); refine box_event ?hg (N := 11) ?hd (cs := #[.int .i64 0, .int .i64 0]) (t := 130) ?hr ?_; (case hd => rfl); (case hg => rfl); (case hr => first | (go_simp; done) | (go_simp; rfl)); intro ga hga w9 BK9 hb9; have BA := Aside0.mk BK9; have GA := Aside0.mk (show w.heap.size ≤ ga by rw [hga]; exact HO.out.low.size); have NA := Aside0.mk (show gl < ga ∧ b < ga by rw [hga]; exact ⟨blk_lt HO.out.hl, HO.out.seen.lt⟩); replace HO := Aside0.mk (HO.out.below hb9); clear BK9 hb9 hga hcl; have hcl : w9.cell? ⟨gl, 0, none⟩ = some (.slice A0 l0.length c0) := (blk_cell HO.out.hl 0).trans rfl) | ((with_reducible refine gate_store (t := 130) rfl ?_); refine wpList_store_whole rfl rfl rfl ga _ #[.int .i64 (-1), .int .i64 (-1)] _ rfl rfl BA.out (by kernel_rfl) rfl (at_one _ _) ?_; intro w10 hp; replace HO := Aside0.mk (HO.out.put hp GA.out (by have := NA.out; omega) (by have := NA.out; omega)); replace BA := Aside0.mk (show w10.heap[ga]? = some (atCell (-1) (-1)) from hp.blk); clear hp hcl; have hcl : w10.cell? ⟨gl, 0, none⟩ = some (.slice A0 l0.length c0) := (blk_cell HO.out.hl 0).trans rfl) | (go_at_call 65; refine (gatherB.calls w ga gl A0 c0 l0 _ HR.out HO.out.low BA.out HO.out.hl GA.out (by have := NA.out; omega) (by have := H32.out; omega) HSY.out).mono ?_; rintro e_ w11 ⟨bm, rfl, hgb⟩; rw [HAT.out] at hgb; have HG := Aside0.mk hgb; clear HO BA hgb hcl; have hcl : w11.cell? ⟨gl, 0, none⟩ = some (.slice A0 l0.length c0) := (blk_cell HG.out.hl 0).trans rfl; have hat0 := blk_cell HG.out.hat 0; have hat1 := blk_cell HG.out.hat 1))
     repeat (go_quiet (fail); try go_wp2)
     (try rw [Exit.noGoto_ret])
     (try simp only [Exit.inBlock, Exit.then])
     refine bodyPost_ret (results_four rfl _ _ _) rfl ?_
     exact ⟨_, rfl, Kd.S_nil _ _ _ _ _, pw_below_drewN HG.out.low _⟩
    ·
     have cab : decide (a0 ≥ 0) = false := decide_eq_false ca
     rw [if_neg ca] at h
     have HH := Aside0.mk h
     have HCA := Aside0.mk ca
     clear h ca
     go_wp2_with (first | ((with_reducible refine gate_dst (N := 11) rfl ?_); refine box_event ?hg (N := 11) ?hd (cs := #[.int .i64 0, .int .i64 0]) (t := 130) ?hr ?_; (case hd => rfl); (case hg => rfl); (case hr => first | (go_simp; done) | (go_simp; rfl)); intro ga hga w9 BK9 hb9; have BA := Aside0.mk BK9; have GA := Aside0.mk (show w.heap.size ≤ ga by rw [hga]; exact HO.out.low.size); have NA := Aside0.mk (show gl < ga ∧ b < ga by rw [hga]; exact ⟨blk_lt HO.out.hl, HO.out.seen.lt⟩); replace HO := Aside0.mk (HO.out.below hb9); clear BK9 hb9 hga hcl; have hcl : w9.cell? ⟨gl, 0, none⟩ = some (.slice A0 l0.length c0) := (blk_cell HO.out.hl 0).trans rfl) | ((with_reducible refine gate_store (t := 130) rfl ?_); refine wpList_store_whole rfl rfl rfl ga _ #[.int .i64 (-1), .int .i64 (-1)] _ rfl rfl BA.out (by kernel_rfl) rfl (at_one _ _) ?_; intro w10 hp; replace HO := Aside0.mk (HO.out.put hp GA.out (by have := NA.out; omega) (by have := NA.out; omega)); replace BA := Aside0.mk (show w10.heap[ga]? = some (atCell (-1) (-1)) from hp.blk); clear hp hcl; have hcl : w10.cell? ⟨gl, 0, none⟩ = some (.slice A0 l0.length c0) := (blk_cell HO.out.hl 0).trans rfl) | (go_at_call 65; refine (gatherB.calls w ga gl A0 c0 l0 _ HR.out HO.out.low BA.out HO.out.hl GA.out (by have := NA.out; omega) (by have := H32.out; omega) HSY.out).mono ?_; rintro e_ w11 ⟨bm, rfl, hgb⟩; rw [HAT.out] at hgb; have HG := Aside0.mk hgb; clear HO BA hgb hcl; have hcl : w11.cell? ⟨gl, 0, none⟩ = some (.slice A0 l0.length c0) := (blk_cell HG.out.hl 0).trans rfl; have hat0 := blk_cell HG.out.hat 0; have hat1 := blk_cell HG.out.hat 1) | ((with_reducible refine gate_dst (N := 62) rfl ?_); refine Kd.S_make (Kd.slice 59 k59) _ 62 rfl (N := 62) rfl 55 _ _ rfl (l0.length : Int) rfl rfl Tryd.underlying55 (.slice none 0 0) 24 info_row rfl (by decide) (by omega) [] (ok := fun _ => True) (okp := fun _ => True) (Kd.M_row (Kd.R_nil _ _ _ _ _)) (fun _ hk => hk) trivial (by omega) (by have := H32.out; omega) (Below.refl _ _) (Nat.le_refl _) ?_; intro v1 w12 ho6 hb hg_ hnew_; clear hg_; rw [show ((l0.length : Int)).toNat = l0.length by omega] at ho6; obtain ⟨A2, c2, ev⟩ := Kd.S_slice ho6; obtain ⟨gd, hgd, _⟩ := hnew_; subst ev; obtain ⟨g2, rfl⟩ : ∃ g2, A2 = some g2 := (by cases A2 with | none => (simp [Value.ownBlock] at hgd) | some g2 => exact ⟨g2, rfl⟩); obtain ⟨g3, rfl⟩ := Kd.R_head (Kd.S_R ho6); rw [List.length_replicate] at ho6; have H2 := Aside0.mk (show R2 w w12 ga gl bm (a0, a1) (lCell A0 l0.length c0) (gObj l0 l0.length) (fun _ => True) (.slice (some ⟨g3, 0, none⟩) l0.length c2) (List.replicate l0.length []) from ⟨below_then HG.out.low HG.out.low.size hb, HG.out.nm.below hb, blk_below HG.out.hat hb, blk_below HG.out.hl hb, Kd.S_lower ho6 HG.out.low.size, HG.out.oa⟩); clear HG hb ho6 hgd hcl hat0 hat1; have hcl : w12.cell? ⟨gl, 0, none⟩ = some (.slice A0 l0.length c0) := (blk_cell H2.out.hl 0).trans rfl))
     go_step3
     go_wp2
     obtain ⟨L, hL⟩ : ∃ L, gObj l0 l0.length = L := ⟨_, rfl⟩
     have h2 := H2.out
     have h := HH.out
     rw [hL] at h2 h
     clear H2 HH
     have H2 := Aside0.mk h2
     have HH := Aside0.mk h
     clear h2 h hL cb hltb
     go_loopw [3, 65] (fun u3 u65 wr => u3 = .int .i64 0 ∧ ∃ i : Nat, u65 = .int .i64 (i : Int) ∧ i ≤ l0.length ∧ Aside0 ((rowsX L l0 i).2 = none) ∧ Aside0 (R2 w wr ga gl bm (a0, a1) (lCell A0 l0.length c0) L (fun _ => True) (.slice (some ⟨g3, 0, none⟩) l0.length c2) ((rowsX L l0 i).1 ++ List.replicate (l0.length - i) []))) (fun u3 u65 _ => l0.length - (intOf u65).toNat)
     case atStart => exact ⟨rfl, 0, rfl, Nat.zero_le _, ⟨rfl⟩, H2⟩
     case round =>
      clear H2 hcl
      obtain ⟨rfl, i, rfl, hile, HF, H2⟩ := hrel
      by_cases hlt : i < l0.length
      ·
       have hsl := HSY.out i hlt
       have p0 : (0 : Int) ≤ (i : Int) := by omega
       have q0 : (i : Int) < (l0.length : Int) := by omega
       obtain ⟨ad, A1, c1, A3, c3, A4, c4, A5, c5, eA, hx0, hx1, hx2, hx3, hx4, hx5, hL1, hC1, hL3, hC3, hL4, hC4, hL5, hC5⟩ := at_T27 HR.out (i : Int) p0 q0
       subst eA
       rw [show ((i : Int)).toNat = i by omega] at hx0 hx1 hx2 hx3 hx4 hx5
       rw [show rd_T27 l0 (i : Int) = ob l0 i from rfl] at hx0 hx1 hx2 hx3 hx4 hx5 hL1 hC1 hL3 hC3 hL4 hC4 hL5 hC5
       have hy0 := pw_cell_below H2.out.low hx0
       have hy1 := pw_cell_below H2.out.low hx1
       have hy2 := pw_cell_below H2.out.low hx2
       have hy3 := pw_cell_below H2.out.low hx3
       have hy4 := pw_cell_below H2.out.low hx4
       have hy5 := pw_cell_below H2.out.low hx5
       clear hx0 hx1 hx2 hx3 hx4 hx5
       have h2 := H2.out
       rw [rep_step _ _ _ hlt] at h2
       clear H2
       have H2 := Aside0.mk h2
       clear h2
       have HST := Aside0.mk (fun (h : (rowX L (ob l0 i).f4 (i : Int) (ob l0 i).f4.length).2 = none) => rowsX_step HF.out h)
       have HSP := Aside0.mk (fun (j : Nat) (h2 : (rowX L (ob l0 i).f4 (i : Int) j).2 = none) (h3 : symX L (i : Int) (sy (ob l0 i).f4 j) = none) (hj : j < (ob l0 i).f4.length) => rowsX_stop HF.out h2 h3 hlt hj)
       have HRL := Aside0.mk (rowsX_length L l0 i HF.out)
       obtain ⟨x, hx⟩ : ∃ x, ob l0 i = x := ⟨_, rfl⟩
       rw [hx] at hy0 hy1 hy2 hy3 hy4 hy5 hC4 hsl HST HSP
       clear hL1 hC1 hL3 hC3 hL4 hL5 hC5 hx
       obtain ⟨x0, x1, x2, x3, x4, x5⟩ := x
       simp only at hy0 hy1 hy2 hy3 hy4 hy5 hC4 hsl HST HSP
       have HSL := Aside0.mk hsl
       have HC4 := Aside0.mk hC4
       clear hsl hC4
       have HLT := Aside0.mk hlt
       have hltb : decide ((i : Int) < (l0.length : Int)) = true := decide_eq_true (by omega)
       have HWR := Aside0.mk (show wrap64 ((i : Int) + 1) = ((i + 1 : Nat) : Int) by rw [wrap64_id (by have := H32.out; omega) (by have := H32.out; omega)]; rfl)
       replace p0 := eq_true p0
       replace q0 := eq_true q0
       go_wp2_with (first | ((with_reducible refine gate_dst (N := 14) rfl ?_); refine box_event ?hg (N := 14) ?hd (cs := #[.string (⟨#[]⟩ : ByteArray), .slice none 0 0, .int .i64 0, .slice none 0 0, .slice none 0 0, .slice none 0 0]) (t := 27) ?hr ?_; (case hd => rfl); (case hg => rfl); (case hr => first | (go_simp; done) | (go_simp; rfl)); intro go hgo w13 BK3 hb3; have BO := Aside0.mk BK3; have GO := Aside0.mk (show w.heap.size ≤ go by rw [hgo]; exact H2.out.low.size); have NO := Aside0.mk (show ga < go ∧ gl < go ∧ bm < go by rw [hgo]; exact ⟨blk_lt H2.out.hat, blk_lt H2.out.hl, H2.out.nm.lt⟩); replace H2 := Aside0.mk (H2.out.box hb3 (show _ ≤ go by rw [hgo]; exact Nat.le_refl _)); clear BK3 hb3 hgo) | ((with_reducible refine gate_store (t := 27) rfl ?_); refine wpList_store_whole rfl rfl rfl go _ #[.string x0, .slice A1 x1.length c1, .int .i64 x2, .slice A3 x3.length c3, .slice A4 x4.length c4, .slice A5 x5.length c5] _ rfl rfl BO.out (by kernel_rfl) rfl (obj_oneS _ _ _ _ _ _ _ _ _ _ _ _ _ _) ?_; intro w14 hp; replace H2 := Aside0.mk (H2.out.put hp GO.out (by have := NO.out; omega) (by have := NO.out; omega) (by have := NO.out; omega) (fun k hk => hk.2)); replace BO := Aside0.mk hp.blk; clear hp; have ho0 := blk_cell BO.out 0; have ho4 := blk_cell BO.out 4))
       have h2 := H2.out.mono (ok' := fun _ => True) (fun _ _ => trivial)
       clear H2
       have H2 := Aside0.mk h2
       clear h2
       go_loopw [3, 73] (fun u3 u73 wr => u3 = .int .i64 0 ∧ ∃ j : Nat, u73 = .int .i64 (j : Int) ∧ j ≤ x4.length ∧ Aside0 ((rowX L x4 (i : Int) j).2 = none) ∧ Aside0 (R2 w wr ga gl bm (a0, a1) (lCell (some ad) l0.length c0) L (fun _ => True) (.slice (some ⟨g3, 0, none⟩) l0.length c2) ((rowsX L l0 i).1 ++ (rowX L x4 (i : Int) j).1 :: List.replicate (l0.length - (i + 1)) []))) (fun u3 u73 _ => x4.length - (intOf u73).toNat)
       case atStart => exact ⟨rfl, 0, rfl, Nat.zero_le _, ⟨rfl⟩, H2⟩
       case round =>
        clear H2 ho0 ho4 BO GO NO hy0 hy1 hy2 hy3 hy4 hy5
        obtain ⟨rfl, j, rfl, hjle, HFR, H2⟩ := hrel
        by_cases hlt2 : j < x4.length
        ·
         have p1 : (0 : Int) ≤ (j : Int) := by omega
         have q1 : (j : Int) < (x4.length : Int) := by omega
         obtain ⟨as_, eS, hz0, hz1, hz2⟩ := at_T75 HC4.out (j : Int) p1 q1
         subst eS
         rw [show ((j : Int)).toNat = j by omega] at hz0 hz1 hz2
         rw [show rd_T75 x4 (j : Int) = sy x4 j from rfl] at hz0 hz1 hz2
         have hw0 := pw_cell_below H2.out.low hz0
         have hw1 := pw_cell_below H2.out.low hz1
         have hw2 := pw_cell_below H2.out.low hz2
         clear hz0 hz1 hz2
         have HXS := Aside0.mk (fun (x : DefT) (hx : symX L (i : Int) (sy x4 j) = some x) => rowX_step HFR.out hx)
         have HXP := Aside0.mk (fun (hx : symX L (i : Int) (sy x4 j) = none) => HSP.out j HFR.out hx hlt2)
         have HRN := Aside0.mk (rowX_length L x4 (i : Int) j HFR.out)
         obtain ⟨sv, hsv⟩ : ∃ sv, sy x4 j = sv := ⟨_, rfl⟩
         rw [hsv] at hw0 hw1 hw2 HXS HXP
         clear hsv
         obtain ⟨sn, sk, sa⟩ := sv
         simp only at hw0 hw1 hw2
         obtain ⟨fr, hfr⟩ : ∃ fr, findR L sn = fr := ⟨_, rfl⟩
         obtain ⟨f0, f1, f2⟩ := fr
         have HFD := Aside0.mk hfr
         clear hfr
         have hltb2 : decide ((j : Int) < (x4.length : Int)) = true := decide_eq_true (by omega)
         have HWR2 := Aside0.mk (show wrap64 ((j : Int) + 1) = ((j + 1 : Nat) : Int) by rw [wrap64_id (by have := HSL.out; omega) (by have := HSL.out; omega)]; rfl)
         replace p1 := eq_true p1
         replace q1 := eq_true q1
         have HL2 := Aside0.mk hlt2
         obtain ⟨RW, hrw⟩ : ∃ RW, (rowX L x4 (i : Int) j).1 = RW := ⟨_, rfl⟩
         obtain ⟨RS, hrs⟩ : ∃ RS, (rowsX L l0 i).1 = RS := ⟨_, rfl⟩
         have h2 := H2.out
         have hrn := HRN.out
         have hrl := HRL.out
         rw [hrw] at h2 hrn HXS
         rw [hrs] at h2 hrl
         have HRS := Aside0.mk hrs
         clear H2 HRN hrs hrw
         have H2 := Aside0.mk h2
         have HRN := Aside0.mk hrn
         have HRL2 := Aside0.mk hrl
         clear h2 hrn hrl
         by_cases ck : sk = 0
         ·
          subst ck
          have HXE := Aside0.mk (HXS.out ⟨(i : Int), sa⟩ (by unfold symX; rw [if_pos rfl]))
          clear HXS HXP
          go_wp2_with (first | ((with_reducible refine gate_dst (N := 16) rfl ?_); refine box_event ?hg (N := 16) ?hd (cs := #[.string (⟨#[]⟩ : ByteArray), .int .i8 0, .int .i64 0]) (t := 75) ?hr ?_; (case hd => rfl); (case hg => rfl); (case hr => first | (go_simp; done) | (go_simp; rfl)); intro gs hgs w15 BK4 hb4; have BS := Aside0.mk BK4; have GS := Aside0.mk (show w.heap.size ≤ gs by rw [hgs]; exact H2.out.low.size); have NS := Aside0.mk (show ga < gs ∧ gl < gs ∧ bm < gs by rw [hgs]; exact ⟨blk_lt H2.out.hat, blk_lt H2.out.hl, H2.out.nm.lt⟩); replace H2 := Aside0.mk (H2.out.box hb4 (show _ ≤ gs by rw [hgs]; exact Nat.le_refl _)); clear BK4 hb4 hgs) | ((with_reducible refine gate_store (t := 75) rfl ?_); refine wpList_store_whole rfl rfl rfl gs _ #[.string sn, .int .i8 0, .int .i64 sa] _ rfl rfl BS.out (by kernel_rfl) rfl (sym_one _ _ _) ?_; intro w16 hp; replace H2 := Aside0.mk (H2.out.put hp GS.out (by have := NS.out; omega) (by have := NS.out; omega) (by have := NS.out; omega) (fun k hk => hk.2)); replace BS := Aside0.mk hp.blk; clear hp; have hs0 := blk_cell BS.out 0; have hs1 := blk_cell BS.out 1; have hs2 := blk_cell BS.out 2) | (go_at_call 67; refine (find.calls sn _ bm L H2.out.nm).mono ?_; rw [HFD.out]; rintro e_ w17 ⟨rfl, hb5⟩; replace H2 := Aside0.mk (H2.out.below hb5); replace BS := Aside0.mk (blk_below BS.out hb5); clear hb5 hs0 hs1 hs2; have hs0 := blk_cell BS.out 0; have hs1 := blk_cell BS.out 1; have hs2 := blk_cell BS.out 2) | ((with_reducible refine gate_dst (N := 17) rfl ?_); refine box_event ?hg (N := 17) ?hd (cs := #[.int .i64 0, .int .i64 0]) (t := 59) ?hr ?_; (case hd => rfl); (case hg => rfl); (case hr => first | (go_simp; done) | (go_simp; rfl)); intro gx hgx w18 BK6 hb6; have BX := Aside0.mk BK6; have GX := Aside0.mk (show w.heap.size ≤ gx by rw [hgx]; exact H2.out.low.size); have NX := Aside0.mk (show ga < gx ∧ gl < gx ∧ bm < gx ∧ gs < gx by rw [hgx]; exact ⟨blk_lt H2.out.hat, blk_lt H2.out.hl, H2.out.nm.lt, blk_lt BS.out⟩); replace H2 := Aside0.mk (H2.out.box hb6 (show _ ≤ gx by rw [hgx]; exact Nat.le_refl _)); replace BS := Aside0.mk (blk_below BS.out hb6); clear BK6 hb6 hgx hs0 hs1 hs2; have hs0 := blk_cell BS.out 0; have hs1 := blk_cell BS.out 1; have hs2 := blk_cell BS.out 2) | ((with_reducible refine gate_store (t := 59) rfl ?_); refine wpList_store_whole rfl rfl rfl gx _ #[.int .i64 f0, .int .i64 f1] _ rfl rfl BX.out (by kernel_rfl) rfl (def_one _ _) ?_; intro w20 hp; have H2n := Aside0.mk (H2.out.put hp GX.out (by have := NX.out; omega) (by have := NX.out; omega) (by have := NX.out; omega) (fun k hk => hk.2)); have BSn := Aside0.mk (blk_grown BS.out (put_grownN hp) (fun e => by have := NX.out; have := Option.some.inj e; omega)); have BXn := Aside0.mk hp.blk; clear H2 BS BX hp; (try clear hs0 hs1 hs2); (try clear hk0 hk1); have H2 := H2n; have BS := BSn; have BX := BXn; clear H2n BSn BXn; have hs0 := blk_cell BS.out 0; have hs1 := blk_cell BS.out 1; have hs2 := blk_cell BS.out 2; have hk0 := blk_cell BX.out 0; have hk1 := blk_cell BX.out 1) | ((with_reducible refine gate_store (t := 59) rfl ?_); refine wpList_store_whole rfl rfl rfl gx _ #[.int .i64 (i : Int), .int .i64 sa] _ rfl rfl BX.out (by kernel_rfl) rfl (def_one _ _) ?_; intro w21 hp; have H2n := Aside0.mk (H2.out.put hp GX.out (by have := NX.out; omega) (by have := NX.out; omega) (by have := NX.out; omega) (fun k hk => hk.2)); have BSn := Aside0.mk (blk_grown BS.out (put_grownN hp) (fun e => by have := NX.out; have := Option.some.inj e; omega)); have BXn := Aside0.mk hp.blk; clear H2 BS BX hp; (try clear hs0 hs1 hs2); (try clear hk0 hk1); have H2 := H2n; have BS := BSn; have BX := BXn; clear H2n BSn BXn; have hs0 := blk_cell BS.out 0; have hs1 := blk_cell BS.out 1; have hs2 := blk_cell BS.out 2; have hk0 := blk_cell BX.out 0; have hk1 := blk_cell BX.out 1))
          have h2 := H2.out.below (below_drew (Below.refl _ _))
          have bs := blk_below BS.out (below_drew (Below.refl _ _))
          have bx := blk_below BX.out (below_drew (Below.refl _ _))
          have bsl := blk_lt bs
          have bxl := blk_lt bx
          have hgm := (set_mid RS RW (RW ++ [(⟨(i : Int), sa⟩ : DefT)]) [] (List.replicate (l0.length - (i + 1)) []) i HRL2.out)
          obtain ⟨vi, okA, hci, hgd, hrow, hfr, hoka, hback⟩ := h2.row (i := i) HLT.out (fun k hk => ⟨⟨trivial, by omega⟩, by omega⟩) (⟨(i : Int), sa⟩ : DefT)
          rw [hgm.2] at hrow hback
          rw [hgm.1] at hback
          have HBK := Aside0.mk hback
          have HROW := Aside0.mk hrow
          have HFRS := Aside0.mk hfr
          have HOKA := Aside0.mk hoka
          have HLOW := Aside0.mk h2.low
          have BX2 := Aside0.mk bx
          have hcx0 := blk_cell BX2.out 0
          have hcx1 := blk_cell BX2.out 1
          obtain ⟨Av, cv, ev⟩ := Kd.R_slice HROW.out
          subst ev
          clear hback hrow hfr hoka h2 bs bx bsl bxl hgm hs0 hs1 hs2 hk0 hk1 BS BX H2 hw0 hw1 hw2
          refine start_ (n := 11) (S := fun w' => w'.cell? ⟨g3, i, none⟩ = some (.slice Av RW.length cv) ∧ w'.cell? ⟨gx, 0, none⟩ = some (.int .i64 (i : Int)) ∧ w'.cell? ⟨gx, 1, none⟩ = some (.int .i64 sa)) (ds := [10]) #[false, false, false, false, false, false, false, false, false, false, false] (by kernel_rfl) rfl rfl ⟨hci, hcx0, hcx1⟩ (fun hHeld => ?_)
          generalize w21.drew = wd at HBK HROW HFRS HLOW BX2 hci hgd hcx0 hcx1 hHeld ⊢
          refine pure_ (i := 0) (N := some 99) (v := ?_) (a' := ?_) #[true, false, false, false, false, false, false, false, false, false, false] rfl rfl (by kernel_rfl) (fun _ _ _ h => h) (Or.inl ⟨by rfl, ?_⟩) ?_ ?_
          rotate_left
          ·
           intro w'
           go_simp
           with_reducible rfl
          rotate_left
          ·
           simp only [Act.put, List.setIfInBounds_toArray, List.set_cons_zero, List.set_cons_succ, i64_w, i32_w]
           rfl
          refine pure_ (i := 1) (N := some 100) (v := ?_) (a' := ?_) #[true, true, false, false, false, false, false, false, false, false, false] rfl rfl (by kernel_rfl) (fun _ _ _ h => h) (Or.inl ⟨by rfl, ?_⟩) ?_ ?_
          rotate_left
          ·
           intro w'
           go_simp
           with_reducible rfl
          rotate_left
          ·
           simp only [Act.put, List.setIfInBounds_toArray, List.set_cons_zero, List.set_cons_succ, i64_w, i32_w]
           rfl
          refine pure_ (i := 2) (N := some 101) (v := ?_) (a' := ?_) #[true, true, true, false, false, false, false, false, false, false, false] rfl rfl (by kernel_rfl) (fun _ _ _ h => h) (Or.inl ⟨by rfl, ?_⟩) ?_ ?_
          rotate_left
          ·
           intro w'
           go_simp
           with_reducible rfl
          rotate_left
          ·
           simp only [Act.put, List.setIfInBounds_toArray, List.set_cons_zero, List.set_cons_succ, i64_w, i32_w]
           rfl
          refine pure_ (i := 3) (N := some 102) (v := ?_) (a' := ?_) #[true, true, true, true, false, false, false, false, false, false, false] rfl rfl (by kernel_rfl) (fun _ _ _ h => h) (Or.inl ⟨by rfl, ?_⟩) ?_ ?_
          rotate_left
          ·
           intro w'
           go_simp
           with_reducible rfl
          rotate_left
          ·
           simp only [Act.put, List.setIfInBounds_toArray, List.set_cons_zero, List.set_cons_succ, i64_w, i32_w]
           rfl
          refine pure_ (i := 4) (N := some 103) (v := ?_) (a' := ?_) #[true, true, true, true, true, false, false, false, false, false, false] rfl rfl (by kernel_rfl) (fun _ _ _ h => h) (Or.inl ⟨by rfl, ?_⟩) ?_ ?_
          rotate_left
          ·
           intro w'
           go_simp
           with_reducible rfl
          rotate_left
          ·
           simp only [Act.put, List.setIfInBounds_toArray, List.set_cons_zero, List.set_cons_succ, i64_w, i32_w]
           rfl
          refine take_ (i := 5) (N := some 104) (v := ?_) (a' := ?_) #[true, true, true, true, true, true, false, false, false, false, false] rfl rfl (by kernel_rfl) (fun _ _ _ h => h) (Or.inl ⟨by rfl, ?_⟩) hHeld ?_ ?_
          rotate_left
          ·
           rintro w' ⟨s0, s1, s2⟩
           go_simp
           with_reducible rfl
          rotate_left
          ·
           simp only [Act.put, List.setIfInBounds_toArray, List.set_cons_zero, List.set_cons_succ, i64_w, i32_w]
           rfl
          refine take_ (i := 6) (N := some 105) (v := ?_) (a' := ?_) #[true, true, true, true, true, true, true, false, false, false, false] rfl rfl (by kernel_rfl) (fun _ _ _ h => h) (Or.inl ⟨by rfl, ?_⟩) hHeld ?_ ?_
          rotate_left
          ·
           rintro w' ⟨s0, s1, s2⟩
           go_simp
           with_reducible rfl
          rotate_left
          ·
           simp only [Act.put, List.setIfInBounds_toArray, List.set_cons_zero, List.set_cons_succ, i64_w, i32_w]
           rfl
          refine one_ (i := 7) (N := some 106) #[true, true, true, true, true, true, true, true, false, false, false] rfl rfl (by kernel_rfl) (by decide) (fun K hK => ?_)
          refine value_ (w1 := ?_) (v := ?_) (by rfl) rfl ?_ ?_
          rotate_left 2
          ·
           go_simp
           constructor
           ·
            rfl
           ·
            rfl
          refine hK.out _ _ ⟨(World.cell?_alloc_lt _ _ _ (World.block_lt_of_cell? _ _ hci)).trans hci, (World.cell?_alloc_lt _ _ _ (World.block_lt_of_cell? _ _ hcx0)).trans hcx0, (World.cell?_alloc_lt _ _ _ (World.block_lt_of_cell? _ _ hcx1)).trans hcx1⟩ (fun hHeld => ?_)
          clear hK K
          refine norm_ (a' := ?_) ?_ ?_
          rotate_left
          ·
           show Act.put _ (some 106) _ = _
           simp only [Act.put, List.setIfInBounds_toArray, List.set_cons_zero, List.set_cons_succ, i64_w, i32_w]
           rfl
          refine one_ (i := 8) (N := some 107) #[true, true, true, true, true, true, true, true, true, false, false] rfl rfl (by kernel_rfl) (by decide) (fun K hK => ?_)
          refine Kd.R_append_step k59 (w0 := w) w.heap.size (by rfl) (.tmp 104) (.tmp 106) 62 59 (.agg #[.int .i64 0, .int .i64 0]) 16 rfl Tryd.underlying62 info_def rfl (by decide) (by omega) (.slice Av RW.length cv) RW (⟨(i : Int), sa⟩ : DefT) [.int .i64 (i : Int), .int .i64 sa] okA (fun _ => False) rfl rfl ?aP (fun _ hk => hk.elim) ?aF ?aO ?aB ?aS ?aL ?_
          (case aP => exact k59_mkM _ _ _ (⟨(i : Int), sa⟩ : DefT))
          (case aB => exact HLOW.out)
          (case aF => exact HFRS.out)
          (case aO => exact HROW.out)
          (case aS => exact HLOW.out.size)
          (case aL => have := HRN.out; have := HL2.out; have := HSL.out; omega)
          intro v19 w19 ho19 hb19 hg19 hat19
          obtain ⟨hc19, hf19, hr19⟩ := HBK.out v19 w19 ho19 hb19 hg19
          have hne : some gx ≠ (Value.slice Av RW.length cv).ownBlock := fun e => (HOKA.out gx (HROW.out.1 gx e.symm)).2 rfl
          have bx19 := blk_grown BX2.out hg19 hne
          have HR19 := Aside0.mk hr19
          obtain ⟨Ao, co, eo⟩ := Kd.R_slice ho19
          subst eo
          refine hK.out _ _ ⟨hc19, blk_cell bx19 0, blk_cell bx19 1⟩ (fun hHeld => ?_)
          clear hr19 hci hcx0 hcx1
          clear hK K
          refine norm_ (a' := ?_) ?_ ?_
          rotate_left
          ·
           show Act.put _ (some 107) _ = _
           simp only [Act.put, List.setIfInBounds_toArray, List.set_cons_zero, List.set_cons_succ, i64_w, i32_w]
           rfl
          refine pure_ (i := 9) (N := some 108) (v := ?_) (a' := ?_) #[true, true, true, true, true, true, true, true, true, true, false] rfl rfl (by kernel_rfl) (fun _ _ _ h => h) (Or.inl ⟨by rfl, ?_⟩) ?_ ?_
          rotate_left
          ·
           intro w'
           go_simp
           with_reducible rfl
          rotate_left
          ·
           simp only [Act.put, List.setIfInBounds_toArray, List.set_cons_zero, List.set_cons_succ, i64_w, i32_w]
           rfl
          refine last_ (i := 10) (N := none) #[true, true, true, true, true, true, true, true, true, true, true] rfl rfl (by kernel_rfl) (by decide) (fun K hK => ?_)
          refine skip_ (w1 := ?_) (by rfl) rfl ?_ ?_
          rotate_left
          ·
           go_simp
           rfl
          refine hK.out _ _ ?_
          clear hK K
          refine done_ (by kernel_rfl) ?_
          have h2 := HR19.out.mono (ok' := fun _ => True) (fun _ _ => trivial)
          rw [show (RW ++ [(⟨(i : Int), sa⟩ : DefT)]).length = RW.length + 1 from (by rw [List.length_append]; rfl)] at h2
          clear HR19 ho19 hb19 hg19 hat19 hHeld hne bx19
          have H2 := Aside0.mk h2
          clear h2 hc19 hf19
          go_wp2
          go_roundw
          case measure => have hq := HL2.out; (try rw [HWR2.out]); simp only [intOf]; omega
          case rel => exact ⟨rfl, j + 1, by first | rfl | (rw [HWR2.out]; done), by have := HL2.out; omega, ⟨by rw [HXE.out]⟩, ⟨by rw [HXE.out, HRS.out]; exact H2.out⟩⟩
         ·
          have ckb : (sk == 0) = false := beq_eq_false_iff_ne.mpr ck
          cases f2 with
          | true =>
           have HXE := Aside0.mk (HXS.out ⟨f0, f1⟩ (by unfold symX; rw [if_neg ck, HFD.out, if_pos rfl]))
           clear ck HXS HXP
           go_wp2_with (first | ((with_reducible refine gate_dst (N := 16) rfl ?_); refine box_event ?hg (N := 16) ?hd (cs := #[.string (⟨#[]⟩ : ByteArray), .int .i8 0, .int .i64 0]) (t := 75) ?hr ?_; (case hd => rfl); (case hg => rfl); (case hr => first | (go_simp; done) | (go_simp; rfl)); intro gs hgs w15 BK4 hb4; have BS := Aside0.mk BK4; have GS := Aside0.mk (show w.heap.size ≤ gs by rw [hgs]; exact H2.out.low.size); have NS := Aside0.mk (show ga < gs ∧ gl < gs ∧ bm < gs by rw [hgs]; exact ⟨blk_lt H2.out.hat, blk_lt H2.out.hl, H2.out.nm.lt⟩); replace H2 := Aside0.mk (H2.out.box hb4 (show _ ≤ gs by rw [hgs]; exact Nat.le_refl _)); clear BK4 hb4 hgs) | ((with_reducible refine gate_store (t := 75) rfl ?_); refine wpList_store_whole rfl rfl rfl gs _ #[.string sn, .int .i8 sk, .int .i64 sa] _ rfl rfl BS.out (by kernel_rfl) rfl (sym_one _ _ _) ?_; intro w16 hp; replace H2 := Aside0.mk (H2.out.put hp GS.out (by have := NS.out; omega) (by have := NS.out; omega) (by have := NS.out; omega) (fun k hk => hk.2)); replace BS := Aside0.mk hp.blk; clear hp; have hs0 := blk_cell BS.out 0; have hs1 := blk_cell BS.out 1; have hs2 := blk_cell BS.out 2) | (go_at_call 67; refine (find.calls sn _ bm L H2.out.nm).mono ?_; rw [HFD.out]; rintro e_ w17 ⟨rfl, hb5⟩; replace H2 := Aside0.mk (H2.out.below hb5); replace BS := Aside0.mk (blk_below BS.out hb5); clear hb5 hs0 hs1 hs2; have hs0 := blk_cell BS.out 0; have hs1 := blk_cell BS.out 1; have hs2 := blk_cell BS.out 2) | ((with_reducible refine gate_dst (N := 17) rfl ?_); refine box_event ?hg (N := 17) ?hd (cs := #[.int .i64 0, .int .i64 0]) (t := 59) ?hr ?_; (case hd => rfl); (case hg => rfl); (case hr => first | (go_simp; done) | (go_simp; rfl)); intro gx hgx w18 BK6 hb6; have BX := Aside0.mk BK6; have GX := Aside0.mk (show w.heap.size ≤ gx by rw [hgx]; exact H2.out.low.size); have NX := Aside0.mk (show ga < gx ∧ gl < gx ∧ bm < gx ∧ gs < gx by rw [hgx]; exact ⟨blk_lt H2.out.hat, blk_lt H2.out.hl, H2.out.nm.lt, blk_lt BS.out⟩); replace H2 := Aside0.mk (H2.out.box hb6 (show _ ≤ gx by rw [hgx]; exact Nat.le_refl _)); replace BS := Aside0.mk (blk_below BS.out hb6); clear BK6 hb6 hgx hs0 hs1 hs2; have hs0 := blk_cell BS.out 0; have hs1 := blk_cell BS.out 1; have hs2 := blk_cell BS.out 2) | ((with_reducible refine gate_store (t := 59) rfl ?_); refine wpList_store_whole rfl rfl rfl gx _ #[.int .i64 f0, .int .i64 f1] _ rfl rfl BX.out (by kernel_rfl) rfl (def_one _ _) ?_; intro w20 hp; have H2n := Aside0.mk (H2.out.put hp GX.out (by have := NX.out; omega) (by have := NX.out; omega) (by have := NX.out; omega) (fun k hk => hk.2)); have BSn := Aside0.mk (blk_grown BS.out (put_grownN hp) (fun e => by have := NX.out; have := Option.some.inj e; omega)); have BXn := Aside0.mk hp.blk; clear H2 BS BX hp; (try clear hs0 hs1 hs2); (try clear hk0 hk1); have H2 := H2n; have BS := BSn; have BX := BXn; clear H2n BSn BXn; have hs0 := blk_cell BS.out 0; have hs1 := blk_cell BS.out 1; have hs2 := blk_cell BS.out 2; have hk0 := blk_cell BX.out 0; have hk1 := blk_cell BX.out 1))
           have h2 := H2.out.below (below_drew (Below.refl _ _))
           have bs := blk_below BS.out (below_drew (Below.refl _ _))
           have bx := blk_below BX.out (below_drew (Below.refl _ _))
           have bsl := blk_lt bs
           have bxl := blk_lt bx
           have hgm := (set_mid RS RW (RW ++ [(⟨f0, f1⟩ : DefT)]) [] (List.replicate (l0.length - (i + 1)) []) i HRL2.out)
           obtain ⟨vi, okA, hci, hgd, hrow, hfr, hoka, hback⟩ := h2.row (i := i) HLT.out (fun k hk => ⟨⟨trivial, by omega⟩, by omega⟩) (⟨f0, f1⟩ : DefT)
           rw [hgm.2] at hrow hback
           rw [hgm.1] at hback
           have HBK := Aside0.mk hback
           have HROW := Aside0.mk hrow
           have HFRS := Aside0.mk hfr
           have HOKA := Aside0.mk hoka
           have HLOW := Aside0.mk h2.low
           have BX2 := Aside0.mk bx
           have hcx0 := blk_cell BX2.out 0
           have hcx1 := blk_cell BX2.out 1
           obtain ⟨Av, cv, ev⟩ := Kd.R_slice HROW.out
           subst ev
           clear hback hrow hfr hoka h2 bs bx bsl bxl hgm hs0 hs1 hs2 hk0 hk1 BS BX H2 hw0 hw1 hw2
           refine start_ (n := 11) (S := fun w' => w'.cell? ⟨g3, i, none⟩ = some (.slice Av RW.length cv) ∧ w'.cell? ⟨gx, 0, none⟩ = some (.int .i64 f0) ∧ w'.cell? ⟨gx, 1, none⟩ = some (.int .i64 f1)) (ds := [10]) #[false, false, false, false, false, false, false, false, false, false, false] (by kernel_rfl) rfl rfl ⟨hci, hcx0, hcx1⟩ (fun hHeld => ?_)
           generalize w20.drew = wd at HBK HROW HFRS HLOW BX2 hci hgd hcx0 hcx1 hHeld ⊢
           refine pure_ (i := 0) (N := some 99) (v := ?_) (a' := ?_) #[true, false, false, false, false, false, false, false, false, false, false] rfl rfl (by kernel_rfl) (fun _ _ _ h => h) (Or.inl ⟨by rfl, ?_⟩) ?_ ?_
           rotate_left
           ·
            intro w'
            go_simp
            with_reducible rfl
           rotate_left
           ·
            simp only [Act.put, List.setIfInBounds_toArray, List.set_cons_zero, List.set_cons_succ, i64_w, i32_w]
            rfl
           refine pure_ (i := 1) (N := some 100) (v := ?_) (a' := ?_) #[true, true, false, false, false, false, false, false, false, false, false] rfl rfl (by kernel_rfl) (fun _ _ _ h => h) (Or.inl ⟨by rfl, ?_⟩) ?_ ?_
           rotate_left
           ·
            intro w'
            go_simp
            with_reducible rfl
           rotate_left
           ·
            simp only [Act.put, List.setIfInBounds_toArray, List.set_cons_zero, List.set_cons_succ, i64_w, i32_w]
            rfl
           refine pure_ (i := 2) (N := some 101) (v := ?_) (a' := ?_) #[true, true, true, false, false, false, false, false, false, false, false] rfl rfl (by kernel_rfl) (fun _ _ _ h => h) (Or.inl ⟨by rfl, ?_⟩) ?_ ?_
           rotate_left
           ·
            intro w'
            go_simp
            with_reducible rfl
           rotate_left
           ·
            simp only [Act.put, List.setIfInBounds_toArray, List.set_cons_zero, List.set_cons_succ, i64_w, i32_w]
            rfl
           refine pure_ (i := 3) (N := some 102) (v := ?_) (a' := ?_) #[true, true, true, true, false, false, false, false, false, false, false] rfl rfl (by kernel_rfl) (fun _ _ _ h => h) (Or.inl ⟨by rfl, ?_⟩) ?_ ?_
           rotate_left
           ·
            intro w'
            go_simp
            with_reducible rfl
           rotate_left
           ·
            simp only [Act.put, List.setIfInBounds_toArray, List.set_cons_zero, List.set_cons_succ, i64_w, i32_w]
            rfl
           refine pure_ (i := 4) (N := some 103) (v := ?_) (a' := ?_) #[true, true, true, true, true, false, false, false, false, false, false] rfl rfl (by kernel_rfl) (fun _ _ _ h => h) (Or.inl ⟨by rfl, ?_⟩) ?_ ?_
           rotate_left
           ·
            intro w'
            go_simp
            with_reducible rfl
           rotate_left
           ·
            simp only [Act.put, List.setIfInBounds_toArray, List.set_cons_zero, List.set_cons_succ, i64_w, i32_w]
            rfl
           refine take_ (i := 5) (N := some 104) (v := ?_) (a' := ?_) #[true, true, true, true, true, true, false, false, false, false, false] rfl rfl (by kernel_rfl) (fun _ _ _ h => h) (Or.inl ⟨by rfl, ?_⟩) hHeld ?_ ?_
           rotate_left
           ·
            rintro w' ⟨s0, s1, s2⟩
            go_simp
            with_reducible rfl
           rotate_left
           ·
            simp only [Act.put, List.setIfInBounds_toArray, List.set_cons_zero, List.set_cons_succ, i64_w, i32_w]
            rfl
           refine take_ (i := 6) (N := some 105) (v := ?_) (a' := ?_) #[true, true, true, true, true, true, true, false, false, false, false] rfl rfl (by kernel_rfl) (fun _ _ _ h => h) (Or.inl ⟨by rfl, ?_⟩) hHeld ?_ ?_
           rotate_left
           ·
            rintro w' ⟨s0, s1, s2⟩
            go_simp
            with_reducible rfl
           rotate_left
           ·
            simp only [Act.put, List.setIfInBounds_toArray, List.set_cons_zero, List.set_cons_succ, i64_w, i32_w]
            rfl
           refine one_ (i := 7) (N := some 106) #[true, true, true, true, true, true, true, true, false, false, false] rfl rfl (by kernel_rfl) (by decide) (fun K hK => ?_)
           refine value_ (w1 := ?_) (v := ?_) (by rfl) rfl ?_ ?_
           rotate_left 2
           ·
            go_simp
            constructor
            ·
             rfl
            ·
             rfl
           refine hK.out _ _ ⟨(World.cell?_alloc_lt _ _ _ (World.block_lt_of_cell? _ _ hci)).trans hci, (World.cell?_alloc_lt _ _ _ (World.block_lt_of_cell? _ _ hcx0)).trans hcx0, (World.cell?_alloc_lt _ _ _ (World.block_lt_of_cell? _ _ hcx1)).trans hcx1⟩ (fun hHeld => ?_)
           clear hK K
           refine norm_ (a' := ?_) ?_ ?_
           rotate_left
           ·
            show Act.put _ (some 106) _ = _
            simp only [Act.put, List.setIfInBounds_toArray, List.set_cons_zero, List.set_cons_succ, i64_w, i32_w]
            rfl
           refine one_ (i := 8) (N := some 107) #[true, true, true, true, true, true, true, true, true, false, false] rfl rfl (by kernel_rfl) (by decide) (fun K hK => ?_)
           refine Kd.R_append_step k59 (w0 := w) w.heap.size (by rfl) (.tmp 104) (.tmp 106) 62 59 (.agg #[.int .i64 0, .int .i64 0]) 16 rfl Tryd.underlying62 info_def rfl (by decide) (by omega) (.slice Av RW.length cv) RW (⟨f0, f1⟩ : DefT) [.int .i64 f0, .int .i64 f1] okA (fun _ => False) rfl rfl ?aP (fun _ hk => hk.elim) ?aF ?aO ?aB ?aS ?aL ?_
           (case aP => exact k59_mkM _ _ _ (⟨f0, f1⟩ : DefT))
           (case aB => exact HLOW.out)
           (case aF => exact HFRS.out)
           (case aO => exact HROW.out)
           (case aS => exact HLOW.out.size)
           (case aL => have := HRN.out; have := HL2.out; have := HSL.out; omega)
           intro v19 w19 ho19 hb19 hg19 hat19
           obtain ⟨hc19, hf19, hr19⟩ := HBK.out v19 w19 ho19 hb19 hg19
           have hne : some gx ≠ (Value.slice Av RW.length cv).ownBlock := fun e => (HOKA.out gx (HROW.out.1 gx e.symm)).2 rfl
           have bx19 := blk_grown BX2.out hg19 hne
           have HR19 := Aside0.mk hr19
           obtain ⟨Ao, co, eo⟩ := Kd.R_slice ho19
           subst eo
           refine hK.out _ _ ⟨hc19, blk_cell bx19 0, blk_cell bx19 1⟩ (fun hHeld => ?_)
           clear hr19 hci hcx0 hcx1
           clear hK K
           refine norm_ (a' := ?_) ?_ ?_
           rotate_left
           ·
            show Act.put _ (some 107) _ = _
            simp only [Act.put, List.setIfInBounds_toArray, List.set_cons_zero, List.set_cons_succ, i64_w, i32_w]
            rfl
           refine pure_ (i := 9) (N := some 108) (v := ?_) (a' := ?_) #[true, true, true, true, true, true, true, true, true, true, false] rfl rfl (by kernel_rfl) (fun _ _ _ h => h) (Or.inl ⟨by rfl, ?_⟩) ?_ ?_
           rotate_left
           ·
            intro w'
            go_simp
            with_reducible rfl
           rotate_left
           ·
            simp only [Act.put, List.setIfInBounds_toArray, List.set_cons_zero, List.set_cons_succ, i64_w, i32_w]
            rfl
           refine last_ (i := 10) (N := none) #[true, true, true, true, true, true, true, true, true, true, true] rfl rfl (by kernel_rfl) (by decide) (fun K hK => ?_)
           refine skip_ (w1 := ?_) (by rfl) rfl ?_ ?_
           rotate_left
           ·
            go_simp
            rfl
           refine hK.out _ _ ?_
           clear hK K
           refine done_ (by kernel_rfl) ?_
           have h2 := HR19.out.mono (ok' := fun _ => True) (fun _ _ => trivial)
           rw [show (RW ++ [(⟨f0, f1⟩ : DefT)]).length = RW.length + 1 from (by rw [List.length_append]; rfl)] at h2
           clear HR19 ho19 hb19 hg19 hat19 hHeld hne bx19
           have H2 := Aside0.mk h2
           clear h2 hc19 hf19
           go_wp2
           go_roundw
           case measure => have hq := HL2.out; (try rw [HWR2.out]); simp only [intOf]; omega
           case rel => exact ⟨rfl, j + 1, by first | rfl | (rw [HWR2.out]; done), by have := HL2.out; omega, ⟨by rw [HXE.out]⟩, ⟨by rw [HXE.out, HRS.out]; exact H2.out⟩⟩
          | false =>
           obtain ⟨dd, hdd⟩ := HXP.out (by unfold symX; rw [if_neg ck, HFD.out]; exact if_neg (show ¬ (false = true) by decide))
           clear ck HXS HXP
           have h := HH.out
           rw [hdd] at h
           simp only [Option.some.injEq, Prod.mk.injEq] at h
           obtain ⟨rfl, rfl, rfl, rfl⟩ := h
           clear hdd HH
           go_wp2_with (first | ((with_reducible refine gate_dst (N := 16) rfl ?_); refine box_event ?hg (N := 16) ?hd (cs := #[.string (⟨#[]⟩ : ByteArray), .int .i8 0, .int .i64 0]) (t := 75) ?hr ?_; (case hd => rfl); (case hg => rfl); (case hr => first | (go_simp; done) | (go_simp; rfl)); intro gs hgs w15 BK4 hb4; have BS := Aside0.mk BK4; have GS := Aside0.mk (show w.heap.size ≤ gs by rw [hgs]; exact H2.out.low.size); have NS := Aside0.mk (show ga < gs ∧ gl < gs ∧ bm < gs by rw [hgs]; exact ⟨blk_lt H2.out.hat, blk_lt H2.out.hl, H2.out.nm.lt⟩); replace H2 := Aside0.mk (H2.out.box hb4 (show _ ≤ gs by rw [hgs]; exact Nat.le_refl _)); clear BK4 hb4 hgs) | ((with_reducible refine gate_store (t := 75) rfl ?_); refine wpList_store_whole rfl rfl rfl gs _ #[.string sn, .int .i8 sk, .int .i64 sa] _ rfl rfl BS.out (by kernel_rfl) rfl (sym_one _ _ _) ?_; intro w16 hp; replace H2 := Aside0.mk (H2.out.put hp GS.out (by have := NS.out; omega) (by have := NS.out; omega) (by have := NS.out; omega) (fun k hk => hk.2)); replace BS := Aside0.mk hp.blk; clear hp; have hs0 := blk_cell BS.out 0; have hs1 := blk_cell BS.out 1; have hs2 := blk_cell BS.out 2) | (go_at_call 67; refine (find.calls sn _ bm L H2.out.nm).mono ?_; rw [HFD.out]; rintro e_ w17 ⟨rfl, hb5⟩; replace H2 := Aside0.mk (H2.out.below hb5); replace BS := Aside0.mk (blk_below BS.out hb5); clear hb5 hs0 hs1 hs2; have hs0 := blk_cell BS.out 0; have hs1 := blk_cell BS.out 1; have hs2 := blk_cell BS.out 2) | ((with_reducible refine gate_dst (N := 17) rfl ?_); refine box_event ?hg (N := 17) ?hd (cs := #[.int .i64 0, .int .i64 0]) (t := 59) ?hr ?_; (case hd => rfl); (case hg => rfl); (case hr => first | (go_simp; done) | (go_simp; rfl)); intro gx hgx w18 BK6 hb6; have BX := Aside0.mk BK6; have GX := Aside0.mk (show w.heap.size ≤ gx by rw [hgx]; exact H2.out.low.size); have NX := Aside0.mk (show ga < gx ∧ gl < gx ∧ bm < gx ∧ gs < gx by rw [hgx]; exact ⟨blk_lt H2.out.hat, blk_lt H2.out.hl, H2.out.nm.lt, blk_lt BS.out⟩); replace H2 := Aside0.mk (H2.out.box hb6 (show _ ≤ gx by rw [hgx]; exact Nat.le_refl _)); replace BS := Aside0.mk (blk_below BS.out hb6); clear BK6 hb6 hgx hs0 hs1 hs2; have hs0 := blk_cell BS.out 0; have hs1 := blk_cell BS.out 1; have hs2 := blk_cell BS.out 2) | ((with_reducible refine gate_store (t := 59) rfl ?_); refine wpList_store_whole rfl rfl rfl gx _ #[.int .i64 f0, .int .i64 f1] _ rfl rfl BX.out (by kernel_rfl) rfl (def_one _ _) ?_; intro w20 hp; have H2n := Aside0.mk (H2.out.put hp GX.out (by have := NX.out; omega) (by have := NX.out; omega) (by have := NX.out; omega) (fun k hk => hk.2)); have BSn := Aside0.mk (blk_grown BS.out (put_grownN hp) (fun e => by have := NX.out; have := Option.some.inj e; omega)); have BXn := Aside0.mk hp.blk; clear H2 BS BX hp; (try clear hs0 hs1 hs2); (try clear hk0 hk1); have H2 := H2n; have BS := BSn; have BX := BXn; clear H2n BSn BXn; have hs0 := blk_cell BS.out 0; have hs1 := blk_cell BS.out 1; have hs2 := blk_cell BS.out 2; have hk0 := blk_cell BX.out 0; have hk1 := blk_cell BX.out 1) | ((with_reducible refine gate_store (t := 130) rfl ?_); refine wpList_store_whole rfl rfl rfl ga _ #[.int .i64 (i : Int), .int .i64 (j : Int)] _ rfl rfl H2.out.hat (by kernel_rfl) rfl (at_one _ _) ?_; intro w22 hp; have HE := Aside0.mk (hp.below H2.out.low H2.out.ba); have BA := Aside0.mk hp.blk; clear hp H2 BS BX hs0 hs1 hs2 hk0 hk1; have hat0 := blk_cell BA.out 0; have hat1 := blk_cell BA.out 1))
           repeat (go_quiet (fail); try go_wp2)
           (try rw [Exit.noGoto_ret])
           (try simp only [Exit.inBlock, Exit.then])
           refine bodyPost_ret (results_four rfl _ _ _) rfl ?_
           exact ⟨_, rfl, Kd.S_nil _ _ _ _ _, pw_below_drewN HE.out _⟩
        ·
         have hj0 : j = x4.length := by omega
         subst hj0
         have hltb2 : decide ((x4.length : Int) < (x4.length : Int)) = false := by simp
         have h2 := H2.out
         have hst := HST.out HFR.out
         rw [show ∀ (A : List (List DefT)) (r : List DefT) (B : List (List DefT)), A ++ r :: B = (A ++ [r]) ++ B from fun A r B => by simp] at h2
         clear H2 hlt2 hjle
         have H2 := Aside0.mk h2
         have HS2 := Aside0.mk hst
         clear h2 hst
         go_wp2
         go_roundw
         case measure => have hq := HLT.out; (try rw [HWR.out]); simp only [intOf]; omega
         case rel => exact ⟨rfl, i + 1, by first | rfl | (rw [HWR.out]; done), by have := HLT.out; omega, ⟨by rw [HS2.out]⟩, ⟨by rw [HS2.out]; exact H2.out⟩⟩
      ·
       have hi0 : i = l0.length := by omega
       subst hi0
       have hltb : decide ((l0.length : Int) < (l0.length : Int)) = false := by simp
       have h := HH.out
       have h2 := H2.out
       have hf := HF.out
       obtain ⟨dd, oo, hdd⟩ : ∃ dd oo, rowsX L l0 l0.length = (dd, oo) := ⟨_, _, rfl⟩
       rw [hdd] at h h2 hf
       simp only at hf h2
       subst hf
       simp only [Option.some.injEq, Prod.mk.injEq] at h
       obtain ⟨rfl, rfl, rfl, rfl⟩ := h
       rw [Nat.sub_self, List.replicate_zero, List.append_nil] at h2
       clear HH H2 HF hdd hlt hile
       have H2 := Aside0.mk h2
       clear h2
       go_wp2
       (try rw [Exit.noGoto_ret])
       (try simp only [Exit.inBlock, Exit.then])
       refine bodyPost_ret (results_four rfl _ _ _) rfl ?_
       exact ⟨_, rfl, H2.out.own, H2.out.low⟩
theorem symbol_Resolve.calls (A0 : Option Addr) (c0 : Nat) (l0 : List ObjT) (r1 : List (List DefT)) (r2 : Int) (r3 : Int) (r4 : Int) (w : World) (hr0 : Kd.C k27 w A0 l0.length l0) (hc0 : l0.length ≤ c0) (h : symbol_Resolve.f l0 = some (r1, r2, r3, r4)) :
  Calls Tryd.prog 21 #[.slice A0 l0.length c0] w fun e w' => ∃ v0_ : Value, e = .returned (.tuple #[v0_, .int .i64 r2, .int .i64 r3, .int .i64 r4]) ∧ Kd.S (Kd.slice 59 k59) 62 w' w.heap.size (fun _ => True) v0_ r1 ∧ Below w.heap.size w w' := by
 unfold symbol_Resolve.f at h
 split at h
 ·
  next hb =>
  rw [Bool.and_eq_true, decide_eq_true_eq, List.all_eq_true] at hb
  exact symRes.calls A0 c0 l0 w r1 r2 r3 r4 hr0 (fun i hi => of_decide_eq_true (hb.2 i (List.mem_range.mpr hi))) h
 ·
  cases h
end Go.Proofs.YtiaohbbafaaibabDoor.P

/- OWN TEXT: what binding means, over plain lists. -/
namespace Go.Proofs.YtiaohbbafaaibabDoor.P
open Go.RowKit Go.Maps Go.Proofs.YtiaohbbafaaibabDoorW.PrintWords Go.Proofs.YtiaohbbafaaibabDoorW.PrintLast Go.Proofs.YtiaohbbafaaibabDoorW.PrintMore Go.Proofs.YtiaohbbafaaibabDoor.Arr Go.Proofs.YtiaohbbafaaibabDoor.MapB Go.Proofs.YtiaohbbafaaibabDoor.SymM
set_option linter.unusedVariables false
set_option linter.unusedSimpArgs false
def dx (d : List (List DefT)) (i k : Nat) : DefT := rd_T59 (rd_L17 d (i : Int)) (k : Int)
def newName : ByteArray := ⟨#[111, 110, 101, 46, 109, 111, 114, 101, 46, 111, 98, 106, 101, 99, 116, 46, 104, 101, 114, 101, 95]⟩
def newObj (s : ByteArray) : ObjT := ⟨newName, [], 0, [], [⟨s, 3, 0⟩], []⟩
structure BoundAt (l : List ObjT) (i k : Nat) (x : DefT) : Prop where
  ok : ∃ (o : Nat) (a : Int), x = ⟨(o : Int), a⟩ ∧ o < l.length ∧ 0 ≤ a ∧ a ≤ ((ob l o).f1.length : Int) ∧ ((sy (ob l i).f4 k).f1 = 0 ∨ (sy (ob l i).f4 k).f1 = 1 → o = i ∧ a = (sy (ob l i).f4 k).f2) ∧ ((sy (ob l i).f4 k).f1 ≠ 0 → symbol_Find.f l (sy (ob l i).f4 k).f0 = some ((o : Int), a, true)) ∧ ∃ r, symbol_Find.f l (sy (ob l i).f4 k).f0 = some r
structure Bound (l : List ObjT) (d : List (List DefT)) : Prop where
  len : d.length = l.length
  row : ∀ i, i < l.length → (rd_L17 d (i : Int)).length = (ob l i).f4.length
  syms : ∀ i, i < l.length → (ob l i).f4.length ≤ 100000000
  each : ∀ i k, i < l.length → k < (ob l i).f4.length → BoundAt l i k (dx d i k)
  more : ∀ p k, p < l.length → k < (ob l p).f4.length → (sy (ob l p).f4 k).f1 = 1 → (∀ i, i < l.length → (ob l i).f0 ≠ newName) → symbol_Resolve.f (l ++ [newObj (sy (ob l p).f4 k).f0]) = some (d ++ [[dx d p k]], 0, 0, 0)
end Go.Proofs.YtiaohbbafaaibabDoor.P

/- OWN TEXT: what linking comes to, over plain lists. -/
namespace Go.Proofs.YtiaohbbafaaibabDoor.P
open Go.RowKit Go.Proofs.YtiaohbbafaaibabDoorW.PrintWords Go.Proofs.YtiaohbbafaaibabDoorW.PrintLast Go.Proofs.YtiaohbbafaaibabDoorW.PrintMore Go.Proofs.YtiaohbbafaaibabDoor.Arr
set_option linter.unusedVariables false
def BL (l : List ObjT) : List Int := (idx l.length).map fun i => (bsL l i : Int)
theorem BL_len (l : List ObjT) : (BL l).length = l.length := by unfold BL; rw [List.length_map, idx_len]
theorem rd_BL {l : List ObjT} {i : Int} (h0 : 0 ≤ i) (h1 : i < l.length) : rd (BL l) i = (baseL l i.toNat : Int) := by
 unfold rd BL idx
 rw [List.getD_eq_getElem?_getD, List.getElem?_map, List.getElem?_range (by omega)]
 show ((bsL l i.toNat : Nat) : Int) = _
 rw [bsL_eq (by omega)]
def tgtW (base : Int) (w : Int) : Int := if (tgtS w).2 = true then (aimS w (base + (tgtS w).1)).1 else w
def ownL (base : Int) (code : List Int) : List Int := code.map (tgtW base) ++ [0]
def textL (l : List ObjT) : Nat → List Int
 | 0 => []
 | i + 1 => textL l i ++ ownL (baseL l i : Int) (ob l i).f1
theorem textL_len (l : List ObjT) : ∀ i, (textL l i).length = baseL l i
  | 0 => rfl
  | i + 1 => by
    show (textL l i ++ ownL _ _).length = baseL l i + (ob l i).f1.length + 1
    rw [List.length_append, textL_len l i]
    unfold ownL
    rw [List.length_append, List.length_map]
    simp only [List.length_cons, List.length_nil]
    omega
def midL (l : List ObjT) (i k : Nat) : List Int := textL l i ++ (((ob l i).f1.take k).map (tgtW (baseL l i : Int)) ++ (ob l i).f1.drop k ++ [0])
theorem midL_zero (l : List ObjT) (i : Nat) : midL l i 0 = textL l i ++ ((ob l i).f1 ++ [0]) := by simp [midL]
theorem midL_end (l : List ObjT) (i : Nat) : midL l i (ob l i).f1.length = textL l (i + 1) := by
 unfold midL
 rw [List.take_length, List.drop_length, List.append_nil]
 rfl
theorem midL_len (l : List ObjT) (i k : Nat) (h : k ≤ (ob l i).f1.length) : (midL l i k).length = baseL l (i + 1) := by
 unfold midL
 rw [List.length_append, List.length_append, List.length_append, List.length_map, List.length_take, List.length_drop, textL_len]
 simp only [List.length_cons, List.length_nil]
 show _ = baseL l i + (ob l i).f1.length + 1
 omega
theorem midL_at (l : List ObjT) (i k : Nat) (h : k < (ob l i).f1.length) : (midL l i k)[baseL l i + k]? = some ((ob l i).f1[k]) := by
 unfold midL
 rw [List.getElem?_append_right (by rw [textL_len]; omega), textL_len, show baseL l i + k - baseL l i = k by omega, List.append_assoc, List.getElem?_append_right (by rw [List.length_map, List.length_take]; omega), List.length_map, List.length_take, Nat.min_eq_left (by omega), Nat.sub_self, List.getElem?_append_left (by rw [List.length_drop]; omega), List.getElem?_drop, Nat.add_zero]
 exact List.getElem?_eq_getElem h
theorem midL_step (l : List ObjT) (i k : Nat) (h : k < (ob l i).f1.length) : midL l i (k + 1) = (midL l i k).set (baseL l i + k) (tgtW (baseL l i : Int) ((ob l i).f1[k])) := by
 unfold midL
 rw [List.set_append_right _ _ (by rw [textL_len]; omega), textL_len, show baseL l i + k - baseL l i = k by omega, List.append_assoc, List.append_assoc, List.set_append_right _ _ (by rw [List.length_map, List.length_take]; omega), List.length_map, List.length_take, Nat.min_eq_left (by omega), Nat.sub_self, List.drop_eq_getElem_cons h, List.take_succ_eq_append_getElem h, List.map_append]
 simp
 rw [List.drop_eq_getElem_cons h]
 rfl
theorem midL_same (l : List ObjT) (i k : Nat) (h : k < (ob l i).f1.length) (ht : (tgtS ((ob l i).f1[k])).2 = false) : midL l i (k + 1) = midL l i k := by
 rw [midL_step l i k h]
 unfold tgtW
 rw [if_neg (by rw [ht]; decide)]
 apply List.ext_getElem?
 intro j
 by_cases e : j = baseL l i + k
 ·
  subst e
  rw [List.getElem?_set_self (by rw [midL_len l i k (by omega)]; show _ < baseL l i + (ob l i).f1.length + 1; omega), midL_at l i k h]
 ·
  rw [List.getElem?_set_ne (fun z => e z.symm)]
def aimT (t : List Int) (p : Int) (to_ : Int) : List Int := t.set p.toNat (aimS (rd t p) to_).1
def rlN (r : List (S68)) (j : Nat) : S68 := rd_T68 r (j : Int)
def relN (l : List ObjT) (d : List (List DefT)) (i : Nat) (t : List Int) : Nat → List Int
 | 0 => t
 | j + 1 => aimT (relN l d i t j) ((baseL l i : Int) + (rlN (ob l i).f5 j).f0) ((baseL l (dx d i (rlN (ob l i).f5 j).f1.toNat).f0.toNat : Int) + (dx d i (rlN (ob l i).f5 j).f1.toNat).f1)
def relT (l : List ObjT) (d : List (List DefT)) : Nat → List Int
 | 0 => textL l l.length
 | i + 1 => relN l d i (relT l d i) (ob l i).f5.length
theorem relN_len (l : List ObjT) (d : List (List DefT)) (i : Nat) (t : List Int) : ∀ j, (relN l d i t j).length = t.length
  | 0 => rfl
  | j + 1 => by
    show (List.set _ _ _).length = _
    rw [List.length_set, relN_len l d i t j]
theorem relT_len (l : List ObjT) (d : List (List DefT)) : ∀ i, (relT l d i).length = baseL l l.length
  | 0 => textL_len l l.length
  | i + 1 => by
    show (relN _ _ _ _ _).length = _
    rw [relN_len, relT_len l d i]
def errL (l : List ObjT) (entry : ByteArray) (mem r2 : Int) : Int :=
 if mem < 0 then 1 else if mem > 4096 then 1 else if r2 ≠ 0 then r2 else if (findR (gObj l l.length) entry).2.2 = false then 41 else if bigL l = true then 42 else (fillR l mem).2.1
def entL (l : List ObjT) (entry : ByteArray) (mem r2 : Int) : Int := if errL l entry mem r2 ≠ 0 then 0 else (baseL l (findR (gObj l l.length) entry).1.toNat : Int) + (findR (gObj l l.length) entry).2.1
def txtL (l : List ObjT) (d : List (List DefT)) (entry : ByteArray) (mem r2 : Int) : List Int := if errL l entry mem r2 ≠ 0 then [] else relT l d l.length
def memL (l : List ObjT) (entry : ByteArray) (mem r2 : Int) : List Int := if errL l entry mem r2 ≠ 0 then [] else (fillR l mem).1
structure LOK (l : List ObjT) (d : List (List DefT)) : Prop where
  dl : d.length = l.length
  dat : ∀ i, i < l.length → 0 ≤ (ob l i).f2 ∧ (ob l i).f2 ≤ 4096 ∧ (ob l i).f3.length ≤ 4096
  wor : ∀ i, i < l.length → ∀ x ∈ (ob l i).f1, 0 ≤ x ∧ x < 4294967296
  row : ∀ i, i < l.length → (rd_L17 d (i : Int)).length = (ob l i).f4.length
  rel : ∀ i, i < l.length → ∀ j, j < (ob l i).f5.length → 0 ≤ (rlN (ob l i).f5 j).f0 ∧ (rlN (ob l i).f5 j).f0 < (ob l i).f1.length ∧ 0 ≤ (rlN (ob l i).f5 j).f1 ∧ (rlN (ob l i).f5 j).f1 < (ob l i).f4.length
  dst : ∀ i, i < l.length → ∀ k, k < (ob l i).f4.length → 0 ≤ (dx d i k).f0 ∧ (dx d i k).f0 < l.length ∧ 0 ≤ (dx d i k).f1 ∧ (dx d i k).f1 ≤ 1000000
end Go.Proofs.YtiaohbbafaaibabDoor.P
