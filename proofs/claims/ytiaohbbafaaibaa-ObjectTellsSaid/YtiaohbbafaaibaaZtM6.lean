/- OWN TEXT and printed parts of this claim, laid together: HObj, HWid. -/
import Derived.Test.YtiaohbbafaaibaaZtM5
import Derived.Handy
import Derived.Test.YtiaohbbafaaibaaZtM0
/- OWN TEXT: what object.Check comes to (it calls closures out of a list, which the print does not take), in the print's own form. -/
namespace Go.Proofs.Ytiaohbbafaaibaa.P
open Go.RowKit Go.Maps Go.Proofs.YtiaohbbafaaibaaW.PrintWords Go.Proofs.YtiaohbbafaaibaaW.PrintLast Go.Proofs.YtiaohbbafaaibaaW.PrintMore Go.Proofs.Ytiaohbbafaaibaa.Arr Go.Proofs.Ytiaohbbafaaibaa.MapB
set_option linter.unusedVariables false
set_option linter.unusedSimpArgs false

theorem size_eq (name : ByteArray) (code : List Int) (dat : Int) (data : List Int) (syms : List Sym) (rels : List Rel) : object_size.f name code dat data syms rels = some (sizeS name code dat data syms.length rels.length) := by
  unfold object_size.f sizeS object_Name.f
  simp only [Option.bind_some]
  by_cases c0 : nameS name = true
  · rw [if_pos c0, if_pos c0]
    by_cases c1 : (code.length : Int) > 16384
    · rw [if_pos c1, if_pos c1]
    rw [if_neg c1, if_neg c1]
    by_cases c2 : (syms.length : Int) > 256
    · rw [if_pos c2, if_pos c2]
    rw [if_neg c2, if_neg c2]
    by_cases c3 : (rels.length : Int) > (code.length : Int)
    · rw [if_pos c3, if_pos c3]
    rw [if_neg c3, if_neg c3]
    by_cases c4 : dat < 0
    · rw [if_pos c4, if_pos c4]
    rw [if_neg c4, if_neg c4]
    by_cases c5 : dat > 4096
    · rw [if_pos c5, if_pos c5]
    rw [if_neg c5, if_neg c5]
    rw [show wrap64 (4096 - dat) = 4096 - dat from wrap64_id (by omega) (by omega)]
    split <;> rfl
  · rw [if_neg c0, if_neg c0]
theorem sizeS_ok {name : ByteArray} {code : List Int} {dat : Int} {data : List Int} {ns nr : Nat} (h : (sizeS name code dat data ns nr).1 = 0) : nameS name = true ∧ code.length ≤ 16384 ∧ ns ≤ 256 ∧ nr ≤ code.length ∧ 0 ≤ dat ∧ dat + (data.length : Int) ≤ 4096 := by
  unfold sizeS at h
  split at h
  · rename_i h0
    refine ⟨h0, ?_⟩
    split at h
    · exact absurd h (by decide)
    split at h
    · exact absurd h (by decide)
    split at h
    · exact absurd h (by decide)
    split at h
    · exact absurd h (by decide)
    split at h
    · exact absurd h (by decide)
    split at h
    · exact absurd h (by decide)
    omega
  · exact absurd h (by decide)
section
variable {P : Program} {ops : Array Oper} {rest : List Oper} {o : Oper} {a : Act} {Q : Exit → Act → World → Prop}
theorem lit_event {W : World} (hgd : o.guard = none) {N : Tmp} (_hd : o.dst = some N) {cs : Array Value} {e : TypeId} {n : Nat}
    (hrun : (execOp a.eval o).run P W = .ok (.value (.slice (some ⟨W.heap.size, 0, none⟩) n n)) (W.alloc (.cells cs e (0, 0))))
    (h : ∀ g, g = W.heap.size → ∀ w1, w1.heap[g]? = some (.cells cs e (0, 0)) → Below W.heap.size W w1 → wpList P ops Q rest (a.put o.dst (.slice (some ⟨g, 0, none⟩) n n)) w1) : wpList P ops Q (o :: rest) a W :=
  Kd.event_run hgd hrun (h _ rfl _ (blk_new W _) (below_alloc (Below.refl _ _) _))
end

set_option maxHeartbeats 4000000 in
set_option maxRecDepth 100000 in
theorem chk1.calls (a0_0 : ByteArray) (A0_1 : Option Addr) (c0_1 : Nat) (l0_1 : List Int) (a0_2 : Int) (A0_3 : Option Addr) (c0_3 : Nat) (l0_3 : List Int) (A0_4 : Option Addr) (c0_4 : Nat) (l0_4 : List (S120)) (A0_5 : Option Addr) (c0_5 : Nat) (l0_5 : List (S130)) (gb : Nat) (r1 r2 : Int) (w : World) (hr0_1 : Kd.C (Kd.int .u32) w A0_1 l0_1.length l0_1) (hc0_1 : l0_1.length ≤ c0_1) (hr0_3 : Kd.C (Kd.int .i64) w A0_3 l0_3.length l0_3) (hc0_3 : l0_3.length ≤ c0_3) (hr0_4 : Kd.C k120 w A0_4 l0_4.length l0_4) (hc0_4 : l0_4.length ≤ c0_4) (hr0_5 : Kd.C k130 w A0_5 l0_5.length l0_5) (hc0_5 : l0_5.length ≤ c0_5) (hob : w.heap[gb]? = some (objCell a0_0 A0_1 l0_1.length c0_1 a0_2 A0_3 l0_3.length c0_3 A0_4 l0_4.length c0_4 A0_5 l0_5.length c0_5)) (h : sizeS a0_0 l0_1 a0_2 l0_3 l0_4.length l0_5.length = (r1, r2)) :
    Calls Try.prog 109 #[.pointer (some ⟨gb, 0, none⟩)] w fun e w' => e = .returned (.agg #[.int .i64 r1, .int .i64 r2]) ∧ Below w.heap.size w w' := by
  have hu1 := Try.underlying88
  have hu2 := Try.underlying125
  have HR1 := Aside0.mk hr0_1
  have HC1 := Aside0.mk hc0_1
  have HR3 := Aside0.mk hr0_3
  have HC3 := Aside0.mk hc0_3
  have HR4 := Aside0.mk hr0_4
  have HC4 := Aside0.mk hc0_4
  have HR5 := Aside0.mk hr0_5
  have HC5 := Aside0.mk hc0_5
  have HH := Aside0.mk h
  have BO := Aside0.mk hob
  clear hr0_1 hc0_1 hr0_3 hc0_3 hr0_4 hc0_4 hr0_5 hc0_5 h hob
  go_enter Try.func109, Try.ntmps109
  go_wp2_with (first | ((with_reducible refine gate_dst (N := 1) rfl ?_); refine box_event ?hg (N := 1) ?hd (cs := #[.int .i64 0, .int .i64 0]) (t := 125) ?hr ?_; (case hd => rfl); (case hg => rfl); (case hr => first | (go_simp; done) | (go_simp; rfl)); intro gr hgr w2 BK2 hb2; have G1 := Aside0.mk (show w.heap.size ≤ gr by rw [hgr]; exact Nat.le_refl _); have HB := Aside0.mk (below_then (Below.refl w.heap.size w) (Nat.le_refl _) hb2); have BOn := Aside0.mk (blk_below BO.out hb2); have BR := Aside0.mk (show w2.heap[gr]? = some (ansCell 0 0) from BK2); clear BO BK2 hb2 hgr; have BO := BOn; clear BOn; have hco0 := blk_cell BO.out 0; have hco1 := blk_cell BO.out 1; have hco2 := blk_cell BO.out 2; have hco3 := blk_cell BO.out 3; have hco4 := blk_cell BO.out 4; have hco5 := blk_cell BO.out 5) | (go_at_call 110; refine (object_size.calls a0_0 A0_1 c0_1 l0_1 a0_2 A0_3 c0_3 l0_3 A0_4 c0_4 l0_4 A0_5 c0_5 l0_5 _ _ _ (Kd.C_below HR1.out HB.out) HC1.out (Kd.C_below HR3.out HB.out) HC3.out (Kd.C_below HR4.out HB.out) HC4.out (Kd.C_below HR5.out HB.out) HC5.out (by rw [size_eq, HH.out])).mono ?_; rintro e w3 ⟨rfl, hb⟩; have HBn := Aside0.mk (below_then HB.out HB.out.size hb); have BRn := Aside0.mk (blk_below BR.out hb); clear HB BR BO hb; have HB := HBn; have BR := BRn; clear HBn BRn) | ((with_reducible refine gate_store (t := 125) rfl ?_); refine wpList_store_whole rfl rfl rfl gr _ #[.int .i64 r1, .int .i64 r2] _ rfl rfl BR.out (by kernel_rfl) rfl (two_one _ _) ?_; intro w9 hp; have HE := Aside0.mk (hp.below HB.out G1.out); have HP := Aside0.mk hp.blk; clear hp))
  refine bodyPost_ret (results_cell_row rfl _ _ gr 125 #[.int .i64 r1, .int .i64 r2] (0, 0) _ rfl HP.out Try.underlying125 rfl (by kernel_rfl)) rfl ?_
  exact ⟨rfl, HE.out⟩

set_option maxHeartbeats 4000000 in
set_option maxRecDepth 100000 in
theorem chk2.calls (a0_0 : ByteArray) (A0_1 : Option Addr) (c0_1 : Nat) (l0_1 : List Int) (a0_2 : Int) (A0_3 : Option Addr) (c0_3 : Nat) (l0_3 : List Int) (A0_4 : Option Addr) (c0_4 : Nat) (l0_4 : List (S120)) (A0_5 : Option Addr) (c0_5 : Nat) (l0_5 : List (S130)) (gb : Nat) (r1 r2 : Int) (w : World) (hr0_1 : Kd.C (Kd.int .u32) w A0_1 l0_1.length l0_1) (hc0_1 : l0_1.length ≤ c0_1) (hr0_3 : Kd.C (Kd.int .i64) w A0_3 l0_3.length l0_3) (hc0_3 : l0_3.length ≤ c0_3) (hr0_4 : Kd.C k120 w A0_4 l0_4.length l0_4) (hc0_4 : l0_4.length ≤ c0_4) (hr0_5 : Kd.C k130 w A0_5 l0_5.length l0_5) (hc0_5 : l0_5.length ≤ c0_5) (hl : l0_4.length ≤ 1000000) (hob : w.heap[gb]? = some (objCell a0_0 A0_1 l0_1.length c0_1 a0_2 A0_3 l0_3.length c0_3 A0_4 l0_4.length c0_4 A0_5 l0_5.length c0_5)) (h : symsS l0_4 (l0_1.length : Int) = (r1, r2)) :
    Calls Try.prog 111 #[.pointer (some ⟨gb, 0, none⟩)] w fun e w' => e = .returned (.agg #[.int .i64 r1, .int .i64 r2]) ∧ Below w.heap.size w w' := by
  have hu1 := Try.underlying88
  have hu2 := Try.underlying125
  have HR1 := Aside0.mk hr0_1
  have HC1 := Aside0.mk hc0_1
  have HR3 := Aside0.mk hr0_3
  have HC3 := Aside0.mk hc0_3
  have HR4 := Aside0.mk hr0_4
  have HC4 := Aside0.mk hc0_4
  have HR5 := Aside0.mk hr0_5
  have HC5 := Aside0.mk hc0_5
  have HH := Aside0.mk h
  have BO := Aside0.mk hob
  have HL := Aside0.mk hl
  clear hl
  clear hr0_1 hc0_1 hr0_3 hc0_3 hr0_4 hc0_4 hr0_5 hc0_5 h hob
  go_enter Try.func111, Try.ntmps111
  go_wp2_with (first | ((with_reducible refine gate_dst (N := 1) rfl ?_); refine box_event ?hg (N := 1) ?hd (cs := #[.int .i64 0, .int .i64 0]) (t := 125) ?hr ?_; (case hd => rfl); (case hg => rfl); (case hr => first | (go_simp; done) | (go_simp; rfl)); intro gr hgr w2 BK2 hb2; have G1 := Aside0.mk (show w.heap.size ≤ gr by rw [hgr]; exact Nat.le_refl _); have HB := Aside0.mk (below_then (Below.refl w.heap.size w) (Nat.le_refl _) hb2); have BOn := Aside0.mk (blk_below BO.out hb2); have BR := Aside0.mk (show w2.heap[gr]? = some (ansCell 0 0) from BK2); clear BO BK2 hb2 hgr; have BO := BOn; clear BOn; have hco0 := blk_cell BO.out 0; have hco1 := blk_cell BO.out 1; have hco2 := blk_cell BO.out 2; have hco3 := blk_cell BO.out 3; have hco4 := blk_cell BO.out 4; have hco5 := blk_cell BO.out 5) | (go_at_call 112; refine (object_symbols.calls a0_0 A0_1 c0_1 l0_1 a0_2 A0_3 c0_3 l0_3 A0_4 c0_4 l0_4 A0_5 c0_5 l0_5 _ _ _ (Kd.C_below HR1.out HB.out) HC1.out (Kd.C_below HR3.out HB.out) HC3.out (Kd.C_below HR4.out HB.out) HC4.out (Kd.C_below HR5.out HB.out) HC5.out HL.out HH.out).mono ?_; rintro e w3 ⟨rfl, hb⟩; have HBn := Aside0.mk (below_then HB.out HB.out.size hb); have BRn := Aside0.mk (blk_below BR.out hb); clear HB BR BO hb; have HB := HBn; have BR := BRn; clear HBn BRn) | ((with_reducible refine gate_store (t := 125) rfl ?_); refine wpList_store_whole rfl rfl rfl gr _ #[.int .i64 r1, .int .i64 r2] _ rfl rfl BR.out (by kernel_rfl) rfl (two_one _ _) ?_; intro w9 hp; have HE := Aside0.mk (hp.below HB.out G1.out); have HP := Aside0.mk hp.blk; clear hp))
  refine bodyPost_ret (results_cell_row rfl _ _ gr 125 #[.int .i64 r1, .int .i64 r2] (0, 0) _ rfl HP.out Try.underlying125 rfl (by kernel_rfl)) rfl ?_
  exact ⟨rfl, HE.out⟩

set_option maxHeartbeats 4000000 in
set_option maxRecDepth 100000 in
theorem chk3.calls (a0_0 : ByteArray) (A0_1 : Option Addr) (c0_1 : Nat) (l0_1 : List Int) (a0_2 : Int) (A0_3 : Option Addr) (c0_3 : Nat) (l0_3 : List Int) (A0_4 : Option Addr) (c0_4 : Nat) (l0_4 : List (S120)) (A0_5 : Option Addr) (c0_5 : Nat) (l0_5 : List (S130)) (gb : Nat) (r1 r2 : Int) (w : World) (hr0_1 : Kd.C (Kd.int .u32) w A0_1 l0_1.length l0_1) (hc0_1 : l0_1.length ≤ c0_1) (hr0_3 : Kd.C (Kd.int .i64) w A0_3 l0_3.length l0_3) (hc0_3 : l0_3.length ≤ c0_3) (hr0_4 : Kd.C k120 w A0_4 l0_4.length l0_4) (hc0_4 : l0_4.length ≤ c0_4) (hr0_5 : Kd.C k130 w A0_5 l0_5.length l0_5) (hc0_5 : l0_5.length ≤ c0_5) (hw : wordsO l0_1 = true) (hl : l0_1.length ≤ 16384) (hl5 : l0_5.length ≤ 1000000) (hob : w.heap[gb]? = some (objCell a0_0 A0_1 l0_1.length c0_1 a0_2 A0_3 l0_3.length c0_3 A0_4 l0_4.length c0_4 A0_5 l0_5.length c0_5)) (h : relocsS l0_1 (l0_4.length : Int) l0_5 = (r1, r2)) :
    Calls Try.prog 113 #[.pointer (some ⟨gb, 0, none⟩)] w fun e w' => e = .returned (.agg #[.int .i64 r1, .int .i64 r2]) ∧ Below w.heap.size w w' := by
  have hu1 := Try.underlying88
  have hu2 := Try.underlying125
  have HR1 := Aside0.mk hr0_1
  have HC1 := Aside0.mk hc0_1
  have HR3 := Aside0.mk hr0_3
  have HC3 := Aside0.mk hc0_3
  have HR4 := Aside0.mk hr0_4
  have HC4 := Aside0.mk hc0_4
  have HR5 := Aside0.mk hr0_5
  have HC5 := Aside0.mk hc0_5
  have HH := Aside0.mk h
  have BO := Aside0.mk hob
  have HL := Aside0.mk hl
  have HL5 := Aside0.mk hl5
  have HW := Aside0.mk hw
  clear hl hl5 hw
  clear hr0_1 hc0_1 hr0_3 hc0_3 hr0_4 hc0_4 hr0_5 hc0_5 h hob
  go_enter Try.func113, Try.ntmps113
  go_wp2_with (first | ((with_reducible refine gate_dst (N := 1) rfl ?_); refine box_event ?hg (N := 1) ?hd (cs := #[.int .i64 0, .int .i64 0]) (t := 125) ?hr ?_; (case hd => rfl); (case hg => rfl); (case hr => first | (go_simp; done) | (go_simp; rfl)); intro gr hgr w2 BK2 hb2; have G1 := Aside0.mk (show w.heap.size ≤ gr by rw [hgr]; exact Nat.le_refl _); have HB := Aside0.mk (below_then (Below.refl w.heap.size w) (Nat.le_refl _) hb2); have BOn := Aside0.mk (blk_below BO.out hb2); have BR := Aside0.mk (show w2.heap[gr]? = some (ansCell 0 0) from BK2); clear BO BK2 hb2 hgr; have BO := BOn; clear BOn; have hco0 := blk_cell BO.out 0; have hco1 := blk_cell BO.out 1; have hco2 := blk_cell BO.out 2; have hco3 := blk_cell BO.out 3; have hco4 := blk_cell BO.out 4; have hco5 := blk_cell BO.out 5) | (go_at_call 114; refine (object_relocs.calls a0_0 A0_1 c0_1 l0_1 a0_2 A0_3 c0_3 l0_3 A0_4 c0_4 l0_4 A0_5 c0_5 l0_5 _ _ _ (Kd.C_below HR1.out HB.out) HC1.out (Kd.C_below HR3.out HB.out) HC3.out (Kd.C_below HR4.out HB.out) HC4.out (Kd.C_below HR5.out HB.out) HC5.out HW.out HL.out HL5.out HH.out).mono ?_; rintro e w3 ⟨rfl, hb⟩; have HBn := Aside0.mk (below_then HB.out HB.out.size hb); have BRn := Aside0.mk (blk_below BR.out hb); clear HB BR BO hb; have HB := HBn; have BR := BRn; clear HBn BRn) | ((with_reducible refine gate_store (t := 125) rfl ?_); refine wpList_store_whole rfl rfl rfl gr _ #[.int .i64 r1, .int .i64 r2] _ rfl rfl BR.out (by kernel_rfl) rfl (two_one _ _) ?_; intro w9 hp; have HE := Aside0.mk (hp.below HB.out G1.out); have HP := Aside0.mk hp.blk; clear hp))
  refine bodyPost_ret (results_cell_row rfl _ _ gr 125 #[.int .i64 r1, .int .i64 r2] (0, 0) _ rfl HP.out Try.underlying125 rfl (by kernel_rfl)) rfl ?_
  exact ⟨rfl, HE.out⟩

def fsCell (gb : Nat) : Obj := .cells #[(.func (.func 109) #[] #[.pointer (some ⟨gb, 0, none⟩)]), (.func (.func 111) #[] #[.pointer (some ⟨gb, 0, none⟩)]), (.func (.func 113) #[] #[.pointer (some ⟨gb, 0, none⟩)])] 127 (0, 0)
structure OC (w W : World) (gb : Nat) (oi : Obj) (gf : Nat) : Prop where
  low : Below w.heap.size w W
  obj : W.heap[gb]? = some oi
  fs : W.heap[gf]? = some (fsCell gb)
  g1 : w.heap.size ≤ gb
  g2 : w.heap.size ≤ gf
theorem OC.below {w W W1 : World} {gb gf : Nat} {oi : Obj} (h : OC w W gb oi gf) (hb : Below W.heap.size W W1) : OC w W1 gb oi gf :=
  ⟨below_then h.low h.low.size hb, blk_below h.obj hb, blk_below h.fs hb, h.g1, h.g2⟩
theorem OC.grown {w W W1 : World} {gb gf g : Nat} {oi : Obj} (h : OC w W gb oi gf) (hg : W.grownBy W1 (some g)) (hw : w.heap.size ≤ g) (h1 : gb ≠ g) (h2 : gf ≠ g) : OC w W1 gb oi gf :=
  ⟨pw_below_grown h.low (some g) h.low.size hg (fun k hk => by have := Option.some.inj hk; omega), blk_grown h.obj hg (fun e => h1 (Option.some.inj e)), blk_grown h.fs hg (fun e => h2 (Option.some.inj e)), h.g1, h.g2⟩
set_option maxHeartbeats 8000000 in
set_option maxRecDepth 100000 in
theorem object_Check.calls (a0_0 : ByteArray) (A0_1 : Option Addr) (c0_1 : Nat) (l0_1 : List Int) (a0_2 : Int) (A0_3 : Option Addr) (c0_3 : Nat) (l0_3 : List Int) (A0_4 : Option Addr) (c0_4 : Nat) (l0_4 : List (S120)) (A0_5 : Option Addr) (c0_5 : Nat) (l0_5 : List (S130)) (r1 r2 : Int) (w : World) (hr0_1 : Kd.C (Kd.int .u32) w A0_1 l0_1.length l0_1) (hc0_1 : l0_1.length ≤ c0_1) (hr0_3 : Kd.C (Kd.int .i64) w A0_3 l0_3.length l0_3) (hc0_3 : l0_3.length ≤ c0_3) (hr0_4 : Kd.C k120 w A0_4 l0_4.length l0_4) (hc0_4 : l0_4.length ≤ c0_4) (hr0_5 : Kd.C k130 w A0_5 l0_5.length l0_5) (hc0_5 : l0_5.length ≤ c0_5) (h : object_Check.f a0_0 l0_1 a0_2 l0_3 l0_4 l0_5 = some (r1, r2)) :
    Calls Try.prog 75 #[.agg #[.string a0_0, .slice A0_1 l0_1.length c0_1, .int .i64 a0_2, .slice A0_3 l0_3.length c0_3, .slice A0_4 l0_4.length c0_4, .slice A0_5 l0_5.length c0_5]] w fun e w' => e = .returned (.tuple #[.int .i64 r1, .int .i64 r2]) ∧ Below w.heap.size w w' := by
  have hu1 := Try.underlying88
  have hu2 := Try.underlying125
  unfold object_Check.f at h
  by_cases hw : wordsO l0_1 = true
  · rw [if_pos hw] at h
    have h := Option.some.inj h
    have HR1 := Aside0.mk hr0_1
    have HC1 := Aside0.mk hc0_1
    have HR3 := Aside0.mk hr0_3
    have HC3 := Aside0.mk hc0_3
    have HR4 := Aside0.mk hr0_4
    have HC4 := Aside0.mk hc0_4
    have HR5 := Aside0.mk hr0_5
    have HC5 := Aside0.mk hc0_5
    have HW := Aside0.mk hw
    clear hr0_1 hc0_1 hr0_3 hc0_3 hr0_4 hc0_4 hr0_5 hc0_5 hw
    unfold chkO at h
    have hok : (sizeS a0_0 l0_1 a0_2 l0_3 l0_4.length l0_5.length).1 = 0 → _ := fun h => sizeS_ok h
    generalize hz1 : sizeS a0_0 l0_1 a0_2 l0_3 l0_4.length l0_5.length = z1 at h hok
    have H1 := Aside0.mk hz1
    clear hz1
    obtain ⟨s1, n1⟩ := z1
    simp only at h hok
    by_cases k1 : s1 = 0
    · rw [if_pos k1] at h
      obtain ⟨_, hl1, hl4, hl5, _, _⟩ := hok k1
      subst k1
      have HL1 := Aside0.mk hl1
      have HL4 := Aside0.mk (show l0_4.length ≤ 1000000 by omega)
      have HL5 := Aside0.mk (show l0_5.length ≤ 1000000 by omega)
      clear hok hl1 hl4 hl5
      generalize hz2 : symsS l0_4 (l0_1.length : Int) = z2 at h
      have H2 := Aside0.mk hz2
      clear hz2
      obtain ⟨s2, n2⟩ := z2
      simp only at h
      by_cases k2 : s2 = 0
      · rw [if_pos k2] at h
        subst k2
        generalize hz3 : relocsS l0_1 (l0_4.length : Int) l0_5 = z3 at h
        have H3 := Aside0.mk hz3
        clear hz3
        obtain ⟨s3, n3⟩ := z3
        simp only at h
        by_cases k3 : s3 = 0
        · rw [if_pos k3] at h
          subst k3
          injection h with e1 e2
          subst e1 e2
          go_enter Try.func75, Try.ntmps75
          go_wp2_with (first | ((with_reducible refine gate_dst (N := 1) rfl ?_); refine box_event ?hg (N := 1) ?hd (cs := #[.string a0_0, .slice A0_1 l0_1.length c0_1, .int .i64 a0_2, .slice A0_3 l0_3.length c0_3, .slice A0_4 l0_4.length c0_4, .slice A0_5 l0_5.length c0_5]) (t := 88) ?hr ?_; (case hd => rfl); (case hg => rfl); (case hr => first | (go_simp; done) | (go_simp; rfl)); intro gb hgb w1 BK1 hb1; have HB := Aside0.mk (below_then (Below.refl w.heap.size w) (Nat.le_refl _) hb1); have GB := Aside0.mk (show w.heap.size ≤ gb by rw [hgb]; exact Nat.le_refl _); have BO := Aside0.mk (show w1.heap[gb]? = some (objCell a0_0 A0_1 l0_1.length c0_1 a0_2 A0_3 l0_3.length c0_3 A0_4 l0_4.length c0_4 A0_5 l0_5.length c0_5) from BK1); clear BK1 hb1 hgb) | ((with_reducible refine gate_dst (N := 11) rfl ?_); refine lit_event ?hg (N := 11) ?hd (cs := #[(.func (.func 109) #[] #[.pointer (some ⟨gb, 0, none⟩)]), (.func (.func 111) #[] #[.pointer (some ⟨gb, 0, none⟩)]), (.func (.func 113) #[] #[.pointer (some ⟨gb, 0, none⟩)])]) (e := 127) (n := 3) ?hr ?_; (case hd => rfl); (case hg => rfl); (case hr => first | (go_simp; done) | (go_simp; rfl)); intro gf hgf w2 BK2 hb2; have HO := Aside0.mk (show OC w w2 gb (objCell a0_0 A0_1 l0_1.length c0_1 a0_2 A0_3 l0_3.length c0_3 A0_4 l0_4.length c0_4 A0_5 l0_5.length c0_5) gf from ⟨below_then HB.out HB.out.size hb2, blk_below BO.out hb2, BK2, GB.out, by rw [hgf]; exact HB.out.size⟩); clear HB BO BK2 hb2 hgf GB; have hf0 := blk_cell HO.out.fs 0; have hf1 := blk_cell HO.out.fs 1; have hf2 := blk_cell HO.out.fs 2))
          refine wp_loop_rounds 4 ?_
          rw [rounds_succ]
          go_wp2_with (first | (go_at_call 109; refine (chk1.calls a0_0 A0_1 c0_1 l0_1 a0_2 A0_3 c0_3 l0_3 A0_4 c0_4 l0_4 A0_5 c0_5 l0_5 gb _ _ _ (Kd.C_below HR1.out HO.out.low) HC1.out (Kd.C_below HR3.out HO.out.low) HC3.out (Kd.C_below HR4.out HO.out.low) HC4.out (Kd.C_below HR5.out HO.out.low) HC5.out HO.out.obj H1.out).mono ?_; rintro e w3 ⟨rfl, hb⟩; have HOn := Aside0.mk (HO.out.below hb); clear HO hb; have HO := HOn; clear HOn; have hf0 := blk_cell HO.out.fs 0; have hf1 := blk_cell HO.out.fs 1; have hf2 := blk_cell HO.out.fs 2) | ((with_reducible refine gate_dst (N := 7) rfl ?_); refine box_event ?hg (N := 7) ?hd (cs := #[.int .i64 0, .int .i64 0]) (t := 125) ?hr ?_; (case hd => rfl); (case hg => rfl); (case hr => first | (go_simp; done) | (go_simp; rfl)); intro gs hgs w5 BK5 hb5; have LF := Aside0.mk (show gf < gs by rw [hgs]; exact blk_lt HO.out.fs); have LG := Aside0.mk (show gb < gs by rw [hgs]; exact blk_lt HO.out.obj); have HOn := Aside0.mk (HO.out.below hb5); have BS := Aside0.mk BK5; clear HO BK5 hb5 hgs; have HO := HOn; clear HOn; have hf0 := blk_cell HO.out.fs 0; have hf1 := blk_cell HO.out.fs 1; have hf2 := blk_cell HO.out.fs 2) | ((with_reducible refine gate_store (t := 125) rfl ?_); refine wpList_store_whole rfl rfl rfl gs _ #[.int .i64 0, .int .i64 n1] _ rfl rfl BS.out (by kernel_rfl) rfl (two_one _ _) ?_; intro w6 hp; have HOn := Aside0.mk (HO.out.grown (put_grownN hp) (by have := LG.out; have := HO.out.g1; omega) (by have := LG.out; omega) (by have := LF.out; omega)); have BSn := Aside0.mk hp.blk; clear HO BS hp LF LG; have HO := HOn; clear HOn; have hs0 := blk_cell BSn.out 0; have hs1 := blk_cell BSn.out 1; clear BSn; have hf0 := blk_cell HO.out.fs 0; have hf1 := blk_cell HO.out.fs 1; have hf2 := blk_cell HO.out.fs 2))
          rw [rounds_succ]
          go_wp2_with (first | (go_at_call 111; refine (chk2.calls a0_0 A0_1 c0_1 l0_1 a0_2 A0_3 c0_3 l0_3 A0_4 c0_4 l0_4 A0_5 c0_5 l0_5 gb _ _ _ (Kd.C_below HR1.out HO.out.low) HC1.out (Kd.C_below HR3.out HO.out.low) HC3.out (Kd.C_below HR4.out HO.out.low) HC4.out (Kd.C_below HR5.out HO.out.low) HC5.out HL4.out HO.out.obj H2.out).mono ?_; rintro e w3 ⟨rfl, hb⟩; have HOn := Aside0.mk (HO.out.below hb); clear HO hb; have HO := HOn; clear HOn; have hf0 := blk_cell HO.out.fs 0; have hf1 := blk_cell HO.out.fs 1; have hf2 := blk_cell HO.out.fs 2) | ((with_reducible refine gate_dst (N := 7) rfl ?_); refine box_event ?hg (N := 7) ?hd (cs := #[.int .i64 0, .int .i64 0]) (t := 125) ?hr ?_; (case hd => rfl); (case hg => rfl); (case hr => first | (go_simp; done) | (go_simp; rfl)); intro gs hgs w5 BK5 hb5; have LF := Aside0.mk (show gf < gs by rw [hgs]; exact blk_lt HO.out.fs); have LG := Aside0.mk (show gb < gs by rw [hgs]; exact blk_lt HO.out.obj); have HOn := Aside0.mk (HO.out.below hb5); have BS := Aside0.mk BK5; clear HO BK5 hb5 hgs; have HO := HOn; clear HOn; have hf0 := blk_cell HO.out.fs 0; have hf1 := blk_cell HO.out.fs 1; have hf2 := blk_cell HO.out.fs 2) | ((with_reducible refine gate_store (t := 125) rfl ?_); refine wpList_store_whole rfl rfl rfl gs _ #[.int .i64 0, .int .i64 n2] _ rfl rfl BS.out (by kernel_rfl) rfl (two_one _ _) ?_; intro w6 hp; have HOn := Aside0.mk (HO.out.grown (put_grownN hp) (by have := LG.out; have := HO.out.g1; omega) (by have := LG.out; omega) (by have := LF.out; omega)); have BSn := Aside0.mk hp.blk; clear HO BS hp LF LG; have HO := HOn; clear HOn; have hs0 := blk_cell BSn.out 0; have hs1 := blk_cell BSn.out 1; clear BSn; have hf0 := blk_cell HO.out.fs 0; have hf1 := blk_cell HO.out.fs 1; have hf2 := blk_cell HO.out.fs 2))
          rw [rounds_succ]
          go_wp2_with (first | (go_at_call 113; refine (chk3.calls a0_0 A0_1 c0_1 l0_1 a0_2 A0_3 c0_3 l0_3 A0_4 c0_4 l0_4 A0_5 c0_5 l0_5 gb _ _ _ (Kd.C_below HR1.out HO.out.low) HC1.out (Kd.C_below HR3.out HO.out.low) HC3.out (Kd.C_below HR4.out HO.out.low) HC4.out (Kd.C_below HR5.out HO.out.low) HC5.out HW.out HL1.out HL5.out HO.out.obj H3.out).mono ?_; rintro e w3 ⟨rfl, hb⟩; have HOn := Aside0.mk (HO.out.below hb); clear HO hb; have HO := HOn; clear HOn; have hf0 := blk_cell HO.out.fs 0; have hf1 := blk_cell HO.out.fs 1; have hf2 := blk_cell HO.out.fs 2) | ((with_reducible refine gate_dst (N := 7) rfl ?_); refine box_event ?hg (N := 7) ?hd (cs := #[.int .i64 0, .int .i64 0]) (t := 125) ?hr ?_; (case hd => rfl); (case hg => rfl); (case hr => first | (go_simp; done) | (go_simp; rfl)); intro gs hgs w5 BK5 hb5; have LF := Aside0.mk (show gf < gs by rw [hgs]; exact blk_lt HO.out.fs); have LG := Aside0.mk (show gb < gs by rw [hgs]; exact blk_lt HO.out.obj); have HOn := Aside0.mk (HO.out.below hb5); have BS := Aside0.mk BK5; clear HO BK5 hb5 hgs; have HO := HOn; clear HOn; have hf0 := blk_cell HO.out.fs 0; have hf1 := blk_cell HO.out.fs 1; have hf2 := blk_cell HO.out.fs 2) | ((with_reducible refine gate_store (t := 125) rfl ?_); refine wpList_store_whole rfl rfl rfl gs _ #[.int .i64 0, .int .i64 n3] _ rfl rfl BS.out (by kernel_rfl) rfl (two_one _ _) ?_; intro w6 hp; have HOn := Aside0.mk (HO.out.grown (put_grownN hp) (by have := LG.out; have := HO.out.g1; omega) (by have := LG.out; omega) (by have := LF.out; omega)); have BSn := Aside0.mk hp.blk; clear HO BS hp LF LG; have HO := HOn; clear HOn; have hs0 := blk_cell BSn.out 0; have hs1 := blk_cell BSn.out 1; clear BSn; have hf0 := blk_cell HO.out.fs 0; have hf1 := blk_cell HO.out.fs 1; have hf2 := blk_cell HO.out.fs 2))
          rw [rounds_succ]
          go_wp2
          go_ret2
          exact ⟨rfl, HO.out.low⟩
        · rw [if_neg k3] at h
          injection h with e1 e2
          subst e1 e2
          have k3b : (s3 != 0) = true := bne_iff_ne.mpr k3
          clear k3
          go_enter Try.func75, Try.ntmps75
          go_wp2_with (first | ((with_reducible refine gate_dst (N := 1) rfl ?_); refine box_event ?hg (N := 1) ?hd (cs := #[.string a0_0, .slice A0_1 l0_1.length c0_1, .int .i64 a0_2, .slice A0_3 l0_3.length c0_3, .slice A0_4 l0_4.length c0_4, .slice A0_5 l0_5.length c0_5]) (t := 88) ?hr ?_; (case hd => rfl); (case hg => rfl); (case hr => first | (go_simp; done) | (go_simp; rfl)); intro gb hgb w1 BK1 hb1; have HB := Aside0.mk (below_then (Below.refl w.heap.size w) (Nat.le_refl _) hb1); have GB := Aside0.mk (show w.heap.size ≤ gb by rw [hgb]; exact Nat.le_refl _); have BO := Aside0.mk (show w1.heap[gb]? = some (objCell a0_0 A0_1 l0_1.length c0_1 a0_2 A0_3 l0_3.length c0_3 A0_4 l0_4.length c0_4 A0_5 l0_5.length c0_5) from BK1); clear BK1 hb1 hgb) | ((with_reducible refine gate_dst (N := 11) rfl ?_); refine lit_event ?hg (N := 11) ?hd (cs := #[(.func (.func 109) #[] #[.pointer (some ⟨gb, 0, none⟩)]), (.func (.func 111) #[] #[.pointer (some ⟨gb, 0, none⟩)]), (.func (.func 113) #[] #[.pointer (some ⟨gb, 0, none⟩)])]) (e := 127) (n := 3) ?hr ?_; (case hd => rfl); (case hg => rfl); (case hr => first | (go_simp; done) | (go_simp; rfl)); intro gf hgf w2 BK2 hb2; have HO := Aside0.mk (show OC w w2 gb (objCell a0_0 A0_1 l0_1.length c0_1 a0_2 A0_3 l0_3.length c0_3 A0_4 l0_4.length c0_4 A0_5 l0_5.length c0_5) gf from ⟨below_then HB.out HB.out.size hb2, blk_below BO.out hb2, BK2, GB.out, by rw [hgf]; exact HB.out.size⟩); clear HB BO BK2 hb2 hgf GB; have hf0 := blk_cell HO.out.fs 0; have hf1 := blk_cell HO.out.fs 1; have hf2 := blk_cell HO.out.fs 2))
          refine wp_loop_rounds 4 ?_
          rw [rounds_succ]
          go_wp2_with (first | (go_at_call 109; refine (chk1.calls a0_0 A0_1 c0_1 l0_1 a0_2 A0_3 c0_3 l0_3 A0_4 c0_4 l0_4 A0_5 c0_5 l0_5 gb _ _ _ (Kd.C_below HR1.out HO.out.low) HC1.out (Kd.C_below HR3.out HO.out.low) HC3.out (Kd.C_below HR4.out HO.out.low) HC4.out (Kd.C_below HR5.out HO.out.low) HC5.out HO.out.obj H1.out).mono ?_; rintro e w3 ⟨rfl, hb⟩; have HOn := Aside0.mk (HO.out.below hb); clear HO hb; have HO := HOn; clear HOn; have hf0 := blk_cell HO.out.fs 0; have hf1 := blk_cell HO.out.fs 1; have hf2 := blk_cell HO.out.fs 2) | ((with_reducible refine gate_dst (N := 7) rfl ?_); refine box_event ?hg (N := 7) ?hd (cs := #[.int .i64 0, .int .i64 0]) (t := 125) ?hr ?_; (case hd => rfl); (case hg => rfl); (case hr => first | (go_simp; done) | (go_simp; rfl)); intro gs hgs w5 BK5 hb5; have LF := Aside0.mk (show gf < gs by rw [hgs]; exact blk_lt HO.out.fs); have LG := Aside0.mk (show gb < gs by rw [hgs]; exact blk_lt HO.out.obj); have HOn := Aside0.mk (HO.out.below hb5); have BS := Aside0.mk BK5; clear HO BK5 hb5 hgs; have HO := HOn; clear HOn; have hf0 := blk_cell HO.out.fs 0; have hf1 := blk_cell HO.out.fs 1; have hf2 := blk_cell HO.out.fs 2) | ((with_reducible refine gate_store (t := 125) rfl ?_); refine wpList_store_whole rfl rfl rfl gs _ #[.int .i64 0, .int .i64 n1] _ rfl rfl BS.out (by kernel_rfl) rfl (two_one _ _) ?_; intro w6 hp; have HOn := Aside0.mk (HO.out.grown (put_grownN hp) (by have := LG.out; have := HO.out.g1; omega) (by have := LG.out; omega) (by have := LF.out; omega)); have BSn := Aside0.mk hp.blk; clear HO BS hp LF LG; have HO := HOn; clear HOn; have hs0 := blk_cell BSn.out 0; have hs1 := blk_cell BSn.out 1; clear BSn; have hf0 := blk_cell HO.out.fs 0; have hf1 := blk_cell HO.out.fs 1; have hf2 := blk_cell HO.out.fs 2))
          rw [rounds_succ]
          go_wp2_with (first | (go_at_call 111; refine (chk2.calls a0_0 A0_1 c0_1 l0_1 a0_2 A0_3 c0_3 l0_3 A0_4 c0_4 l0_4 A0_5 c0_5 l0_5 gb _ _ _ (Kd.C_below HR1.out HO.out.low) HC1.out (Kd.C_below HR3.out HO.out.low) HC3.out (Kd.C_below HR4.out HO.out.low) HC4.out (Kd.C_below HR5.out HO.out.low) HC5.out HL4.out HO.out.obj H2.out).mono ?_; rintro e w3 ⟨rfl, hb⟩; have HOn := Aside0.mk (HO.out.below hb); clear HO hb; have HO := HOn; clear HOn; have hf0 := blk_cell HO.out.fs 0; have hf1 := blk_cell HO.out.fs 1; have hf2 := blk_cell HO.out.fs 2) | ((with_reducible refine gate_dst (N := 7) rfl ?_); refine box_event ?hg (N := 7) ?hd (cs := #[.int .i64 0, .int .i64 0]) (t := 125) ?hr ?_; (case hd => rfl); (case hg => rfl); (case hr => first | (go_simp; done) | (go_simp; rfl)); intro gs hgs w5 BK5 hb5; have LF := Aside0.mk (show gf < gs by rw [hgs]; exact blk_lt HO.out.fs); have LG := Aside0.mk (show gb < gs by rw [hgs]; exact blk_lt HO.out.obj); have HOn := Aside0.mk (HO.out.below hb5); have BS := Aside0.mk BK5; clear HO BK5 hb5 hgs; have HO := HOn; clear HOn; have hf0 := blk_cell HO.out.fs 0; have hf1 := blk_cell HO.out.fs 1; have hf2 := blk_cell HO.out.fs 2) | ((with_reducible refine gate_store (t := 125) rfl ?_); refine wpList_store_whole rfl rfl rfl gs _ #[.int .i64 0, .int .i64 n2] _ rfl rfl BS.out (by kernel_rfl) rfl (two_one _ _) ?_; intro w6 hp; have HOn := Aside0.mk (HO.out.grown (put_grownN hp) (by have := LG.out; have := HO.out.g1; omega) (by have := LG.out; omega) (by have := LF.out; omega)); have BSn := Aside0.mk hp.blk; clear HO BS hp LF LG; have HO := HOn; clear HOn; have hs0 := blk_cell BSn.out 0; have hs1 := blk_cell BSn.out 1; clear BSn; have hf0 := blk_cell HO.out.fs 0; have hf1 := blk_cell HO.out.fs 1; have hf2 := blk_cell HO.out.fs 2))
          rw [rounds_succ]
          go_wp2_with (first | (go_at_call 113; refine (chk3.calls a0_0 A0_1 c0_1 l0_1 a0_2 A0_3 c0_3 l0_3 A0_4 c0_4 l0_4 A0_5 c0_5 l0_5 gb _ _ _ (Kd.C_below HR1.out HO.out.low) HC1.out (Kd.C_below HR3.out HO.out.low) HC3.out (Kd.C_below HR4.out HO.out.low) HC4.out (Kd.C_below HR5.out HO.out.low) HC5.out HW.out HL1.out HL5.out HO.out.obj H3.out).mono ?_; rintro e w3 ⟨rfl, hb⟩; have HOn := Aside0.mk (HO.out.below hb); clear HO hb; have HO := HOn; clear HOn; have hf0 := blk_cell HO.out.fs 0; have hf1 := blk_cell HO.out.fs 1; have hf2 := blk_cell HO.out.fs 2) | ((with_reducible refine gate_dst (N := 7) rfl ?_); refine box_event ?hg (N := 7) ?hd (cs := #[.int .i64 0, .int .i64 0]) (t := 125) ?hr ?_; (case hd => rfl); (case hg => rfl); (case hr => first | (go_simp; done) | (go_simp; rfl)); intro gs hgs w5 BK5 hb5; have LF := Aside0.mk (show gf < gs by rw [hgs]; exact blk_lt HO.out.fs); have LG := Aside0.mk (show gb < gs by rw [hgs]; exact blk_lt HO.out.obj); have HOn := Aside0.mk (HO.out.below hb5); have BS := Aside0.mk BK5; clear HO BK5 hb5 hgs; have HO := HOn; clear HOn; have hf0 := blk_cell HO.out.fs 0; have hf1 := blk_cell HO.out.fs 1; have hf2 := blk_cell HO.out.fs 2) | ((with_reducible refine gate_store (t := 125) rfl ?_); refine wpList_store_whole rfl rfl rfl gs _ #[.int .i64 s3, .int .i64 n3] _ rfl rfl BS.out (by kernel_rfl) rfl (two_one _ _) ?_; intro w6 hp; have HOn := Aside0.mk (HO.out.grown (put_grownN hp) (by have := LG.out; have := HO.out.g1; omega) (by have := LG.out; omega) (by have := LF.out; omega)); have BSn := Aside0.mk hp.blk; clear HO BS hp LF LG; have HO := HOn; clear HOn; have hs0 := blk_cell BSn.out 0; have hs1 := blk_cell BSn.out 1; clear BSn; have hf0 := blk_cell HO.out.fs 0; have hf1 := blk_cell HO.out.fs 1; have hf2 := blk_cell HO.out.fs 2))
          repeat (go_quiet (fail); try go_wp2)
          go_ret2
          exact ⟨rfl, by first | exact HO.out.low | exact pw_below_drewN HO.out.low _⟩
      · rw [if_neg k2] at h
        injection h with e1 e2
        subst e1 e2
        have k2b : (s2 != 0) = true := bne_iff_ne.mpr k2
        clear k2
        go_enter Try.func75, Try.ntmps75
        go_wp2_with (first | ((with_reducible refine gate_dst (N := 1) rfl ?_); refine box_event ?hg (N := 1) ?hd (cs := #[.string a0_0, .slice A0_1 l0_1.length c0_1, .int .i64 a0_2, .slice A0_3 l0_3.length c0_3, .slice A0_4 l0_4.length c0_4, .slice A0_5 l0_5.length c0_5]) (t := 88) ?hr ?_; (case hd => rfl); (case hg => rfl); (case hr => first | (go_simp; done) | (go_simp; rfl)); intro gb hgb w1 BK1 hb1; have HB := Aside0.mk (below_then (Below.refl w.heap.size w) (Nat.le_refl _) hb1); have GB := Aside0.mk (show w.heap.size ≤ gb by rw [hgb]; exact Nat.le_refl _); have BO := Aside0.mk (show w1.heap[gb]? = some (objCell a0_0 A0_1 l0_1.length c0_1 a0_2 A0_3 l0_3.length c0_3 A0_4 l0_4.length c0_4 A0_5 l0_5.length c0_5) from BK1); clear BK1 hb1 hgb) | ((with_reducible refine gate_dst (N := 11) rfl ?_); refine lit_event ?hg (N := 11) ?hd (cs := #[(.func (.func 109) #[] #[.pointer (some ⟨gb, 0, none⟩)]), (.func (.func 111) #[] #[.pointer (some ⟨gb, 0, none⟩)]), (.func (.func 113) #[] #[.pointer (some ⟨gb, 0, none⟩)])]) (e := 127) (n := 3) ?hr ?_; (case hd => rfl); (case hg => rfl); (case hr => first | (go_simp; done) | (go_simp; rfl)); intro gf hgf w2 BK2 hb2; have HO := Aside0.mk (show OC w w2 gb (objCell a0_0 A0_1 l0_1.length c0_1 a0_2 A0_3 l0_3.length c0_3 A0_4 l0_4.length c0_4 A0_5 l0_5.length c0_5) gf from ⟨below_then HB.out HB.out.size hb2, blk_below BO.out hb2, BK2, GB.out, by rw [hgf]; exact HB.out.size⟩); clear HB BO BK2 hb2 hgf GB; have hf0 := blk_cell HO.out.fs 0; have hf1 := blk_cell HO.out.fs 1; have hf2 := blk_cell HO.out.fs 2))
        refine wp_loop_rounds 4 ?_
        rw [rounds_succ]
        go_wp2_with (first | (go_at_call 109; refine (chk1.calls a0_0 A0_1 c0_1 l0_1 a0_2 A0_3 c0_3 l0_3 A0_4 c0_4 l0_4 A0_5 c0_5 l0_5 gb _ _ _ (Kd.C_below HR1.out HO.out.low) HC1.out (Kd.C_below HR3.out HO.out.low) HC3.out (Kd.C_below HR4.out HO.out.low) HC4.out (Kd.C_below HR5.out HO.out.low) HC5.out HO.out.obj H1.out).mono ?_; rintro e w3 ⟨rfl, hb⟩; have HOn := Aside0.mk (HO.out.below hb); clear HO hb; have HO := HOn; clear HOn; have hf0 := blk_cell HO.out.fs 0; have hf1 := blk_cell HO.out.fs 1; have hf2 := blk_cell HO.out.fs 2) | ((with_reducible refine gate_dst (N := 7) rfl ?_); refine box_event ?hg (N := 7) ?hd (cs := #[.int .i64 0, .int .i64 0]) (t := 125) ?hr ?_; (case hd => rfl); (case hg => rfl); (case hr => first | (go_simp; done) | (go_simp; rfl)); intro gs hgs w5 BK5 hb5; have LF := Aside0.mk (show gf < gs by rw [hgs]; exact blk_lt HO.out.fs); have LG := Aside0.mk (show gb < gs by rw [hgs]; exact blk_lt HO.out.obj); have HOn := Aside0.mk (HO.out.below hb5); have BS := Aside0.mk BK5; clear HO BK5 hb5 hgs; have HO := HOn; clear HOn; have hf0 := blk_cell HO.out.fs 0; have hf1 := blk_cell HO.out.fs 1; have hf2 := blk_cell HO.out.fs 2) | ((with_reducible refine gate_store (t := 125) rfl ?_); refine wpList_store_whole rfl rfl rfl gs _ #[.int .i64 0, .int .i64 n1] _ rfl rfl BS.out (by kernel_rfl) rfl (two_one _ _) ?_; intro w6 hp; have HOn := Aside0.mk (HO.out.grown (put_grownN hp) (by have := LG.out; have := HO.out.g1; omega) (by have := LG.out; omega) (by have := LF.out; omega)); have BSn := Aside0.mk hp.blk; clear HO BS hp LF LG; have HO := HOn; clear HOn; have hs0 := blk_cell BSn.out 0; have hs1 := blk_cell BSn.out 1; clear BSn; have hf0 := blk_cell HO.out.fs 0; have hf1 := blk_cell HO.out.fs 1; have hf2 := blk_cell HO.out.fs 2))
        rw [rounds_succ]
        go_wp2_with (first | (go_at_call 111; refine (chk2.calls a0_0 A0_1 c0_1 l0_1 a0_2 A0_3 c0_3 l0_3 A0_4 c0_4 l0_4 A0_5 c0_5 l0_5 gb _ _ _ (Kd.C_below HR1.out HO.out.low) HC1.out (Kd.C_below HR3.out HO.out.low) HC3.out (Kd.C_below HR4.out HO.out.low) HC4.out (Kd.C_below HR5.out HO.out.low) HC5.out HL4.out HO.out.obj H2.out).mono ?_; rintro e w3 ⟨rfl, hb⟩; have HOn := Aside0.mk (HO.out.below hb); clear HO hb; have HO := HOn; clear HOn; have hf0 := blk_cell HO.out.fs 0; have hf1 := blk_cell HO.out.fs 1; have hf2 := blk_cell HO.out.fs 2) | ((with_reducible refine gate_dst (N := 7) rfl ?_); refine box_event ?hg (N := 7) ?hd (cs := #[.int .i64 0, .int .i64 0]) (t := 125) ?hr ?_; (case hd => rfl); (case hg => rfl); (case hr => first | (go_simp; done) | (go_simp; rfl)); intro gs hgs w5 BK5 hb5; have LF := Aside0.mk (show gf < gs by rw [hgs]; exact blk_lt HO.out.fs); have LG := Aside0.mk (show gb < gs by rw [hgs]; exact blk_lt HO.out.obj); have HOn := Aside0.mk (HO.out.below hb5); have BS := Aside0.mk BK5; clear HO BK5 hb5 hgs; have HO := HOn; clear HOn; have hf0 := blk_cell HO.out.fs 0; have hf1 := blk_cell HO.out.fs 1; have hf2 := blk_cell HO.out.fs 2) | ((with_reducible refine gate_store (t := 125) rfl ?_); refine wpList_store_whole rfl rfl rfl gs _ #[.int .i64 s2, .int .i64 n2] _ rfl rfl BS.out (by kernel_rfl) rfl (two_one _ _) ?_; intro w6 hp; have HOn := Aside0.mk (HO.out.grown (put_grownN hp) (by have := LG.out; have := HO.out.g1; omega) (by have := LG.out; omega) (by have := LF.out; omega)); have BSn := Aside0.mk hp.blk; clear HO BS hp LF LG; have HO := HOn; clear HOn; have hs0 := blk_cell BSn.out 0; have hs1 := blk_cell BSn.out 1; clear BSn; have hf0 := blk_cell HO.out.fs 0; have hf1 := blk_cell HO.out.fs 1; have hf2 := blk_cell HO.out.fs 2))
        repeat (go_quiet (fail); try go_wp2)
        go_ret2
        exact ⟨rfl, by first | exact HO.out.low | exact pw_below_drewN HO.out.low _⟩
    · rw [if_neg k1] at h
      injection h with e1 e2
      subst e1 e2
      have k1b : (s1 != 0) = true := bne_iff_ne.mpr k1
      clear k1 hok
      go_enter Try.func75, Try.ntmps75
      go_wp2_with (first | ((with_reducible refine gate_dst (N := 1) rfl ?_); refine box_event ?hg (N := 1) ?hd (cs := #[.string a0_0, .slice A0_1 l0_1.length c0_1, .int .i64 a0_2, .slice A0_3 l0_3.length c0_3, .slice A0_4 l0_4.length c0_4, .slice A0_5 l0_5.length c0_5]) (t := 88) ?hr ?_; (case hd => rfl); (case hg => rfl); (case hr => first | (go_simp; done) | (go_simp; rfl)); intro gb hgb w1 BK1 hb1; have HB := Aside0.mk (below_then (Below.refl w.heap.size w) (Nat.le_refl _) hb1); have GB := Aside0.mk (show w.heap.size ≤ gb by rw [hgb]; exact Nat.le_refl _); have BO := Aside0.mk (show w1.heap[gb]? = some (objCell a0_0 A0_1 l0_1.length c0_1 a0_2 A0_3 l0_3.length c0_3 A0_4 l0_4.length c0_4 A0_5 l0_5.length c0_5) from BK1); clear BK1 hb1 hgb) | ((with_reducible refine gate_dst (N := 11) rfl ?_); refine lit_event ?hg (N := 11) ?hd (cs := #[(.func (.func 109) #[] #[.pointer (some ⟨gb, 0, none⟩)]), (.func (.func 111) #[] #[.pointer (some ⟨gb, 0, none⟩)]), (.func (.func 113) #[] #[.pointer (some ⟨gb, 0, none⟩)])]) (e := 127) (n := 3) ?hr ?_; (case hd => rfl); (case hg => rfl); (case hr => first | (go_simp; done) | (go_simp; rfl)); intro gf hgf w2 BK2 hb2; have HO := Aside0.mk (show OC w w2 gb (objCell a0_0 A0_1 l0_1.length c0_1 a0_2 A0_3 l0_3.length c0_3 A0_4 l0_4.length c0_4 A0_5 l0_5.length c0_5) gf from ⟨below_then HB.out HB.out.size hb2, blk_below BO.out hb2, BK2, GB.out, by rw [hgf]; exact HB.out.size⟩); clear HB BO BK2 hb2 hgf GB; have hf0 := blk_cell HO.out.fs 0; have hf1 := blk_cell HO.out.fs 1; have hf2 := blk_cell HO.out.fs 2))
      refine wp_loop_rounds 4 ?_
      rw [rounds_succ]
      go_wp2_with (first | (go_at_call 109; refine (chk1.calls a0_0 A0_1 c0_1 l0_1 a0_2 A0_3 c0_3 l0_3 A0_4 c0_4 l0_4 A0_5 c0_5 l0_5 gb _ _ _ (Kd.C_below HR1.out HO.out.low) HC1.out (Kd.C_below HR3.out HO.out.low) HC3.out (Kd.C_below HR4.out HO.out.low) HC4.out (Kd.C_below HR5.out HO.out.low) HC5.out HO.out.obj H1.out).mono ?_; rintro e w3 ⟨rfl, hb⟩; have HOn := Aside0.mk (HO.out.below hb); clear HO hb; have HO := HOn; clear HOn; have hf0 := blk_cell HO.out.fs 0; have hf1 := blk_cell HO.out.fs 1; have hf2 := blk_cell HO.out.fs 2) | ((with_reducible refine gate_dst (N := 7) rfl ?_); refine box_event ?hg (N := 7) ?hd (cs := #[.int .i64 0, .int .i64 0]) (t := 125) ?hr ?_; (case hd => rfl); (case hg => rfl); (case hr => first | (go_simp; done) | (go_simp; rfl)); intro gs hgs w5 BK5 hb5; have LF := Aside0.mk (show gf < gs by rw [hgs]; exact blk_lt HO.out.fs); have LG := Aside0.mk (show gb < gs by rw [hgs]; exact blk_lt HO.out.obj); have HOn := Aside0.mk (HO.out.below hb5); have BS := Aside0.mk BK5; clear HO BK5 hb5 hgs; have HO := HOn; clear HOn; have hf0 := blk_cell HO.out.fs 0; have hf1 := blk_cell HO.out.fs 1; have hf2 := blk_cell HO.out.fs 2) | ((with_reducible refine gate_store (t := 125) rfl ?_); refine wpList_store_whole rfl rfl rfl gs _ #[.int .i64 s1, .int .i64 n1] _ rfl rfl BS.out (by kernel_rfl) rfl (two_one _ _) ?_; intro w6 hp; have HOn := Aside0.mk (HO.out.grown (put_grownN hp) (by have := LG.out; have := HO.out.g1; omega) (by have := LG.out; omega) (by have := LF.out; omega)); have BSn := Aside0.mk hp.blk; clear HO BS hp LF LG; have HO := HOn; clear HOn; have hs0 := blk_cell BSn.out 0; have hs1 := blk_cell BSn.out 1; clear BSn; have hf0 := blk_cell HO.out.fs 0; have hf1 := blk_cell HO.out.fs 1; have hf2 := blk_cell HO.out.fs 2))
      repeat (go_quiet (fail); try go_wp2)
      go_ret2
      exact ⟨rfl, by first | exact HO.out.low | exact pw_below_drewN HO.out.low _⟩
  · rw [if_neg hw] at h; cases h
end Go.Proofs.Ytiaohbbafaaibaa.P

/- OWN TEXT: lists of their own with marks behind them: what is behind such a list, and that it is filled round by round. -/
namespace Go.Proofs.Ytiaohbbafaaibaa.P
open Go.RowKit Go.Proofs.YtiaohbbafaaibaaW.PrintWords Go.Proofs.YtiaohbbafaaibaaW.PrintLast Go.Proofs.YtiaohbbafaaibaaW.PrintMore
set_option linter.unusedVariables false
set_option linter.unusedSimpArgs false

def markN (i : Nat) : Int := 9437185 + (i : Int)
def marksL {α : Type} (mk : Nat → α) (n : Nat) : List α := (List.range 64).map fun j => mk (n + j)
theorem marksL_length {α : Type} (mk : Nat → α) (n : Nat) : (marksL mk n).length = 64 := by simp [marksL]
theorem marksL_at {α : Type} (mk : Nat → α) (n j : Nat) (h : j < 64) : (marksL mk n)[j]? = some (mk (n + j)) := by simp [marksL, h]
/-- filled up to i: so far as the list with its marks. -/
structure FillW {α : Type} (l : List α) (mk : Nat → α) (x : List α) (i : Int) : Prop where
  len : x.length = l.length + 64
  lo : 0 ≤ i
  big : l.length ≤ 1000000000000000
  same : ∀ j : Nat, (j : Int) < i → x[j]? = (l ++ marksL mk l.length)[j]?
theorem FillW.start {α : Type} {l : List α} {mk : Nat → α} {z : α} {x : List α} {j : Int} (hl : l.length ≤ 9223372036854775807) (hj : wrap64 ((l.length : Int) + 64) = j) (h0 : decide (0 ≤ j) = true) (h1 : decide (j.toNat ≤ 1000000000000000) = true) (hx : x = List.replicate j.toNat z) : FillW l mk x 0 := by
  have h0 := of_decide_eq_true h0
  have h1 := of_decide_eq_true h1
  have e : j = (l.length : Int) + 64 := by
    unfold wrap64 at hj
    omega
  exact ⟨by rw [hx, List.length_replicate]; omega, Int.le_refl _, by omega, fun j hj => by omega⟩
theorem FillW.copy {α : Type} {l : List α} {mk : Nat → α} {x y : List α} {i : Int} {v : α} (h : FillW l mk x i) (h0 : decide (i < (l.length : Int)) = true) (hv : l[i.toNat]? = some v) (hy : y = x.set i.toNat v) : FillW l mk y (wrap64 (i + 1)) := by
  have h0 := of_decide_eq_true h0
  have hb := h.big
  have hlo := h.lo
  have e : wrap64 (i + 1) = i + 1 := by unfold wrap64; omega
  refine ⟨by rw [hy, List.length_set, h.len], by omega, h.big, fun j hj => ?_⟩
  rw [e] at hj
  rw [hy]
  by_cases c : j = i.toNat
  · subst c
    rw [List.getElem?_set_self (by rw [h.len]; omega), List.getElem?_append_left (by omega), hv]
  · rw [List.getElem?_set_ne (by omega), h.same j (by omega)]
theorem FillW.mark {α : Type} {l : List α} {mk : Nat → α} {x y : List α} {i : Int} {v : α} (h : FillW l mk x i) (h0 : decide (i < (l.length : Int)) = false) (h1 : decide (i < (x.length : Int)) = true) (hv : mk i.toNat = v) (hy : y = x.set i.toNat v) : FillW l mk y (wrap64 (i + 1)) := by
  have h0 := of_decide_eq_false h0
  have h1 := of_decide_eq_true h1
  have hlen := h.len
  have hb := h.big
  have hlo := h.lo
  have e : wrap64 (i + 1) = i + 1 := by unfold wrap64; omega
  refine ⟨by rw [hy, List.length_set, h.len], by omega, h.big, fun j hj => ?_⟩
  rw [e] at hj
  rw [hy]
  by_cases c : j = i.toNat
  · subst c
    rw [List.getElem?_set_self (by rw [h.len]; omega), List.getElem?_append_right (by omega), marksL_at _ _ _ (by omega), ← hv]
    congr 2
    omega
  · rw [List.getElem?_set_ne (by omega), h.same j (by omega)]
theorem FillW.done {α : Type} {l : List α} {mk : Nat → α} {x : List α} {i : Int} (h : FillW l mk x i) (h1 : decide (i < (x.length : Int)) = false) : x = l ++ marksL mk l.length := by
  have h1 := of_decide_eq_false h1
  have hlen := h.len
  apply List.ext_getElem?
  intro j
  by_cases c : (j : Int) < i
  · exact h.same j c
  · rw [List.getElem?_eq_none (by omega), List.getElem?_eq_none (by rw [List.length_append, marksL_length]; omega)]
theorem FillW.lt {α : Type} {l : List α} {mk : Nat → α} {x : List α} {i : Int} (h : FillW l mk x i) : l.length ≤ 1000000000000000 := h.big
/-- a list of its own, with its marks behind it in the same memory. -/
def WideC {α : Type} (d : Kd α) (e : Nat) (W : World) (base : Nat) (v : Value) (l : List α) (mk : Nat → α) : Prop :=
  ∃ A c, v = .slice A l.length c ∧ Kd.R d e W base (fun _ => True) (.slice A (l.length + 64) c) (l ++ marksL mk l.length)
theorem WideC.of {α : Type} {d : Kd α} {e : Nat} {W : World} {base : Nat} {A : Option Addr} {c n m : Nat} {x l : List α} {mk : Nat → α} (hR : Kd.R d e W base (fun _ => True) (.slice A n c) x) (hn : n = x.length) (hx : x = l ++ marksL mk l.length) (hm : m = l.length) : WideC d e W base (.slice A m c) l mk := by
  subst hx
  rw [List.length_append, marksL_length] at hn
  subst hn
  exact ⟨A, c, by rw [hm], hR⟩
theorem WideC.below {α : Type} {d : Kd α} {e : Nat} {W W1 : World} {base : Nat} {v : Value} {l : List α} {mk : Nat → α} (h : WideC d e W base v l mk) (hb : Below W.heap.size W W1) : WideC d e W1 base v l mk := by
  obtain ⟨A, c, h1, h2⟩ := h
  exact ⟨A, c, h1, Kd.R_below h2 hb⟩
theorem WideC.lower {α : Type} {d : Kd α} {e : Nat} {W : World} {base base' : Nat} {v : Value} {l : List α} {mk : Nat → α} (h : WideC d e W base v l mk) (hb : base' ≤ base) : WideC d e W base' v l mk := by
  obtain ⟨A, c, h1, h2⟩ := h
  exact ⟨A, c, h1, Kd.R_lower h2 hb⟩
/-- what is cut off a list may be longer than the list, as far as its memory goes. -/
theorem cut_wide {P : Program} (t e : TypeId) (kh : IntKind) {i : TypeInfo} (ht : P.underlying t = some (.slice e)) (hi : P.info? e = some i) (A : Option Addr) (n c : Nat) (j : Int) (h0 : 0 ≤ j) (hm : j ≤ c) :
    ∀ W : World, (Instr.slice t (.slice A n c) none (some (.int kh j)) none).run P W = .ok (.slice A j.toNat c) W := by
  intro W
  have hel : P.elem t = e := by simp [Program.elem, ht]
  have hu : P.underlying t = some (.slice (P.elem t)) := by rw [hel]; exact ht
  have ha : (A.map fun x => x.add 0) = A := by cases A <;> simp [Addr.add]
  rw [run_slice_h W t A n c hu kh j h0 (by omega), hel]
  simp [sizeOf, typeInfo, hi, sliced, Result.andThen, ha]
end Go.Proofs.Ytiaohbbafaaibaa.P
