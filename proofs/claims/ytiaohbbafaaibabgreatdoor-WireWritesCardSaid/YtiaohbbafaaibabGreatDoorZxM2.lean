/- OWN TEXT and printed parts of this claim, laid together: HIsa, HIsaE, P5, P12. -/
import Derived.Test.YtiaohbbafaaibabGreatDoorZxM0
import Derived.Outline
import Derived.Handy
import Derived.Deep.DeepMust
/- OWN TEXT: what isa.has and isa.Encode come to (their tables are arrays, which the print does not take), in the print's own form. -/
namespace Go.Proofs.YtiaohbbafaaibabGreatDoor.P
open Go.RowKit Go.Proofs.YtiaohbbafaaibabGreatDoorW.PrintWords Go.Proofs.YtiaohbbafaaibabGreatDoorW.PrintLast Go.Proofs.YtiaohbbafaaibabGreatDoorW.PrintMore Go.Proofs.YtiaohbbafaaibabGreatDoor.Arr
set_option linter.unusedVariables false
set_option linter.unusedSimpArgs false

/-- The fields of each op. -/
def fieldsA : Array Value := #[.int .i64 0, .int .i64 9, .int .i64 3, .int .i64 7, .int .i64 7, .int .i64 7, .int .i64 7, .int .i64 7, .int .i64 7, .int .i64 7, .int .i64 7, .int .i64 11, .int .i64 14, .int .i64 1, .int .i64 10, .int .i64 24, .int .i64 26, .int .i64 24, .int .i64 2, .int .i64 2, .int .i64 25, .int .i64 0]
theorem fieldsA_one : (fieldsA.all fun v => v.oneCell') = true := by kernel_rfl
/-- The same as numbers. -/
def fieldsL : List Int := [0, 9, 3, 7, 7, 7, 7, 7, 7, 7, 7, 11, 14, 1, 10, 24, 26, 24, 2, 2, 25, 0]
theorem fieldsA_eq : fieldsA = (fieldsL.map (Value.int .i64)).toArray := rfl
theorem isa_size3 (W : World) : (sizeOf 3).run Tryz.prog W = .ok 1 W := by kernel_rfl
set_option maxHeartbeats 4000000 in
set_option maxRecDepth 100000 in
theorem isa_fields.calls (w : World) :
  Calls Tryz.prog 121 #[] w fun e w' => e = .returned (.agg fieldsA) ∧ Below w.heap.size w w' := by
 have HB := Aside0.mk (Below.refl w.heap.size w)
 go_enter Tryz.func121, Tryz.ntmps121
 go_upto_region 2 with (first | ((with_reducible refine gate_dst (N := 0) rfl ?_); refine box_event ?hg (N := 0) ?hd (cs := #[.int .i64 0, .int .i64 0, .int .i64 0, .int .i64 0, .int .i64 0, .int .i64 0, .int .i64 0, .int .i64 0, .int .i64 0, .int .i64 0, .int .i64 0, .int .i64 0, .int .i64 0, .int .i64 0, .int .i64 0, .int .i64 0, .int .i64 0, .int .i64 0, .int .i64 0, .int .i64 0, .int .i64 0, .int .i64 0]) (t := 199) ?hr ?_; (case hd => rfl); (case hg => rfl); (case hr => first | (go_simp; done) | (go_simp; rfl)); intro g0 hge0 w1 BK0 hb0; have HB1 := Aside0.mk (below_then HB.out (Nat.le_refl _) hb0); have BGa := Aside0.mk BK0; have GE0 := Aside0.mk (show w.heap.size ≤ g0 by omega); have GL0 := Aside0.mk (show g0 < w1.heap.size from blk_lt BK0); clear BK0 hb0 hge0) | ((with_reducible refine gate_dst (N := 1) rfl ?_); refine box_event ?hg (N := 1) ?hd (cs := #[.int .i64 0, .int .i64 0, .int .i64 0, .int .i64 0, .int .i64 0, .int .i64 0, .int .i64 0, .int .i64 0, .int .i64 0, .int .i64 0, .int .i64 0, .int .i64 0, .int .i64 0, .int .i64 0, .int .i64 0, .int .i64 0, .int .i64 0, .int .i64 0, .int .i64 0, .int .i64 0, .int .i64 0, .int .i64 0]) (t := 199) ?hr ?_; (case hd => rfl); (case hg => rfl); (case hr => first | (go_simp; done) | (go_simp; rfl)); intro g1 hge1 w2 BK1 hb1; have HB2 := Aside0.mk (below_then HB1.out HB1.out.size hb1); have BG1 := Aside0.mk BK1; have BG0 := Aside0.mk (blk_below BGa.out hb1); have NE := Aside0.mk (show g0 ≠ g1 by have := GL0.out; omega); have GE1 := Aside0.mk (show w.heap.size ≤ g1 by have := HB1.out.size; omega); clear BK1 hb1 hge1 HB1 BGa GL0))
 go_wp2_with (first | ((with_reducible refine gate_store (t := 3) rfl ?_); refine wpList_store_arr_const rfl rfl rfl g1 _ _ _ _ rfl rfl rfl (isa_size3 _) BG1.out (by decide) (by simp only [List.setIfInBounds_toArray, List.set_cons_zero, List.set_cons_succ]; rfl) ?_; intro w3 hp; have HBn := Aside0.mk (hp.below HB2.out GE1.out); have BG1n := Aside0.mk hp.blk; have BG0n := Aside0.mk ((hp.far g0 NE.out).trans BG0.out); clear BG1 BG0 HB2 hp; have BG1 := BG1n; have BG0 := BG0n; have HB2 := HBn; clear BG1n BG0n HBn) | ((with_reducible refine gate_dst (N := 21) rfl ?_); (refine wpList_load_row rfl 199 _ rfl g1 rfl 199 _ (0, 0) _ BG1.out Tryz.underlying199 rfl (by kernel_rfl) ?_)) | ((with_reducible refine gate_store (t := 199) rfl ?_); refine wpList_store_whole rfl rfl rfl g0 _ fieldsA _ rfl (by rfl) BG0.out (by kernel_rfl) (by rfl) fieldsA_one ?_; intro w3 hp; have HBn := Aside0.mk (hp.below HB2.out GE0.out); have BG0n := Aside0.mk hp.blk; clear BG1 BG0 HB2 hp))
 refine wp_loop_rounds 9 ?_
 iterate 9 (rw [rounds_succ]; go_wp2_with (first | ((with_reducible refine gate_store (t := 3) rfl ?_); refine wpList_store_arr_const rfl rfl rfl g1 _ _ _ _ rfl rfl rfl (isa_size3 _) BG1.out (by decide) (by simp only [List.setIfInBounds_toArray, List.set_cons_zero, List.set_cons_succ]; rfl) ?_; intro w3 hp; have HBn := Aside0.mk (hp.below HB2.out GE1.out); have BG1n := Aside0.mk hp.blk; have BG0n := Aside0.mk ((hp.far g0 NE.out).trans BG0.out); clear BG1 BG0 HB2 hp; have BG1 := BG1n; have BG0 := BG0n; have HB2 := HBn; clear BG1n BG0n HBn) | ((with_reducible refine gate_dst (N := 21) rfl ?_); (refine wpList_load_row rfl 199 _ rfl g1 rfl 199 _ (0, 0) _ BG1.out Tryz.underlying199 rfl (by kernel_rfl) ?_)) | ((with_reducible refine gate_store (t := 199) rfl ?_); refine wpList_store_whole rfl rfl rfl g0 _ fieldsA _ rfl (by rfl) BG0.out (by kernel_rfl) (by rfl) fieldsA_one ?_; intro w3 hp; have HBn := Aside0.mk (hp.below HB2.out GE0.out); have BG0n := Aside0.mk hp.blk; clear BG1 BG0 HB2 hp)))
 exact bodyPost_ret (v := .agg fieldsA) (results_cell_row Tryz.results121 _ _ g0 199 fieldsA (0, 0) _ rfl BG0n.out Tryz.underlying199 rfl (by kernel_rfl)) rfl ⟨rfl, HBn.out⟩

def hasT (a0 : Int) : Int := fieldsL.getD a0.toNat 0
def isa_has.f (a0 : Int) : Option (Int) := if a0 < 0 then (some 0) else (if a0 ≥ 22 then (some 0) else (some (hasT a0)))
set_option maxHeartbeats 1000000 in
set_option maxRecDepth 100000 in
theorem isa_has.calls (a0 : Int) (r : Int) (w : World) (h : isa_has.f a0 = some r) :
  Calls Tryz.prog 116 #[.int .i8 a0] w fun e w' => e = .returned (.int .i64 r) ∧ Below w.heap.size w w' := by
 unfold isa_has.f at h
 by_cases c1 : a0 < 0
 ·
  rw [if_pos c1] at h
  obtain rfl := Option.some.inj h
  go_enter Tryz.func116, Tryz.ntmps116
  go_wp2
  go_ret
  exact ⟨rfl, Below.refl _ _⟩
 rw [if_neg c1] at h
 by_cases c2 : a0 ≥ 22
 ·
  rw [if_pos c2] at h
  obtain rfl := Option.some.inj h
  go_enter Tryz.func116, Tryz.ntmps116
  go_wp2
  go_ret
  exact ⟨rfl, Below.refl _ _⟩
 rw [if_neg c2] at h
 have hr := Option.some.inj h
 have hv : fieldsA[a0.toNat]? = some (.int .i64 r) := by
  rw [← hr, fieldsA_eq, List.getElem?_toArray, List.getElem?_map]
  have hl : a0.toNat < fieldsL.length := by
   have : fieldsL.length = 22 := rfl
   omega
  unfold hasT
  rw [List.getD_eq_getElem?_getD, List.getElem?_eq_getElem hl]
  rfl
 have hix := fun W => run_index_arr (P := Tryz.prog) (w := W) (cs := fieldsA) (k := .i8) (i := a0) Tryz.underlying199 (by kernel_rfl) (isa_size3 W) (by omega) (by omega) hv
 clear h hr hv
 go_enter Tryz.func116, Tryz.ntmps116
 go_wp2_with (go_at_call 121; refine (isa_fields.calls _).mono ?_; rintro e w1 ⟨rfl, hb⟩)
 go_ret
 exact ⟨rfl, hb⟩

end Go.Proofs.YtiaohbbafaaibabGreatDoor.P

/- OWN TEXT: what isa.Encode comes to (it holds an array, which the print does not take), in the print's own form. -/
namespace Go.Proofs.YtiaohbbafaaibabGreatDoor.P
open Go.RowKit Go.Proofs.YtiaohbbafaaibabGreatDoorW.PrintWords Go.Proofs.YtiaohbbafaaibabGreatDoorW.PrintLast Go.Proofs.YtiaohbbafaaibabGreatDoorW.PrintMore Go.Proofs.YtiaohbbafaaibabGreatDoor.Arr
set_option linter.unusedVariables false
set_option linter.unusedSimpArgs false

theorem cells5 {W : World} {g t : Nat} {v0 v1 v2 v3 v4 : Value} (h : W.heap[g]? = some (.cells #[v0, v1, v2, v3, v4] t (0, 0))) :
  W.cell? ⟨g, 0, none⟩ = some v0 ∧ W.cell? ⟨g, 1, none⟩ = some v1 ∧ W.cell? ⟨g, 2, none⟩ = some v2 ∧ W.cell? ⟨g, 3, none⟩ = some v3 ∧ W.cell? ⟨g, 4, none⟩ = some v4 :=
 ⟨blk_cell h 0, blk_cell h 1, blk_cell h 2, blk_cell h 3, blk_cell h 4⟩
theorem arr3_one (a b c : Int) : ((#[.int .i8 a, .int .i8 b, .int .i8 c] : Array Value).all fun v => v.oneCell') = true := by kernel_rfl
/-- May register r not be, f the op's fields, m its own bit? -/
def badReg (f r m : Int) : Prop := r < 0 ∨ 16 ≤ r ∨ (r ≠ 0 ∧ Go.bits .and .i64 f m = 0)
def lowT (f : Int) : Int := if Go.bits .and .i64 f 16 = 0 then (if Go.bits .and .i64 f 8 = 0 then 0 else -16384) else 0
def highT (f : Int) : Int := if Go.bits .and .i64 f 16 = 0 then (if Go.bits .and .i64 f 8 = 0 then 0 else 16383) else 16383
/-- The word, as the walk tells it. -/
def encW (a0 a1 a2 a3 a4 : Int) : Int := Go.bits .or .u32 (Go.bits .or .u32 (Go.bits .or .u32 (Go.bits .or .u32 (a0 * 134217728) (a1 * 8388608)) (a2 * 524288)) (a3 * 32768)) (Go.bits .and .u32 (a4 % 4294967296) 32767)
def RegRel (fv a1 a2 a3 : Int) (i : Value) : Prop :=
 i = .int .i64 0 ∨ (i = .int .i64 1 ∧ ¬ badReg fv a1 1) ∨ (i = .int .i64 2 ∧ ¬ badReg fv a1 1 ∧ ¬ badReg fv a2 2) ∨ (i = .int .i64 3 ∧ ¬ badReg fv a1 1 ∧ ¬ badReg fv a2 2 ∧ ¬ badReg fv a3 4)
def BadIns (fv a1 a2 a3 a4 : Int) : Prop := badReg fv a1 1 ∨ badReg fv a2 2 ∨ badReg fv a3 4 ∨ a4 < lowT fv ∨ a4 > highT fv
set_option maxHeartbeats 8000000 in
set_option maxRecDepth 100000 in
theorem isa_Encode.calls_in (a0 a1 a2 a3 a4 fv : Int) (r1 r2 : Int) (w : World) (h0 : 0 ≤ a0) (h22 : a0 < 22) (Hhas : Aside0 (isa_has.f a0 = some fv))
  (Hbad : Aside0 (BadIns fv a1 a2 a3 a4 → r1 = 0 ∧ r2 = 11)) (Hgood : Aside0 (¬ BadIns fv a1 a2 a3 a4 → r1 = encW a0 a1 a2 a3 a4 ∧ r2 = 0)) :
  Calls Tryz.prog 120 #[.agg #[.int .i8 a0, .int .i8 a1, .int .i8 a2, .int .i8 a3, .int .i64 a4]] w fun e w' => e = .returned (.tuple #[.int .u32 r1, .int .i64 r2]) ∧ Below w.heap.size w w' := by
 have i0 : ∀ W, (Instr.index 204 (.agg #[.int .i8 a1, .int .i8 a2, .int .i8 a3]) (.int .i64 0)).run Tryz.prog W = .ok (.int .i8 a1) W := fun _ => by kernel_rfl
 have i1 : ∀ W, (Instr.index 204 (.agg #[.int .i8 a1, .int .i8 a2, .int .i8 a3]) (.int .i64 1)).run Tryz.prog W = .ok (.int .i8 a2) W := fun _ => by kernel_rfl
 have i2 : ∀ W, (Instr.index 204 (.agg #[.int .i8 a1, .int .i8 a2, .int .i8 a3]) (.int .i64 2)).run Tryz.prog W = .ok (.int .i8 a3) W := fun _ => by kernel_rfl
 go_enter Tryz.func120, Tryz.ntmps120
 go_wp2_with (first | ((with_reducible refine gate_dst (N := 1) rfl ?_); refine box_event ?hg (N := 1) ?hd (cs := #[.int .i8 a0, .int .i8 a1, .int .i8 a2, .int .i8 a3, .int .i64 a4]) (t := 140) ?hr ?_; (case hd => rfl); (case hg => rfl); (case hr => first | (go_simp; done) | (go_simp; rfl)); intro g0 hge0 w1 BK1 hb1; have HB := Aside0.mk (below_then (Below.refl w.heap.size w) (Nat.le_refl _) hb1); have BK := Aside0.mk BK1; have GE0 := Aside0.mk (show w.heap.size ≤ g0 by omega); clear BK1 hb1 hge0; obtain ⟨q0, q1, q2, q3, q4⟩ := cells5 BK.out) | (go_at_call 116; refine (isa_has.calls a0 fv _ Hhas.out).mono ?_; rintro e w2 ⟨rfl, hb⟩; replace HB := Aside0.mk (below_then HB.out HB.out.size hb); replace BK := Aside0.mk (blk_below BK.out hb); clear hb q0 q1 q2 q3 q4; obtain ⟨q0, q1, q2, q3, q4⟩ := cells5 BK.out) | ((with_reducible refine gate_dst (N := 5) rfl ?_); refine box_event ?hg (N := 5) ?hd (cs := #[.int .i8 0, .int .i8 0, .int .i8 0]) (t := 204) ?hr ?_; (case hd => rfl); (case hg => rfl); (case hr => first | (go_simp; done) | (go_simp; rfl)); intro g1 hge1 w3 BR1 hb; have HBn := Aside0.mk (below_then HB.out HB.out.size hb); have BKn := Aside0.mk (blk_below BK.out hb); have BR := Aside0.mk BR1; have NE := Aside0.mk (show g0 ≠ g1 by have := blk_lt BK.out; omega); have GE1 := Aside0.mk (show w.heap.size ≤ g1 by have := HB.out.size; omega); clear HB BK hb q0 q1 q2 q3 q4 BR1 hge1; have HB := HBn; have BK := BKn; clear HBn BKn; obtain ⟨q0, q1, q2, q3, q4⟩ := cells5 BK.out) | ((with_reducible refine gate_store (t := 204) rfl ?_); refine wpList_store_whole rfl rfl rfl g1 _ #[.int .i8 a1, .int .i8 a2, .int .i8 a3] _ rfl (by rfl) BR.out (by kernel_rfl) (by rfl) (arr3_one _ _ _) ?_; intro w4 hp; replace HB := Aside0.mk (hp.below HB.out GE1.out); replace BK := Aside0.mk ((hp.far g0 NE.out).trans BK.out); replace BR := Aside0.mk hp.blk; clear hp q0 q1 q2 q3 q4; obtain ⟨q0, q1, q2, q3, q4⟩ := cells5 BK.out) | ((with_reducible refine gate_dst (N := 28) rfl ?_); refine wpList_load_row rfl 204 _ rfl g1 rfl 204 _ (0, 0) _ BR.out Tryz.underlying204 rfl (by kernel_rfl) ?_))
 go_loop [29] (fun i => RegRel fv a1 a2 a3 i) (fun i => 3 - (intOf i).toNat)
 case atStart => exact .inl rfl
 case round =>
  rcases hrel with rfl | ⟨rfl, hg1⟩ | ⟨rfl, hg1, hg2⟩ | ⟨rfl, hg1, hg2, hg3⟩
  ·
   -- register 0
   by_cases c1 : a1 < 0
   ·
    have hbd : badReg fv a1 1 := .inl c1
    have Hbd := Aside0.mk (show BadIns fv a1 a2 a3 a4 from .inl hbd)
    clear hbd
    go_wp2
    go_ret2
    exact ⟨by obtain ⟨rfl, rfl⟩ := Hbad.out Hbd.out; rfl, HB.out⟩
   by_cases c2 : 16 ≤ a1
   ·
    have hbd : badReg fv a1 1 := .inr (.inl c2)
    have Hbd := Aside0.mk (show BadIns fv a1 a2 a3 a4 from .inl hbd)
    clear hbd
    go_wp2
    go_ret2
    exact ⟨by obtain ⟨rfl, rfl⟩ := Hbad.out Hbd.out; rfl, HB.out⟩
   by_cases c3 : a1 = 0
   ·
    have HG := Aside0.mk (show ¬ badReg fv a1 1 from fun h => by rcases h with h | h | h <;> omega)
    have e1 : (a1 != 0) = false := by simp [c3]
    clear c3
    go_wp2
    go_round
    case rel => exact .inr (.inl ⟨rfl, HG.out⟩)
    case measure => simp [intOf]
   have e1 : (a1 != 0) = true := by simp [c3]
   by_cases c4 : Go.bits .and .i64 fv 1 = 0
   ·
    have hbd : badReg fv a1 1 := .inr (.inr ⟨c3, c4⟩)
    have Hbd := Aside0.mk (show BadIns fv a1 a2 a3 a4 from .inl hbd)
    have e2 : (Go.bits .and .i64 fv 1 == 0) = true := by simp [c4]
    clear hbd c3 c4
    go_wp2
    go_ret2
    exact ⟨by obtain ⟨rfl, rfl⟩ := Hbad.out Hbd.out; rfl, HB.out⟩
   have HG := Aside0.mk (show ¬ badReg fv a1 1 from fun h => by rcases h with h | h | h <;> first | omega | exact c4 h.2)
   have e2 : (Go.bits .and .i64 fv 1 == 0) = false := by simp [c4]
   clear c3 c4
   go_wp2
   go_round
   case rel => exact .inr (.inl ⟨rfl, HG.out⟩)
   case measure => simp [intOf]
  ·
   -- register 1
   have H1 := Aside0.mk hg1
   clear hg1
   by_cases c1 : a2 < 0
   ·
    have hbd : badReg fv a2 2 := .inl c1
    have Hbd := Aside0.mk (show BadIns fv a1 a2 a3 a4 from .inr (.inl hbd))
    clear hbd
    go_wp2
    go_ret2
    exact ⟨by obtain ⟨rfl, rfl⟩ := Hbad.out Hbd.out; rfl, HB.out⟩
   by_cases c2 : 16 ≤ a2
   ·
    have hbd : badReg fv a2 2 := .inr (.inl c2)
    have Hbd := Aside0.mk (show BadIns fv a1 a2 a3 a4 from .inr (.inl hbd))
    clear hbd
    go_wp2
    go_ret2
    exact ⟨by obtain ⟨rfl, rfl⟩ := Hbad.out Hbd.out; rfl, HB.out⟩
   by_cases c3 : a2 = 0
   ·
    have HG := Aside0.mk (show ¬ badReg fv a2 2 from fun h => by rcases h with h | h | h <;> omega)
    have e1 : (a2 != 0) = false := by simp [c3]
    clear c3
    go_wp2
    go_round
    case rel => exact .inr (.inr (.inl ⟨rfl, H1.out, HG.out⟩))
    case measure => simp [intOf]
   have e1 : (a2 != 0) = true := by simp [c3]
   by_cases c4 : Go.bits .and .i64 fv 2 = 0
   ·
    have hbd : badReg fv a2 2 := .inr (.inr ⟨c3, c4⟩)
    have Hbd := Aside0.mk (show BadIns fv a1 a2 a3 a4 from .inr (.inl hbd))
    have e2 : (Go.bits .and .i64 fv 2 == 0) = true := by simp [c4]
    clear hbd c3 c4
    go_wp2
    go_ret2
    exact ⟨by obtain ⟨rfl, rfl⟩ := Hbad.out Hbd.out; rfl, HB.out⟩
   have HG := Aside0.mk (show ¬ badReg fv a2 2 from fun h => by rcases h with h | h | h <;> first | omega | exact c4 h.2)
   have e2 : (Go.bits .and .i64 fv 2 == 0) = false := by simp [c4]
   clear c3 c4
   go_wp2
   go_round
   case rel => exact .inr (.inr (.inl ⟨rfl, H1.out, HG.out⟩))
   case measure => simp [intOf]
  ·
   -- register 2
   have H1 := Aside0.mk hg1
   have H2 := Aside0.mk hg2
   clear hg1 hg2
   by_cases c1 : a3 < 0
   ·
    have hbd : badReg fv a3 4 := .inl c1
    have Hbd := Aside0.mk (show BadIns fv a1 a2 a3 a4 from .inr (.inr (.inl hbd)))
    clear hbd
    go_wp2
    go_ret2
    exact ⟨by obtain ⟨rfl, rfl⟩ := Hbad.out Hbd.out; rfl, HB.out⟩
   by_cases c2 : 16 ≤ a3
   ·
    have hbd : badReg fv a3 4 := .inr (.inl c2)
    have Hbd := Aside0.mk (show BadIns fv a1 a2 a3 a4 from .inr (.inr (.inl hbd)))
    clear hbd
    go_wp2
    go_ret2
    exact ⟨by obtain ⟨rfl, rfl⟩ := Hbad.out Hbd.out; rfl, HB.out⟩
   by_cases c3 : a3 = 0
   ·
    have HG := Aside0.mk (show ¬ badReg fv a3 4 from fun h => by rcases h with h | h | h <;> omega)
    have e1 : (a3 != 0) = false := by simp [c3]
    clear c3
    go_wp2
    go_round
    case rel => exact .inr (.inr (.inr ⟨rfl, H1.out, H2.out, HG.out⟩))
    case measure => simp [intOf]
   have e1 : (a3 != 0) = true := by simp [c3]
   by_cases c4 : Go.bits .and .i64 fv 4 = 0
   ·
    have hbd : badReg fv a3 4 := .inr (.inr ⟨c3, c4⟩)
    have Hbd := Aside0.mk (show BadIns fv a1 a2 a3 a4 from .inr (.inr (.inl hbd)))
    have e2 : (Go.bits .and .i64 fv 4 == 0) = true := by simp [c4]
    clear hbd c3 c4
    go_wp2
    go_ret2
    exact ⟨by obtain ⟨rfl, rfl⟩ := Hbad.out Hbd.out; rfl, HB.out⟩
   have HG := Aside0.mk (show ¬ badReg fv a3 4 from fun h => by rcases h with h | h | h <;> first | omega | exact c4 h.2)
   have e2 : (Go.bits .and .i64 fv 4 == 0) = false := by simp [c4]
   clear c3 c4
   go_wp2
   go_round
   case rel => exact .inr (.inr (.inr ⟨rfl, H1.out, H2.out, HG.out⟩))
   case measure => simp [intOf]
  ·
   have b1 : 0 ≤ a1 ∧ a1 < 16 := by unfold badReg at hg1; omega
   have b2 : 0 ≤ a2 ∧ a2 < 16 := by unfold badReg at hg2; omega
   have b3 : 0 ≤ a3 ∧ a3 < 16 := by unfold badReg at hg3; omega
   obtain ⟨b1l, b1h⟩ := b1
   obtain ⟨b2l, b2h⟩ := b2
   obtain ⟨b3l, b3h⟩ := b3
   have H1 := Aside0.mk hg1
   have H2 := Aside0.mk hg2
   have H3 := Aside0.mk hg3
   clear hg1 hg2 hg3 i0 i1 i2
   by_cases c5 : Go.bits .and .i64 fv 16 = 0
   ·
    have e5 : (Go.bits .and .i64 fv 16 != 0) = false := by simp [c5]
    by_cases c6 : Go.bits .and .i64 fv 8 = 0
    ·
     have e6 : (Go.bits .and .i64 fv 8 != 0) = false := by simp [c6]
     have HL := Aside0.mk (show lowT fv = 0 from by simp [lowT, *])
     have HH := Aside0.mk (show highT fv = 0 from by simp [highT, *])
     clear c5 c6
     by_cases c7 : a4 < 0
     ·
      have Hbd := Aside0.mk (show BadIns fv a1 a2 a3 a4 from .inr (.inr (.inr (.inl (by rw [HL.out]; exact c7)))))
      go_wp2
      go_ret2
      exact ⟨by obtain ⟨rfl, rfl⟩ := Hbad.out Hbd.out; rfl, HB.out⟩
     by_cases c8 : a4 > 0
     ·
      have Hbd := Aside0.mk (show BadIns fv a1 a2 a3 a4 from .inr (.inr (.inr (.inr (by rw [HH.out]; exact c8)))))
      go_wp2
      go_ret2
      exact ⟨by obtain ⟨rfl, rfl⟩ := Hbad.out Hbd.out; rfl, HB.out⟩
     have Hgd := Aside0.mk (show ¬ BadIns fv a1 a2 a3 a4 from fun h => by rcases h with h | h | h | h | h <;> first | exact H1.out h | exact H2.out h | exact H3.out h | (rw [HL.out] at h; omega) | (rw [HH.out] at h; omega))
     have c7' : 0 ≤ a4 := by omega
     have c8' : a4 ≤ 0 := by omega
     clear c7 c8
     go_wp2
     go_ret2
     obtain ⟨rfl, rfl⟩ := Hgood.out Hgd.out
     exact ⟨by unfold encW; first | rfl | (rw [show a4 % 4294967296 = a4 by omega]; rfl), HB.out⟩
    ·
     have e6 : (Go.bits .and .i64 fv 8 != 0) = true := by simp [c6]
     have HL := Aside0.mk (show lowT fv = (-16384) from by simp [lowT, *])
     have HH := Aside0.mk (show highT fv = 16383 from by simp [highT, *])
     clear c5 c6
     by_cases c7 : a4 < (-16384)
     ·
      have Hbd := Aside0.mk (show BadIns fv a1 a2 a3 a4 from .inr (.inr (.inr (.inl (by rw [HL.out]; exact c7)))))
      go_wp2
      go_ret2
      exact ⟨by obtain ⟨rfl, rfl⟩ := Hbad.out Hbd.out; rfl, HB.out⟩
     by_cases c8 : a4 > 16383
     ·
      have Hbd := Aside0.mk (show BadIns fv a1 a2 a3 a4 from .inr (.inr (.inr (.inr (by rw [HH.out]; exact c8)))))
      go_wp2
      go_ret2
      exact ⟨by obtain ⟨rfl, rfl⟩ := Hbad.out Hbd.out; rfl, HB.out⟩
     have Hgd := Aside0.mk (show ¬ BadIns fv a1 a2 a3 a4 from fun h => by rcases h with h | h | h | h | h <;> first | exact H1.out h | exact H2.out h | exact H3.out h | (rw [HL.out] at h; omega) | (rw [HH.out] at h; omega))
     have c7' : (-16384) ≤ a4 := by omega
     have c8' : a4 ≤ 16383 := by omega
     clear c7 c8
     go_wp2
     go_ret2
     obtain ⟨rfl, rfl⟩ := Hgood.out Hgd.out
     exact ⟨by unfold encW; first | rfl | (rw [show a4 % 4294967296 = a4 by omega]; rfl), HB.out⟩
   ·
    have e5 : (Go.bits .and .i64 fv 16 != 0) = true := by simp [c5]
    have HL := Aside0.mk (show lowT fv = 0 from by simp [lowT, *])
    have HH := Aside0.mk (show highT fv = 16383 from by simp [highT, *])
    clear c5
    by_cases c7 : a4 < 0
    ·
     have Hbd := Aside0.mk (show BadIns fv a1 a2 a3 a4 from .inr (.inr (.inr (.inl (by rw [HL.out]; exact c7)))))
     go_wp2
     go_ret2
     exact ⟨by obtain ⟨rfl, rfl⟩ := Hbad.out Hbd.out; rfl, HB.out⟩
    by_cases c8 : a4 > 16383
    ·
     have Hbd := Aside0.mk (show BadIns fv a1 a2 a3 a4 from .inr (.inr (.inr (.inr (by rw [HH.out]; exact c8)))))
     go_wp2
     go_ret2
     exact ⟨by obtain ⟨rfl, rfl⟩ := Hbad.out Hbd.out; rfl, HB.out⟩
    have Hgd := Aside0.mk (show ¬ BadIns fv a1 a2 a3 a4 from fun h => by rcases h with h | h | h | h | h <;> first | exact H1.out h | exact H2.out h | exact H3.out h | (rw [HL.out] at h; omega) | (rw [HH.out] at h; omega))
    have c7' : 0 ≤ a4 := by omega
    have c8' : a4 ≤ 16383 := by omega
    clear c7 c8
    go_wp2
    go_ret2
    obtain ⟨rfl, rfl⟩ := Hgood.out Hgd.out
    exact ⟨by unfold encW; first | rfl | (rw [show a4 % 4294967296 = a4 by omega]; rfl), HB.out⟩

instance (f r m : Int) : Decidable (badReg f r m) := by unfold badReg; infer_instance
instance (f a1 a2 a3 a4 : Int) : Decidable (BadIns f a1 a2 a3 a4) := by unfold BadIns; infer_instance
def isa_Encode.f (a0 a1 a2 a3 a4 : Int) : Option (Int × Int) :=
 if a0 < 0 then (some (0, 10)) else (if a0 ≥ 22 then (some (0, 10)) else (if BadIns (hasT a0) a1 a2 a3 a4 then (some (0, 11)) else (some (encW a0 a1 a2 a3 a4, 0))))
set_option maxHeartbeats 1000000 in
set_option maxRecDepth 100000 in
theorem isa_Encode.calls_out (a0 a1 a2 a3 a4 : Int) (w : World) (h : a0 < 0 ∨ 22 ≤ a0) :
  Calls Tryz.prog 120 #[.agg #[.int .i8 a0, .int .i8 a1, .int .i8 a2, .int .i8 a3, .int .i64 a4]] w fun e w' => e = .returned (.tuple #[.int .u32 0, .int .i64 10]) ∧ Below w.heap.size w w' := by
 rcases h with h | h
 ·
  go_enter Tryz.func120, Tryz.ntmps120
  go_wp2
  go_ret2
  exact ⟨rfl, (Below.refl _ _).alloc (Nat.le_refl _) _⟩
 ·
  have h2 : ¬ a0 < 0 := by omega
  go_enter Tryz.func120, Tryz.ntmps120
  go_wp2
  go_ret2
  exact ⟨rfl, (Below.refl _ _).alloc (Nat.le_refl _) _⟩
theorem isa_Encode.calls (a0 a1 a2 a3 a4 : Int) (r1 r2 : Int) (w : World) (h : isa_Encode.f a0 a1 a2 a3 a4 = some (r1, r2)) :
  Calls Tryz.prog 120 #[.agg #[.int .i8 a0, .int .i8 a1, .int .i8 a2, .int .i8 a3, .int .i64 a4]] w fun e w' => e = .returned (.tuple #[.int .u32 r1, .int .i64 r2]) ∧ Below w.heap.size w w' := by
 unfold isa_Encode.f at h
 by_cases c1 : a0 < 0
 ·
  rw [if_pos c1] at h
  injection h with h
  injection h with h1 h2
  subst h1 h2
  exact isa_Encode.calls_out a0 a1 a2 a3 a4 w (.inl c1)
 rw [if_neg c1] at h
 by_cases c2 : a0 ≥ 22
 ·
  rw [if_pos c2] at h
  injection h with h
  injection h with h1 h2
  subst h1 h2
  exact isa_Encode.calls_out a0 a1 a2 a3 a4 w (.inr c2)
 rw [if_neg c2] at h
 refine isa_Encode.calls_in a0 a1 a2 a3 a4 (hasT a0) r1 r2 w (by omega) (by omega) ⟨by unfold isa_has.f; rw [if_neg c1, if_neg c2]⟩ ⟨fun hb => ?_⟩ ⟨fun hb => ?_⟩
 ·
  rw [if_pos hb] at h
  injection h with h
  injection h with h1 h2
  exact ⟨h1.symm, h2.symm⟩
 ·
  rw [if_neg hb] at h
  injection h with h
  injection h with h1 h2
  exact ⟨h1.symm, h2.symm⟩

end Go.Proofs.YtiaohbbafaaibabGreatDoor.P

/- What the Go functions named below come to, as plain functions, each with its proof; written by this session's prt.py over the kit's print. -/
namespace Go.Proofs.YtiaohbbafaaibabGreatDoor.P
open Go.RowKit Go.Proofs.YtiaohbbafaaibabGreatDoorW.PrintWords Go.Proofs.YtiaohbbafaaibabGreatDoorW.PrintLast Go.Proofs.YtiaohbbafaaibabGreatDoorW.PrintMore
attribute [local go_sem] max2_int min2_int max_two min_two max_three min_three max_four min_four   -- for this text's walks alone
set_option linter.unusedVariables false
set_option linter.unusedSimpArgs false
/-! ### isa_Decode: function 115 -/
def isa_Decode.j0 : Nat → Int → Bool → Int → Int → Int → Int → Int → Option (Int × Int × Int × Int × Int)
 | 0, _, _, _, _, _, _, _ => none
 | k + 1, x0, x41, x108000, x108001, x108002, x108003, x108004 => if x41 = true then ((isa_Encode.f x108000 x108001 x108002 x108003 (wrap64 (x108004 - 32768))).bind fun bt109 => (if bt109.2 = 0 then (if bt109.1 = x0 then (some (x108000, x108001, x108002, x108003, wrap64 (x108004 - 32768))) else (some ((-1), 0, 0, 0, wrap64 (x0)))) else (some ((-1), 0, 0, 0, wrap64 (x0))))) else ((isa_Encode.f x108000 x108001 x108002 x108003 x108004).bind fun bt111 => (if bt111.2 = 0 then (if bt111.1 = x0 then (some (x108000, x108001, x108002, x108003, x108004)) else (some ((-1), 0, 0, 0, wrap64 (x0)))) else (some ((-1), 0, 0, 0, wrap64 (x0)))))
def isa_Decode.f (k : Nat) (a0 : Int) : Option (Int × Int × Int × Int × Int) := (isa_has.f (IntKind.i8.wrap (a0 / 134217728))).bind fun t108 => (if (Go.bits .and .i64 t108 8) = 0 then (isa_Decode.j0 k a0 false (IntKind.i8.wrap (a0 / 134217728)) (IntKind.i8.wrap (Go.bits .and .u32 (a0 / 8388608) 15)) (IntKind.i8.wrap (Go.bits .and .u32 (a0 / 524288) 15)) (IntKind.i8.wrap (Go.bits .and .u32 (a0 / 32768) 15)) (wrap64 (Go.bits .and .u32 a0 32767))) else (if (Go.bits .and .i64 t108 16) = 0 then (isa_Decode.j0 k a0 (decide ((wrap64 (Go.bits .and .u32 a0 32767)) ≥ 16384)) (IntKind.i8.wrap (a0 / 134217728)) (IntKind.i8.wrap (Go.bits .and .u32 (a0 / 8388608) 15)) (IntKind.i8.wrap (Go.bits .and .u32 (a0 / 524288) 15)) (IntKind.i8.wrap (Go.bits .and .u32 (a0 / 32768) 15)) (wrap64 (Go.bits .and .u32 a0 32767))) else (isa_Decode.j0 k a0 false (IntKind.i8.wrap (a0 / 134217728)) (IntKind.i8.wrap (Go.bits .and .u32 (a0 / 8388608) 15)) (IntKind.i8.wrap (Go.bits .and .u32 (a0 / 524288) 15)) (IntKind.i8.wrap (Go.bits .and .u32 (a0 / 32768) 15)) (wrap64 (Go.bits .and .u32 a0 32767)))))
theorem isa_Decode.mono_l : ∀ k, (∀ y0 y1 y2 y3 y4 y5 y6, LeO (isa_Decode.j0 k y0 y1 y2 y3 y4 y5 y6) (isa_Decode.j0 (k + 1) y0 y1 y2 y3 y4 y5 y6))
 | 0 => fun _ _ _ _ _ _ _ r h => by simp [isa_Decode.j0] at h
 | k + 1 => by
  have ih0 := isa_Decode.mono_l k
  ·
   intro y0 y1 y2 y3 y4 y5 y6
   unfold isa_Decode.j0
   repeat' first
   | (with_reducible first | exact ih0 _ _ _ _ _ _ _ | exact LeO.refl _ | exact LeO.none _ | refine LeO.ite ?_ ?_ | refine LeO.bind ?_ (fun _ => ?_))
theorem isa_Decode.mono : ∀ a0 k, LeO (isa_Decode.f k a0) (isa_Decode.f (k + 1) a0) := by
 intro a0 k
 have ih0 := isa_Decode.mono_l k
 unfold isa_Decode.f
 repeat' first
   | (with_reducible first | exact ih0 _ _ _ _ _ _ _ | exact LeO.refl _ | exact LeO.none _ | refine LeO.ite ?_ ?_ | refine LeO.bind ?_ (fun _ => ?_))
set_option maxHeartbeats 8000000 in
set_option maxRecDepth 100000 in
theorem isa_Decode.calls (k : Nat) (a0 : Int) (r1 : Int) (r2 : Int) (r3 : Int) (r4 : Int) (r5 : Int) (w : World) (h : isa_Decode.f k a0 = some (r1, r2, r3, r4, r5)) :
  Calls Tryz.prog 115 #[.int .u32 a0] w fun e w' => e = .returned (.agg #[.int .i8 r1, .int .i8 r2, .int .i8 r3, .int .i8 r4, .int .i64 r5]) ∧ Below w.heap.size w w' := by
 have hu140 := Tryz.underlying140
 have HB := Aside0.mk (Below.refl w.heap.size w)
 have H : ((isa_has.f (IntKind.i8.wrap (a0 / 134217728))).bind fun t108 => (if (Go.bits .and .i64 t108 8) = 0 then (isa_Decode.j0 k a0 false (IntKind.i8.wrap (a0 / 134217728)) (IntKind.i8.wrap (Go.bits .and .u32 (a0 / 8388608) 15)) (IntKind.i8.wrap (Go.bits .and .u32 (a0 / 524288) 15)) (IntKind.i8.wrap (Go.bits .and .u32 (a0 / 32768) 15)) (wrap64 (Go.bits .and .u32 a0 32767))) else (if (Go.bits .and .i64 t108 16) = 0 then (isa_Decode.j0 k a0 (decide ((wrap64 (Go.bits .and .u32 a0 32767)) ≥ 16384)) (IntKind.i8.wrap (a0 / 134217728)) (IntKind.i8.wrap (Go.bits .and .u32 (a0 / 8388608) 15)) (IntKind.i8.wrap (Go.bits .and .u32 (a0 / 524288) 15)) (IntKind.i8.wrap (Go.bits .and .u32 (a0 / 32768) 15)) (wrap64 (Go.bits .and .u32 a0 32767))) else (isa_Decode.j0 k a0 false (IntKind.i8.wrap (a0 / 134217728)) (IntKind.i8.wrap (Go.bits .and .u32 (a0 / 8388608) 15)) (IntKind.i8.wrap (Go.bits .and .u32 (a0 / 524288) 15)) (IntKind.i8.wrap (Go.bits .and .u32 (a0 / 32768) 15)) (wrap64 (Go.bits .and .u32 a0 32767)))))) = some (r1, r2, r3, r4, r5) := h
 clear h
 replace H := Option.bind_eq_some_iff.mp H
 obtain ⟨t108, A20, H⟩ := H
 try dsimp only at H
 have A2 := Aside0.mk A20
 clear A20
 have HC3 := Aside0.mk H
 clear H
 go_enter Tryz.func115, Tryz.ntmps115
 go_upto_region 3 with (first | ((with_reducible refine gate_dst (N := 2) rfl ?_); refine box_event ?hg (N := 2) ?hd (cs := #[.int .i8 0, .int .i8 0, .int .i8 0, .int .i8 0, .int .i64 0]) (t := 140) ?hr ?_; (case hd => rfl); (case hg => rfl); (case hr => go_simp; try rfl); intro gb106 hg w4 hbox hb; have BK106 := Aside0.mk (hbox); have GW106 := Aside0.mk (gwQ hg HB.out); have GE106 := Aside0.mk (gwQ hg HB.out); replace HB := Aside0.mk (bsQ hb HB.out); clear hb hbox hg) | ((with_reducible refine gate_dst (N := 3) rfl ?_); refine box_event ?hg (N := 3) ?hd (cs := #[.int .i8 0, .int .i8 0, .int .i8 0, .int .i8 0, .int .i64 0]) (t := 140) ?hr ?_; (case hd => rfl); (case hg => rfl); (case hr => go_simp; try rfl); intro gb107 hg w5 hbox hb; have n0_ := Aside0.mk (bbQ hb BK106.out); have n1_ := Aside0.mk (bs1Q hb (by repeat with_reducible first | exact HB.out | apply pw_below_drewN | apply below_drew1 | refine below_set ?_ GE106.out)); have n2_ := Aside0.mk (hbox); have n3_ := Aside0.mk (gw1Q hg (by repeat with_reducible first | exact HB.out | apply pw_below_drewN | apply below_drew1 | refine below_set ?_ GE106.out)); have n4_ := Aside0.mk (gw1Q hg (by repeat with_reducible first | exact HB.out | apply pw_below_drewN | apply below_drew1 | refine below_set ?_ GE106.out)); have n5_ := Aside0.mk ((by rw [hg]; exact Nat.ne_of_lt (blk_lt (g := gb106) (o := .cells #[.int .i8 0, .int .i8 0, .int .i8 0, .int .i8 0, .int .i64 0] 140 (0, 0)) (by exact BK106.out)) : gb106 ≠ gb107)); have n6_ := Aside0.mk ((by rw [hg]; exact Nat.ne_of_gt (blk_lt (g := gb106) (o := .cells #[.int .i8 0, .int .i8 0, .int .i8 0, .int .i8 0, .int .i64 0] 140 (0, 0)) (by exact BK106.out)) : gb107 ≠ gb106)); clear BK106; clear HB; have BK106 := n0_; have HB := n1_; have BK107 := n2_; have GW107 := n3_; have GE107 := n4_; have NB106_107 := n5_; have NB107_106 := n6_; clear n0_ n1_ n2_ n3_ n4_ n5_ n6_; clear hb hbox hg; have hnb6 := NB107_106.out; have hnc6 := NB106_107.out; obtain ⟨hcz7_0, hcz7_1, hcz7_2, hcz7_3, hcz7_4⟩ := bcQ5 BK107.out; obtain ⟨hfz7_0, hfz7_1, hfz7_2, hfz7_3, hfz7_4⟩ := fzQ5 BK107.out) | ((with_reducible refine gate_callee (f := 116) rfl ?_); refine goesL_ (some 28) rfl rfl Tryz.func116 (by kernel_rfl) rfl #[.int .i8 (IntKind.i8.wrap (a0 / 134217728))] rfl (by (try simp only [List.map_toArray, List.map_cons, List.map_nil]); try rfl) ?_; (with_reducible refine (isa_has.calls (IntKind.i8.wrap (a0 / 134217728)) t108 _ A2.out).mono ?_); rintro e w8 ⟨rfl, hb⟩; refine ⟨_, rfl, ?_⟩; have n0_ := Aside0.mk (blk_below (g := gb106) (o := .cells #[.int .i8 0, .int .i8 0, .int .i8 0, .int .i8 0, .int .i64 0] 140 (0, 0)) (by refine blk_far ?_ NB106_107.out _; refine blk_far ?_ NB106_107.out _; refine blk_far ?_ NB106_107.out _; refine blk_far ?_ NB106_107.out _; refine blk_far ?_ NB106_107.out _; exact BK106.out) hb); have n1_ := Aside0.mk (blk_below (g := gb107) (o := .cells #[.int .i8 (IntKind.i8.wrap (a0 / 134217728)), .int .i8 (IntKind.i8.wrap (Go.bits .and .u32 (a0 / 8388608) 15)), .int .i8 (IntKind.i8.wrap (Go.bits .and .u32 (a0 / 524288) 15)), .int .i8 (IntKind.i8.wrap (Go.bits .and .u32 (a0 / 32768) 15)), .int .i64 (wrap64 (Go.bits .and .u32 a0 32767))] 140 (0, 0)) (by refine blk_put (cs := #[.int .i8 (IntKind.i8.wrap (a0 / 134217728)), .int .i8 (IntKind.i8.wrap (Go.bits .and .u32 (a0 / 8388608) 15)), .int .i8 (IntKind.i8.wrap (Go.bits .and .u32 (a0 / 524288) 15)), .int .i8 (IntKind.i8.wrap (Go.bits .and .u32 (a0 / 32768) 15)), .int .i64 0]) ?_ 4 _ rfl; refine blk_put (cs := #[.int .i8 (IntKind.i8.wrap (a0 / 134217728)), .int .i8 (IntKind.i8.wrap (Go.bits .and .u32 (a0 / 8388608) 15)), .int .i8 (IntKind.i8.wrap (Go.bits .and .u32 (a0 / 524288) 15)), .int .i8 0, .int .i64 0]) ?_ 3 _ rfl; refine blk_put (cs := #[.int .i8 (IntKind.i8.wrap (a0 / 134217728)), .int .i8 (IntKind.i8.wrap (Go.bits .and .u32 (a0 / 8388608) 15)), .int .i8 0, .int .i8 0, .int .i64 0]) ?_ 2 _ rfl; refine blk_put (cs := #[.int .i8 (IntKind.i8.wrap (a0 / 134217728)), .int .i8 0, .int .i8 0, .int .i8 0, .int .i64 0]) ?_ 1 _ rfl; refine blk_put (cs := #[.int .i8 0, .int .i8 0, .int .i8 0, .int .i8 0, .int .i64 0]) ?_ 0 _ rfl; exact BK107.out) hb); have n2_ := Aside0.mk (bs1Q hb (by repeat with_reducible first | exact HB.out | apply pw_below_drewN | apply below_drew1 | refine below_set ?_ GE106.out | refine below_set ?_ GE107.out)); clear BK106; clear BK107; clear HB; have BK106 := n0_; have BK107 := n1_; have HB := n2_; clear n0_ n1_ n2_; (try clear hb); (try clear hb2); (try clear hk); (try clear hi)))
 (try simp only [Act.put, List.setIfInBounds_toArray, List.set_cons_zero, List.set_cons_succ])
 go_cut [41] (fun v41 wc => ∃ (kq : Nat) (x41_2 : Bool), v41 = .bool x41_2 ∧ Aside0 (isa_Decode.j0 kq a0 x41_2 (IntKind.i8.wrap (a0 / 134217728)) (IntKind.i8.wrap (Go.bits .and .u32 (a0 / 8388608) 15)) (IntKind.i8.wrap (Go.bits .and .u32 (a0 / 524288) 15)) (IntKind.i8.wrap (Go.bits .and .u32 (a0 / 32768) 15)) (wrap64 (Go.bits .and .u32 a0 32767)) = some (r1, r2, r3, r4, r5)) ∧ Aside0 (kq ≤ k) ∧ Aside0 (wc.heap[gb106]? = some (.cells #[.int .i8 0, .int .i8 0, .int .i8 0, .int .i8 0, .int .i64 0] 140 (0, 0))) ∧ Aside0 (wc.heap[gb107]? = some (.cells #[.int .i8 (IntKind.i8.wrap (a0 / 134217728)), .int .i8 (IntKind.i8.wrap (Go.bits .and .u32 (a0 / 8388608) 15)), .int .i8 (IntKind.i8.wrap (Go.bits .and .u32 (a0 / 524288) 15)), .int .i8 (IntKind.i8.wrap (Go.bits .and .u32 (a0 / 32768) 15)), .int .i64 (wrap64 (Go.bits .and .u32 a0 32767))] 140 (0, 0))) ∧ Aside0 (Below w.heap.size w wc))
 case first =>
  have H := HC3.out
  clear HC3
  by_cases c9 : (Go.bits .and .i64 t108 8) = 0
  ·
   rw [if_pos c9] at H
   have c9b0 : ((Go.bits .and .i64 t108 8) == 0) = true := beq_iff_eq.mpr c9
   have c9b1 : ((Go.bits .and .i64 t108 8) != 0) = false := bne_eq_false_iff_eq.mpr c9
   clear c9
   (first | rw [c9b0] | (simp only [i64_w, i32_w]; rw [c9b0]) | skip)
   have H' := Aside0.mk H
   clear H
   go_wp2
   go_meet
   case rel => exact ⟨_, (false), (by first | rfl | (simp; done) | (simp [*]; done)), H', ⟨by first | omega | exact Nat.le_refl _⟩, ⟨by exact BK106.out⟩, ⟨by exact BK107.out⟩, ⟨by repeat with_reducible first | exact HB.out | apply pw_below_drewN | apply below_drew1 | refine below_set ?_ GE106.out | refine below_set ?_ GE107.out⟩⟩
  ·
   rw [if_neg c9] at H
   have c9b0 : ((Go.bits .and .i64 t108 8) == 0) = false := beq_eq_false_iff_ne.mpr c9
   have c9b1 : ((Go.bits .and .i64 t108 8) != 0) = true := bne_iff_ne.mpr c9
   (first | rw [c9b0] | (simp only [i64_w, i32_w]; rw [c9b0]) | skip)
   by_cases c10 : (Go.bits .and .i64 t108 16) = 0
   ·
    rw [if_pos c10] at H
    have c10b0 : ((Go.bits .and .i64 t108 16) == 0) = true := beq_iff_eq.mpr c10
    have c10b1 : ((Go.bits .and .i64 t108 16) != 0) = false := bne_eq_false_iff_eq.mpr c10
    clear c10
    have H' := Aside0.mk H
    clear H
    have hnb11 := NB107_106.out
    have hnc11 := NB106_107.out
    obtain ⟨hcz12_0, hcz12_1, hcz12_2, hcz12_3, hcz12_4⟩ := bcQ5 BK107.out
    obtain ⟨hfz12_0, hfz12_1, hfz12_2, hfz12_3, hfz12_4⟩ := fzQ5 BK107.out
    go_wp2
    go_meet
    case rel => exact ⟨_, (decide ((wrap64 (Go.bits .and .u32 a0 32767)) ≥ 16384)), (by first | rfl | (simp; done) | (simp [*]; done)), H', ⟨by first | omega | exact Nat.le_refl _⟩, ⟨by exact BK106.out⟩, ⟨by exact BK107.out⟩, ⟨by repeat with_reducible first | exact HB.out | apply pw_below_drewN | apply below_drew1 | refine below_set ?_ GE106.out | refine below_set ?_ GE107.out⟩⟩
   ·
    rw [if_neg c10] at H
    have c10b0 : ((Go.bits .and .i64 t108 16) == 0) = false := beq_eq_false_iff_ne.mpr c10
    have c10b1 : ((Go.bits .and .i64 t108 16) != 0) = true := bne_iff_ne.mpr c10
    have H' := Aside0.mk H
    clear H
    go_wp2
    go_meet
    case rel => exact ⟨_, (false), (by first | rfl | (simp; done) | (simp [*]; done)), H', ⟨by first | omega | exact Nat.le_refl _⟩, ⟨by exact BK106.out⟩, ⟨by exact BK107.out⟩, ⟨by repeat with_reducible first | exact HB.out | apply pw_below_drewN | apply below_drew1 | refine below_set ?_ GE106.out | refine below_set ?_ GE107.out⟩⟩
 case rest =>
  clear HC3
  try clear c1
  try clear p2
  try clear c6
  try clear p6
  try clear c9
  try clear c9b0
  try clear c9b1
  try clear c10
  try clear c10b0
  try clear c10b1
  try clear c11
  try clear hcz12_0 hcz12_1 hcz12_2 hcz12_3 hcz12_4
  try clear hcz7_0 hcz7_1 hcz7_2 hcz7_3 hcz7_4
  try clear hfz12_0 hfz12_1 hfz12_2 hfz12_3 hfz12_4
  try clear hfz7_0 hfz7_1 hfz7_2 hfz7_3 hfz7_4
  obtain ⟨kq, x41_2, rfl, HA, HJ2, BK106, BK107, HB⟩ := hcut
  cases kq with
  | zero => exact absurd HA.out (by simp [isa_Decode.j0])
  | succ kj2 =>
   have H := HA.out
   clear HA
   simp only [isa_Decode.j0] at H
   by_cases c13 : x41_2 = true
   ·
    subst c13
    rw [if_pos rfl] at H
    replace H := Option.bind_eq_some_iff.mp H
    obtain ⟨⟨t109, t110⟩, A140, H⟩ := H
    try dsimp only at H
    have A14 := Aside0.mk A140
    clear A140
    by_cases c15 : t110 = 0
    ·
     rw [if_pos c15] at H
     have c15b0 : (t110 == 0) = true := beq_iff_eq.mpr c15
     have c15b1 : (t110 != 0) = false := bne_eq_false_iff_eq.mpr c15
     clear c15
     by_cases c16 : t109 = a0
     ·
      rw [if_pos c16] at H
      have c16b0 : (t109 == a0) = true := beq_iff_eq.mpr c16
      have c16b1 : (t109 != a0) = false := bne_eq_false_iff_eq.mpr c16
      clear c16
      simp only [Option.some.injEq, Prod.mk.injEq] at H
      obtain ⟨rfl, rfl, rfl, rfl, rfl⟩ := H
      have hnb17 := NB107_106.out
      have hnc17 := NB106_107.out
      obtain ⟨hcz18_0, hcz18_1, hcz18_2, hcz18_3, hcz18_4⟩ := bcQ5 BK107.out
      obtain ⟨hfz18_0, hfz18_1, hfz18_2, hfz18_3, hfz18_4⟩ := fzQ5 BK107.out
      go_wp2_with (first | ((with_reducible refine gate_callee (f := 120) rfl ?_); refine goesL_ (some 48) rfl rfl Tryz.func120 (by kernel_rfl) rfl #[.agg #[.int .i8 (IntKind.i8.wrap (a0 / 134217728)), .int .i8 (IntKind.i8.wrap (Go.bits .and .u32 (a0 / 8388608) 15)), .int .i8 (IntKind.i8.wrap (Go.bits .and .u32 (a0 / 524288) 15)), .int .i8 (IntKind.i8.wrap (Go.bits .and .u32 (a0 / 32768) 15)), .int .i64 (wrap64 ((wrap64 (Go.bits .and .u32 a0 32767)) - 32768))]] rfl (by (try simp only [List.map_toArray, List.map_cons, List.map_nil]); try rfl) ?_; (with_reducible refine (isa_Encode.calls (IntKind.i8.wrap (a0 / 134217728)) (IntKind.i8.wrap (Go.bits .and .u32 (a0 / 8388608) 15)) (IntKind.i8.wrap (Go.bits .and .u32 (a0 / 524288) 15)) (IntKind.i8.wrap (Go.bits .and .u32 (a0 / 32768) 15)) (wrap64 ((wrap64 (Go.bits .and .u32 a0 32767)) - 32768)) t109 t110 _ A14.out).mono ?_); rintro e w19 ⟨rfl, hb⟩; refine ⟨_, rfl, ?_⟩; have n0_ := Aside0.mk (blk_below (g := gb106) (o := .cells #[.int .i8 0, .int .i8 0, .int .i8 0, .int .i8 0, .int .i64 0] 140 (0, 0)) (by refine blk_far ?_ NB106_107.out _; exact BK106.out) hb); have n1_ := Aside0.mk (blk_below (g := gb107) (o := .cells #[.int .i8 (IntKind.i8.wrap (a0 / 134217728)), .int .i8 (IntKind.i8.wrap (Go.bits .and .u32 (a0 / 8388608) 15)), .int .i8 (IntKind.i8.wrap (Go.bits .and .u32 (a0 / 524288) 15)), .int .i8 (IntKind.i8.wrap (Go.bits .and .u32 (a0 / 32768) 15)), .int .i64 (wrap64 ((wrap64 (Go.bits .and .u32 a0 32767)) - 32768))] 140 (0, 0)) (by refine blk_put (cs := #[.int .i8 (IntKind.i8.wrap (a0 / 134217728)), .int .i8 (IntKind.i8.wrap (Go.bits .and .u32 (a0 / 8388608) 15)), .int .i8 (IntKind.i8.wrap (Go.bits .and .u32 (a0 / 524288) 15)), .int .i8 (IntKind.i8.wrap (Go.bits .and .u32 (a0 / 32768) 15)), .int .i64 (wrap64 (Go.bits .and .u32 a0 32767))]) ?_ 4 _ rfl; exact BK107.out) hb); have n2_ := Aside0.mk (bs1Q hb (by repeat with_reducible first | exact HB.out | apply pw_below_drewN | apply below_drew1 | refine below_set ?_ GE106.out | refine below_set ?_ GE107.out)); clear BK106; clear BK107; clear HB; have BK106 := n0_; have BK107 := n1_; have HB := n2_; clear n0_ n1_ n2_; (try clear hb); (try clear hb2); (try clear hk); (try clear hi); obtain ⟨hcz20_0, hcz20_1, hcz20_2, hcz20_3, hcz20_4⟩ := bcQ5 BK107.out; obtain ⟨hfz20_0, hfz20_1, hfz20_2, hfz20_3, hfz20_4⟩ := fzQ5 BK107.out; obtain ⟨hcz21_0, hcz21_1, hcz21_2, hcz21_3, hcz21_4⟩ := bcQ5 BK106.out; obtain ⟨hfz21_0, hfz21_1, hfz21_2, hfz21_3, hfz21_4⟩ := fzQ5 BK106.out))
      refine bodyPost_ret (results_cell_row rfl _ _ gb106 140 #[.int .i8 (IntKind.i8.wrap (a0 / 134217728)), .int .i8 (IntKind.i8.wrap (Go.bits .and .u32 (a0 / 8388608) 15)), .int .i8 (IntKind.i8.wrap (Go.bits .and .u32 (a0 / 524288) 15)), .int .i8 (IntKind.i8.wrap (Go.bits .and .u32 (a0 / 32768) 15)), .int .i64 (wrap64 ((wrap64 (Go.bits .and .u32 a0 32767)) - 32768))] (0, 0) _ rfl (by refine blk_put (cs := #[.int .i8 (IntKind.i8.wrap (a0 / 134217728)), .int .i8 (IntKind.i8.wrap (Go.bits .and .u32 (a0 / 8388608) 15)), .int .i8 (IntKind.i8.wrap (Go.bits .and .u32 (a0 / 524288) 15)), .int .i8 (IntKind.i8.wrap (Go.bits .and .u32 (a0 / 32768) 15)), .int .i64 0]) ?_ 4 _ rfl; refine blk_put (cs := #[.int .i8 (IntKind.i8.wrap (a0 / 134217728)), .int .i8 (IntKind.i8.wrap (Go.bits .and .u32 (a0 / 8388608) 15)), .int .i8 (IntKind.i8.wrap (Go.bits .and .u32 (a0 / 524288) 15)), .int .i8 0, .int .i64 0]) ?_ 3 _ rfl; refine blk_put (cs := #[.int .i8 (IntKind.i8.wrap (a0 / 134217728)), .int .i8 (IntKind.i8.wrap (Go.bits .and .u32 (a0 / 8388608) 15)), .int .i8 0, .int .i8 0, .int .i64 0]) ?_ 2 _ rfl; refine blk_put (cs := #[.int .i8 (IntKind.i8.wrap (a0 / 134217728)), .int .i8 0, .int .i8 0, .int .i8 0, .int .i64 0]) ?_ 1 _ rfl; refine blk_put (cs := #[.int .i8 0, .int .i8 0, .int .i8 0, .int .i8 0, .int .i64 0]) ?_ 0 _ rfl; exact BK106.out) Tryz.underlying140 rfl (by kernel_rfl)) rfl ?_
      exact ⟨by first | rfl | (simp [errW_none, errW_some] <;> rfl) | (simp [*, errW_none, errW_some] <;> rfl), by repeat with_reducible first | exact HB.out | apply pw_below_drewN | apply below_drew1 | refine below_set ?_ GE106.out | refine below_set ?_ GE107.out⟩
     ·
      rw [if_neg c16] at H
      have c16b0 : (t109 == a0) = false := beq_eq_false_iff_ne.mpr c16
      have c16b1 : (t109 != a0) = true := bne_iff_ne.mpr c16
      simp only [Option.some.injEq, Prod.mk.injEq] at H
      obtain ⟨rfl, rfl, rfl, rfl, rfl⟩ := H
      have hnb22 := NB107_106.out
      have hnc22 := NB106_107.out
      obtain ⟨hcz23_0, hcz23_1, hcz23_2, hcz23_3, hcz23_4⟩ := bcQ5 BK107.out
      obtain ⟨hfz23_0, hfz23_1, hfz23_2, hfz23_3, hfz23_4⟩ := fzQ5 BK107.out
      go_wp2_with (first | ((with_reducible refine gate_callee (f := 120) rfl ?_); refine goesL_ (some 48) rfl rfl Tryz.func120 (by kernel_rfl) rfl #[.agg #[.int .i8 (IntKind.i8.wrap (a0 / 134217728)), .int .i8 (IntKind.i8.wrap (Go.bits .and .u32 (a0 / 8388608) 15)), .int .i8 (IntKind.i8.wrap (Go.bits .and .u32 (a0 / 524288) 15)), .int .i8 (IntKind.i8.wrap (Go.bits .and .u32 (a0 / 32768) 15)), .int .i64 (wrap64 ((wrap64 (Go.bits .and .u32 a0 32767)) - 32768))]] rfl (by (try simp only [List.map_toArray, List.map_cons, List.map_nil]); try rfl) ?_; (with_reducible refine (isa_Encode.calls (IntKind.i8.wrap (a0 / 134217728)) (IntKind.i8.wrap (Go.bits .and .u32 (a0 / 8388608) 15)) (IntKind.i8.wrap (Go.bits .and .u32 (a0 / 524288) 15)) (IntKind.i8.wrap (Go.bits .and .u32 (a0 / 32768) 15)) (wrap64 ((wrap64 (Go.bits .and .u32 a0 32767)) - 32768)) t109 t110 _ A14.out).mono ?_); rintro e w24 ⟨rfl, hb⟩; refine ⟨_, rfl, ?_⟩; have n0_ := Aside0.mk (blk_below (g := gb106) (o := .cells #[.int .i8 0, .int .i8 0, .int .i8 0, .int .i8 0, .int .i64 0] 140 (0, 0)) (by refine blk_far ?_ NB106_107.out _; exact BK106.out) hb); have n1_ := Aside0.mk (blk_below (g := gb107) (o := .cells #[.int .i8 (IntKind.i8.wrap (a0 / 134217728)), .int .i8 (IntKind.i8.wrap (Go.bits .and .u32 (a0 / 8388608) 15)), .int .i8 (IntKind.i8.wrap (Go.bits .and .u32 (a0 / 524288) 15)), .int .i8 (IntKind.i8.wrap (Go.bits .and .u32 (a0 / 32768) 15)), .int .i64 (wrap64 ((wrap64 (Go.bits .and .u32 a0 32767)) - 32768))] 140 (0, 0)) (by refine blk_put (cs := #[.int .i8 (IntKind.i8.wrap (a0 / 134217728)), .int .i8 (IntKind.i8.wrap (Go.bits .and .u32 (a0 / 8388608) 15)), .int .i8 (IntKind.i8.wrap (Go.bits .and .u32 (a0 / 524288) 15)), .int .i8 (IntKind.i8.wrap (Go.bits .and .u32 (a0 / 32768) 15)), .int .i64 (wrap64 (Go.bits .and .u32 a0 32767))]) ?_ 4 _ rfl; exact BK107.out) hb); have n2_ := Aside0.mk (bs1Q hb (by repeat with_reducible first | exact HB.out | apply pw_below_drewN | apply below_drew1 | refine below_set ?_ GE106.out | refine below_set ?_ GE107.out)); clear BK106; clear BK107; clear HB; have BK106 := n0_; have BK107 := n1_; have HB := n2_; clear n0_ n1_ n2_; (try clear hb); (try clear hb2); (try clear hk); (try clear hi); obtain ⟨hcz25_0, hcz25_1, hcz25_2, hcz25_3, hcz25_4⟩ := bcQ5 BK106.out; obtain ⟨hfz25_0, hfz25_1, hfz25_2, hfz25_3, hfz25_4⟩ := fzQ5 BK106.out))
      refine bodyPost_ret (results_cell_row rfl _ _ gb106 140 #[.int .i8 (-1), .int .i8 0, .int .i8 0, .int .i8 0, .int .i64 (wrap64 (a0))] (0, 0) _ rfl (by refine blk_put (cs := #[.int .i8 (-1), .int .i8 0, .int .i8 0, .int .i8 0, .int .i64 0]) ?_ 4 _ rfl; refine blk_put (cs := #[.int .i8 (-1), .int .i8 0, .int .i8 0, .int .i8 0, .int .i64 0]) ?_ 3 _ rfl; refine blk_put (cs := #[.int .i8 (-1), .int .i8 0, .int .i8 0, .int .i8 0, .int .i64 0]) ?_ 2 _ rfl; refine blk_put (cs := #[.int .i8 (-1), .int .i8 0, .int .i8 0, .int .i8 0, .int .i64 0]) ?_ 1 _ rfl; refine blk_put (cs := #[.int .i8 0, .int .i8 0, .int .i8 0, .int .i8 0, .int .i64 0]) ?_ 0 _ rfl; exact BK106.out) Tryz.underlying140 rfl (by kernel_rfl)) rfl ?_
      exact ⟨by first | rfl | (simp [errW_none, errW_some] <;> rfl) | (simp [*, errW_none, errW_some] <;> rfl), by repeat with_reducible first | exact HB.out | apply pw_below_drewN | apply below_drew1 | refine below_set ?_ GE106.out | refine below_set ?_ GE107.out⟩
    ·
     rw [if_neg c15] at H
     have c15b0 : (t110 == 0) = false := beq_eq_false_iff_ne.mpr c15
     have c15b1 : (t110 != 0) = true := bne_iff_ne.mpr c15
     simp only [Option.some.injEq, Prod.mk.injEq] at H
     obtain ⟨rfl, rfl, rfl, rfl, rfl⟩ := H
     have hnb26 := NB107_106.out
     have hnc26 := NB106_107.out
     obtain ⟨hcz27_0, hcz27_1, hcz27_2, hcz27_3, hcz27_4⟩ := bcQ5 BK107.out
     obtain ⟨hfz27_0, hfz27_1, hfz27_2, hfz27_3, hfz27_4⟩ := fzQ5 BK107.out
     go_wp2_with (first | ((with_reducible refine gate_callee (f := 120) rfl ?_); refine goesL_ (some 48) rfl rfl Tryz.func120 (by kernel_rfl) rfl #[.agg #[.int .i8 (IntKind.i8.wrap (a0 / 134217728)), .int .i8 (IntKind.i8.wrap (Go.bits .and .u32 (a0 / 8388608) 15)), .int .i8 (IntKind.i8.wrap (Go.bits .and .u32 (a0 / 524288) 15)), .int .i8 (IntKind.i8.wrap (Go.bits .and .u32 (a0 / 32768) 15)), .int .i64 (wrap64 ((wrap64 (Go.bits .and .u32 a0 32767)) - 32768))]] rfl (by (try simp only [List.map_toArray, List.map_cons, List.map_nil]); try rfl) ?_; (with_reducible refine (isa_Encode.calls (IntKind.i8.wrap (a0 / 134217728)) (IntKind.i8.wrap (Go.bits .and .u32 (a0 / 8388608) 15)) (IntKind.i8.wrap (Go.bits .and .u32 (a0 / 524288) 15)) (IntKind.i8.wrap (Go.bits .and .u32 (a0 / 32768) 15)) (wrap64 ((wrap64 (Go.bits .and .u32 a0 32767)) - 32768)) t109 t110 _ A14.out).mono ?_); rintro e w28 ⟨rfl, hb⟩; refine ⟨_, rfl, ?_⟩; have n0_ := Aside0.mk (blk_below (g := gb106) (o := .cells #[.int .i8 0, .int .i8 0, .int .i8 0, .int .i8 0, .int .i64 0] 140 (0, 0)) (by refine blk_far ?_ NB106_107.out _; exact BK106.out) hb); have n1_ := Aside0.mk (blk_below (g := gb107) (o := .cells #[.int .i8 (IntKind.i8.wrap (a0 / 134217728)), .int .i8 (IntKind.i8.wrap (Go.bits .and .u32 (a0 / 8388608) 15)), .int .i8 (IntKind.i8.wrap (Go.bits .and .u32 (a0 / 524288) 15)), .int .i8 (IntKind.i8.wrap (Go.bits .and .u32 (a0 / 32768) 15)), .int .i64 (wrap64 ((wrap64 (Go.bits .and .u32 a0 32767)) - 32768))] 140 (0, 0)) (by refine blk_put (cs := #[.int .i8 (IntKind.i8.wrap (a0 / 134217728)), .int .i8 (IntKind.i8.wrap (Go.bits .and .u32 (a0 / 8388608) 15)), .int .i8 (IntKind.i8.wrap (Go.bits .and .u32 (a0 / 524288) 15)), .int .i8 (IntKind.i8.wrap (Go.bits .and .u32 (a0 / 32768) 15)), .int .i64 (wrap64 (Go.bits .and .u32 a0 32767))]) ?_ 4 _ rfl; exact BK107.out) hb); have n2_ := Aside0.mk (bs1Q hb (by repeat with_reducible first | exact HB.out | apply pw_below_drewN | apply below_drew1 | refine below_set ?_ GE106.out | refine below_set ?_ GE107.out)); clear BK106; clear BK107; clear HB; have BK106 := n0_; have BK107 := n1_; have HB := n2_; clear n0_ n1_ n2_; (try clear hb); (try clear hb2); (try clear hk); (try clear hi); obtain ⟨hcz29_0, hcz29_1, hcz29_2, hcz29_3, hcz29_4⟩ := bcQ5 BK106.out; obtain ⟨hfz29_0, hfz29_1, hfz29_2, hfz29_3, hfz29_4⟩ := fzQ5 BK106.out))
     refine bodyPost_ret (results_cell_row rfl _ _ gb106 140 #[.int .i8 (-1), .int .i8 0, .int .i8 0, .int .i8 0, .int .i64 (wrap64 (a0))] (0, 0) _ rfl (by refine blk_put (cs := #[.int .i8 (-1), .int .i8 0, .int .i8 0, .int .i8 0, .int .i64 0]) ?_ 4 _ rfl; refine blk_put (cs := #[.int .i8 (-1), .int .i8 0, .int .i8 0, .int .i8 0, .int .i64 0]) ?_ 3 _ rfl; refine blk_put (cs := #[.int .i8 (-1), .int .i8 0, .int .i8 0, .int .i8 0, .int .i64 0]) ?_ 2 _ rfl; refine blk_put (cs := #[.int .i8 (-1), .int .i8 0, .int .i8 0, .int .i8 0, .int .i64 0]) ?_ 1 _ rfl; refine blk_put (cs := #[.int .i8 0, .int .i8 0, .int .i8 0, .int .i8 0, .int .i64 0]) ?_ 0 _ rfl; exact BK106.out) Tryz.underlying140 rfl (by kernel_rfl)) rfl ?_
     exact ⟨by first | rfl | (simp [errW_none, errW_some] <;> rfl) | (simp [*, errW_none, errW_some] <;> rfl), by repeat with_reducible first | exact HB.out | apply pw_below_drewN | apply below_drew1 | refine below_set ?_ GE106.out | refine below_set ?_ GE107.out⟩
   ·
    replace c13 := Bool.eq_false_iff.mpr c13
    subst c13
    rw [if_neg Bool.false_ne_true] at H
    replace H := Option.bind_eq_some_iff.mp H
    obtain ⟨⟨t111, t112⟩, A300, H⟩ := H
    try dsimp only at H
    have A30 := Aside0.mk A300
    clear A300
    by_cases c31 : t112 = 0
    ·
     rw [if_pos c31] at H
     have c31b0 : (t112 == 0) = true := beq_iff_eq.mpr c31
     have c31b1 : (t112 != 0) = false := bne_eq_false_iff_eq.mpr c31
     clear c31
     by_cases c32 : t111 = a0
     ·
      rw [if_pos c32] at H
      have c32b0 : (t111 == a0) = true := beq_iff_eq.mpr c32
      have c32b1 : (t111 != a0) = false := bne_eq_false_iff_eq.mpr c32
      clear c32
      simp only [Option.some.injEq, Prod.mk.injEq] at H
      obtain ⟨rfl, rfl, rfl, rfl, rfl⟩ := H
      have hnb33 := NB107_106.out
      have hnc33 := NB106_107.out
      obtain ⟨hcz34_0, hcz34_1, hcz34_2, hcz34_3, hcz34_4⟩ := bcQ5 BK107.out
      obtain ⟨hfz34_0, hfz34_1, hfz34_2, hfz34_3, hfz34_4⟩ := fzQ5 BK107.out
      go_wp2_with (first | ((with_reducible refine gate_callee (f := 120) rfl ?_); refine goesL_ (some 48) rfl rfl Tryz.func120 (by kernel_rfl) rfl #[.agg #[.int .i8 (IntKind.i8.wrap (a0 / 134217728)), .int .i8 (IntKind.i8.wrap (Go.bits .and .u32 (a0 / 8388608) 15)), .int .i8 (IntKind.i8.wrap (Go.bits .and .u32 (a0 / 524288) 15)), .int .i8 (IntKind.i8.wrap (Go.bits .and .u32 (a0 / 32768) 15)), .int .i64 (wrap64 (Go.bits .and .u32 a0 32767))]] rfl (by (try simp only [List.map_toArray, List.map_cons, List.map_nil]); try rfl) ?_; (with_reducible refine (isa_Encode.calls (IntKind.i8.wrap (a0 / 134217728)) (IntKind.i8.wrap (Go.bits .and .u32 (a0 / 8388608) 15)) (IntKind.i8.wrap (Go.bits .and .u32 (a0 / 524288) 15)) (IntKind.i8.wrap (Go.bits .and .u32 (a0 / 32768) 15)) (wrap64 (Go.bits .and .u32 a0 32767)) t111 t112 _ A30.out).mono ?_); rintro e w35 ⟨rfl, hb⟩; refine ⟨_, rfl, ?_⟩; replace BK106 := Aside0.mk (bbQ hb BK106.out); replace BK107 := Aside0.mk (bbQ hb BK107.out); replace HB := Aside0.mk (bs1Q hb (by repeat with_reducible first | exact HB.out | apply pw_below_drewN | apply below_drew1 | refine below_set ?_ GE106.out | refine below_set ?_ GE107.out)); (try clear hb); (try clear hb2); (try clear hk); (try clear hi); obtain ⟨hcz36_0, hcz36_1, hcz36_2, hcz36_3, hcz36_4⟩ := bcQ5 BK107.out; obtain ⟨hfz36_0, hfz36_1, hfz36_2, hfz36_3, hfz36_4⟩ := fzQ5 BK107.out; obtain ⟨hcz37_0, hcz37_1, hcz37_2, hcz37_3, hcz37_4⟩ := bcQ5 BK106.out; obtain ⟨hfz37_0, hfz37_1, hfz37_2, hfz37_3, hfz37_4⟩ := fzQ5 BK106.out))
      refine bodyPost_ret (results_cell_row rfl _ _ gb106 140 #[.int .i8 (IntKind.i8.wrap (a0 / 134217728)), .int .i8 (IntKind.i8.wrap (Go.bits .and .u32 (a0 / 8388608) 15)), .int .i8 (IntKind.i8.wrap (Go.bits .and .u32 (a0 / 524288) 15)), .int .i8 (IntKind.i8.wrap (Go.bits .and .u32 (a0 / 32768) 15)), .int .i64 (wrap64 (Go.bits .and .u32 a0 32767))] (0, 0) _ rfl (by refine blk_put (cs := #[.int .i8 (IntKind.i8.wrap (a0 / 134217728)), .int .i8 (IntKind.i8.wrap (Go.bits .and .u32 (a0 / 8388608) 15)), .int .i8 (IntKind.i8.wrap (Go.bits .and .u32 (a0 / 524288) 15)), .int .i8 (IntKind.i8.wrap (Go.bits .and .u32 (a0 / 32768) 15)), .int .i64 0]) ?_ 4 _ rfl; refine blk_put (cs := #[.int .i8 (IntKind.i8.wrap (a0 / 134217728)), .int .i8 (IntKind.i8.wrap (Go.bits .and .u32 (a0 / 8388608) 15)), .int .i8 (IntKind.i8.wrap (Go.bits .and .u32 (a0 / 524288) 15)), .int .i8 0, .int .i64 0]) ?_ 3 _ rfl; refine blk_put (cs := #[.int .i8 (IntKind.i8.wrap (a0 / 134217728)), .int .i8 (IntKind.i8.wrap (Go.bits .and .u32 (a0 / 8388608) 15)), .int .i8 0, .int .i8 0, .int .i64 0]) ?_ 2 _ rfl; refine blk_put (cs := #[.int .i8 (IntKind.i8.wrap (a0 / 134217728)), .int .i8 0, .int .i8 0, .int .i8 0, .int .i64 0]) ?_ 1 _ rfl; refine blk_put (cs := #[.int .i8 0, .int .i8 0, .int .i8 0, .int .i8 0, .int .i64 0]) ?_ 0 _ rfl; exact BK106.out) Tryz.underlying140 rfl (by kernel_rfl)) rfl ?_
      exact ⟨by first | rfl | (simp [errW_none, errW_some] <;> rfl) | (simp [*, errW_none, errW_some] <;> rfl), by repeat with_reducible first | exact HB.out | apply pw_below_drewN | apply below_drew1 | refine below_set ?_ GE106.out | refine below_set ?_ GE107.out⟩
     ·
      rw [if_neg c32] at H
      have c32b0 : (t111 == a0) = false := beq_eq_false_iff_ne.mpr c32
      have c32b1 : (t111 != a0) = true := bne_iff_ne.mpr c32
      simp only [Option.some.injEq, Prod.mk.injEq] at H
      obtain ⟨rfl, rfl, rfl, rfl, rfl⟩ := H
      have hnb38 := NB107_106.out
      have hnc38 := NB106_107.out
      obtain ⟨hcz39_0, hcz39_1, hcz39_2, hcz39_3, hcz39_4⟩ := bcQ5 BK107.out
      obtain ⟨hfz39_0, hfz39_1, hfz39_2, hfz39_3, hfz39_4⟩ := fzQ5 BK107.out
      go_wp2_with (first | ((with_reducible refine gate_callee (f := 120) rfl ?_); refine goesL_ (some 48) rfl rfl Tryz.func120 (by kernel_rfl) rfl #[.agg #[.int .i8 (IntKind.i8.wrap (a0 / 134217728)), .int .i8 (IntKind.i8.wrap (Go.bits .and .u32 (a0 / 8388608) 15)), .int .i8 (IntKind.i8.wrap (Go.bits .and .u32 (a0 / 524288) 15)), .int .i8 (IntKind.i8.wrap (Go.bits .and .u32 (a0 / 32768) 15)), .int .i64 (wrap64 (Go.bits .and .u32 a0 32767))]] rfl (by (try simp only [List.map_toArray, List.map_cons, List.map_nil]); try rfl) ?_; (with_reducible refine (isa_Encode.calls (IntKind.i8.wrap (a0 / 134217728)) (IntKind.i8.wrap (Go.bits .and .u32 (a0 / 8388608) 15)) (IntKind.i8.wrap (Go.bits .and .u32 (a0 / 524288) 15)) (IntKind.i8.wrap (Go.bits .and .u32 (a0 / 32768) 15)) (wrap64 (Go.bits .and .u32 a0 32767)) t111 t112 _ A30.out).mono ?_); rintro e w40 ⟨rfl, hb⟩; refine ⟨_, rfl, ?_⟩; replace BK106 := Aside0.mk (bbQ hb BK106.out); replace BK107 := Aside0.mk (bbQ hb BK107.out); replace HB := Aside0.mk (bs1Q hb (by repeat with_reducible first | exact HB.out | apply pw_below_drewN | apply below_drew1 | refine below_set ?_ GE106.out | refine below_set ?_ GE107.out)); (try clear hb); (try clear hb2); (try clear hk); (try clear hi); obtain ⟨hcz41_0, hcz41_1, hcz41_2, hcz41_3, hcz41_4⟩ := bcQ5 BK106.out; obtain ⟨hfz41_0, hfz41_1, hfz41_2, hfz41_3, hfz41_4⟩ := fzQ5 BK106.out))
      refine bodyPost_ret (results_cell_row rfl _ _ gb106 140 #[.int .i8 (-1), .int .i8 0, .int .i8 0, .int .i8 0, .int .i64 (wrap64 (a0))] (0, 0) _ rfl (by refine blk_put (cs := #[.int .i8 (-1), .int .i8 0, .int .i8 0, .int .i8 0, .int .i64 0]) ?_ 4 _ rfl; refine blk_put (cs := #[.int .i8 (-1), .int .i8 0, .int .i8 0, .int .i8 0, .int .i64 0]) ?_ 3 _ rfl; refine blk_put (cs := #[.int .i8 (-1), .int .i8 0, .int .i8 0, .int .i8 0, .int .i64 0]) ?_ 2 _ rfl; refine blk_put (cs := #[.int .i8 (-1), .int .i8 0, .int .i8 0, .int .i8 0, .int .i64 0]) ?_ 1 _ rfl; refine blk_put (cs := #[.int .i8 0, .int .i8 0, .int .i8 0, .int .i8 0, .int .i64 0]) ?_ 0 _ rfl; exact BK106.out) Tryz.underlying140 rfl (by kernel_rfl)) rfl ?_
      exact ⟨by first | rfl | (simp [errW_none, errW_some] <;> rfl) | (simp [*, errW_none, errW_some] <;> rfl), by repeat with_reducible first | exact HB.out | apply pw_below_drewN | apply below_drew1 | refine below_set ?_ GE106.out | refine below_set ?_ GE107.out⟩
    ·
     rw [if_neg c31] at H
     have c31b0 : (t112 == 0) = false := beq_eq_false_iff_ne.mpr c31
     have c31b1 : (t112 != 0) = true := bne_iff_ne.mpr c31
     simp only [Option.some.injEq, Prod.mk.injEq] at H
     obtain ⟨rfl, rfl, rfl, rfl, rfl⟩ := H
     have hnb42 := NB107_106.out
     have hnc42 := NB106_107.out
     obtain ⟨hcz43_0, hcz43_1, hcz43_2, hcz43_3, hcz43_4⟩ := bcQ5 BK107.out
     obtain ⟨hfz43_0, hfz43_1, hfz43_2, hfz43_3, hfz43_4⟩ := fzQ5 BK107.out
     go_wp2_with (first | ((with_reducible refine gate_callee (f := 120) rfl ?_); refine goesL_ (some 48) rfl rfl Tryz.func120 (by kernel_rfl) rfl #[.agg #[.int .i8 (IntKind.i8.wrap (a0 / 134217728)), .int .i8 (IntKind.i8.wrap (Go.bits .and .u32 (a0 / 8388608) 15)), .int .i8 (IntKind.i8.wrap (Go.bits .and .u32 (a0 / 524288) 15)), .int .i8 (IntKind.i8.wrap (Go.bits .and .u32 (a0 / 32768) 15)), .int .i64 (wrap64 (Go.bits .and .u32 a0 32767))]] rfl (by (try simp only [List.map_toArray, List.map_cons, List.map_nil]); try rfl) ?_; (with_reducible refine (isa_Encode.calls (IntKind.i8.wrap (a0 / 134217728)) (IntKind.i8.wrap (Go.bits .and .u32 (a0 / 8388608) 15)) (IntKind.i8.wrap (Go.bits .and .u32 (a0 / 524288) 15)) (IntKind.i8.wrap (Go.bits .and .u32 (a0 / 32768) 15)) (wrap64 (Go.bits .and .u32 a0 32767)) t111 t112 _ A30.out).mono ?_); rintro e w44 ⟨rfl, hb⟩; refine ⟨_, rfl, ?_⟩; replace BK106 := Aside0.mk (bbQ hb BK106.out); replace BK107 := Aside0.mk (bbQ hb BK107.out); replace HB := Aside0.mk (bs1Q hb (by repeat with_reducible first | exact HB.out | apply pw_below_drewN | apply below_drew1 | refine below_set ?_ GE106.out | refine below_set ?_ GE107.out)); (try clear hb); (try clear hb2); (try clear hk); (try clear hi); obtain ⟨hcz45_0, hcz45_1, hcz45_2, hcz45_3, hcz45_4⟩ := bcQ5 BK106.out; obtain ⟨hfz45_0, hfz45_1, hfz45_2, hfz45_3, hfz45_4⟩ := fzQ5 BK106.out))
     refine bodyPost_ret (results_cell_row rfl _ _ gb106 140 #[.int .i8 (-1), .int .i8 0, .int .i8 0, .int .i8 0, .int .i64 (wrap64 (a0))] (0, 0) _ rfl (by refine blk_put (cs := #[.int .i8 (-1), .int .i8 0, .int .i8 0, .int .i8 0, .int .i64 0]) ?_ 4 _ rfl; refine blk_put (cs := #[.int .i8 (-1), .int .i8 0, .int .i8 0, .int .i8 0, .int .i64 0]) ?_ 3 _ rfl; refine blk_put (cs := #[.int .i8 (-1), .int .i8 0, .int .i8 0, .int .i8 0, .int .i64 0]) ?_ 2 _ rfl; refine blk_put (cs := #[.int .i8 (-1), .int .i8 0, .int .i8 0, .int .i8 0, .int .i64 0]) ?_ 1 _ rfl; refine blk_put (cs := #[.int .i8 0, .int .i8 0, .int .i8 0, .int .i8 0, .int .i64 0]) ?_ 0 _ rfl; exact BK106.out) Tryz.underlying140 rfl (by kernel_rfl)) rfl ?_
     exact ⟨by first | rfl | (simp [errW_none, errW_some] <;> rfl) | (simp [*, errW_none, errW_some] <;> rfl), by repeat with_reducible first | exact HB.out | apply pw_below_drewN | apply below_drew1 | refine below_set ?_ GE106.out | refine below_set ?_ GE107.out⟩


/-! ### isa_Target: function 104 -/
def isa_Target.f (k : Nat) (a0 : Int) : Option (Int × Bool) := (isa_Decode.f k a0).bind fun bt113 => ((isa_has.f bt113.1).bind fun t119 => (if (Go.bits .and .i64 t119 16) = 0 then (some (0, false)) else (some (bt113.2.2.2.2, true))))
theorem isa_Target.mono : ∀ a0 k, LeO (isa_Target.f k a0) (isa_Target.f (k + 1) a0) := by
 intro a0 k
 unfold isa_Target.f
 repeat' first
   | (with_reducible first | exact isa_Decode.mono _ _ | exact LeO.refl _ | exact LeO.none _ | refine LeO.ite ?_ ?_ | refine LeO.bind ?_ (fun _ => ?_))
set_option maxHeartbeats 8000000 in
set_option maxRecDepth 100000 in
theorem isa_Target.calls (k : Nat) (a0 : Int) (r1 : Int) (r2 : Bool) (w : World) (h : isa_Target.f k a0 = some (r1, r2)) :
  Calls Tryz.prog 104 #[.int .u32 a0] w fun e w' => e = .returned (.tuple #[.int .i64 r1, .bool r2]) ∧ Below w.heap.size w w' := by
 have hu140 := Tryz.underlying140
 have HB := Aside0.mk (Below.refl w.heap.size w)
 have H : ((isa_Decode.f k a0).bind fun bt113 => ((isa_has.f bt113.1).bind fun t119 => (if (Go.bits .and .i64 t119 16) = 0 then (some (0, false)) else (some (bt113.2.2.2.2, true))))) = some (r1, r2) := h
 clear h
 replace H := Option.bind_eq_some_iff.mp H
 obtain ⟨⟨t113, t114, t115, t116, t117⟩, A20, H⟩ := H
 try dsimp only at H
 have A2 := Aside0.mk A20
 clear A20
 replace H := Option.bind_eq_some_iff.mp H
 obtain ⟨t119, A30, H⟩ := H
 try dsimp only at H
 have A3 := Aside0.mk A30
 clear A30
 by_cases c4 : (Go.bits .and .i64 t119 16) = 0
 ·
  rw [if_pos c4] at H
  have c4b0 : ((Go.bits .and .i64 t119 16) == 0) = true := beq_iff_eq.mpr c4
  have c4b1 : ((Go.bits .and .i64 t119 16) != 0) = false := bne_eq_false_iff_eq.mpr c4
  clear c4
  simp only [Option.some.injEq, Prod.mk.injEq] at H
  obtain ⟨rfl, rfl⟩ := H
  go_enter Tryz.func104, Tryz.ntmps104
  go_wp2_with (first | ((with_reducible refine gate_callee (f := 115) rfl ?_); refine goesL_ (some 6) rfl rfl Tryz.func115 (by kernel_rfl) rfl #[.int .u32 a0] rfl (by (try simp only [List.map_toArray, List.map_cons, List.map_nil]); try rfl) ?_; (with_reducible refine (isa_Decode.calls k a0 t113 t114 t115 t116 t117 _ A2.out).mono ?_); rintro e w5 ⟨rfl, hb⟩; refine ⟨_, rfl, ?_⟩; replace HB := Aside0.mk (bsQ hb HB.out); (try clear hb); (try clear hb2); (try clear hk); (try clear hi)) | ((with_reducible refine gate_dst (N := 4) rfl ?_); refine box_event ?hg (N := 4) ?hd (cs := #[.int .i8 0, .int .i8 0, .int .i8 0, .int .i8 0, .int .i64 0]) (t := 140) ?hr ?_; (case hd => rfl); (case hg => rfl); (case hr => go_simp; try rfl); intro gb118 hg w6 hbox hb; have BK118 := Aside0.mk (hbox); have GW118 := Aside0.mk (gwQ hg HB.out); have GE118 := Aside0.mk (gwQ hg HB.out); replace HB := Aside0.mk (bsQ hb HB.out); clear hb hbox hg; obtain ⟨hcz7_0, hcz7_1, hcz7_2, hcz7_3, hcz7_4⟩ := bcQ5 BK118.out; obtain ⟨hfz7_0, hfz7_1, hfz7_2, hfz7_3, hfz7_4⟩ := fzQ5 BK118.out) | ((with_reducible refine gate_callee (f := 116) rfl ?_); refine goesL_ (some 9) rfl rfl Tryz.func116 (by kernel_rfl) rfl #[.int .i8 t113] rfl (by (try simp only [List.map_toArray, List.map_cons, List.map_nil]); try rfl) ?_; (with_reducible refine (isa_has.calls t113 t119 _ A3.out).mono ?_); rintro e w8 ⟨rfl, hb⟩; refine ⟨_, rfl, ?_⟩; have n0_ := Aside0.mk (blk_below (g := gb118) (o := .cells #[.int .i8 t113, .int .i8 t114, .int .i8 t115, .int .i8 t116, .int .i64 t117] 140 (0, 0)) (by refine blk_put (cs := #[.int .i8 t113, .int .i8 t114, .int .i8 t115, .int .i8 t116, .int .i64 0]) ?_ 4 _ rfl; refine blk_put (cs := #[.int .i8 t113, .int .i8 t114, .int .i8 t115, .int .i8 0, .int .i64 0]) ?_ 3 _ rfl; refine blk_put (cs := #[.int .i8 t113, .int .i8 t114, .int .i8 0, .int .i8 0, .int .i64 0]) ?_ 2 _ rfl; refine blk_put (cs := #[.int .i8 t113, .int .i8 0, .int .i8 0, .int .i8 0, .int .i64 0]) ?_ 1 _ rfl; refine blk_put (cs := #[.int .i8 0, .int .i8 0, .int .i8 0, .int .i8 0, .int .i64 0]) ?_ 0 _ rfl; exact BK118.out) hb); have n1_ := Aside0.mk (bs1Q hb (by repeat with_reducible first | exact HB.out | apply pw_below_drewN | apply below_drew1 | refine below_set ?_ GE118.out)); clear BK118; clear HB; have BK118 := n0_; have HB := n1_; clear n0_ n1_; (try clear hb); (try clear hb2); (try clear hk); (try clear hi)))
  go_ret2
  exact ⟨by first | rfl | (simp [errW_none, errW_some] <;> rfl) | (simp [*, errW_none, errW_some] <;> rfl), by repeat with_reducible first | exact HB.out | apply pw_below_drewN | apply below_drew1 | refine below_set ?_ GE118.out⟩
 ·
  rw [if_neg c4] at H
  have c4b0 : ((Go.bits .and .i64 t119 16) == 0) = false := beq_eq_false_iff_ne.mpr c4
  have c4b1 : ((Go.bits .and .i64 t119 16) != 0) = true := bne_iff_ne.mpr c4
  simp only [Option.some.injEq, Prod.mk.injEq] at H
  obtain ⟨rfl, rfl⟩ := H
  go_enter Tryz.func104, Tryz.ntmps104
  go_wp2_with (first | ((with_reducible refine gate_callee (f := 115) rfl ?_); refine goesL_ (some 6) rfl rfl Tryz.func115 (by kernel_rfl) rfl #[.int .u32 a0] rfl (by (try simp only [List.map_toArray, List.map_cons, List.map_nil]); try rfl) ?_; (with_reducible refine (isa_Decode.calls k a0 t113 t114 t115 t116 t117 _ A2.out).mono ?_); rintro e w9 ⟨rfl, hb⟩; refine ⟨_, rfl, ?_⟩; replace HB := Aside0.mk (bsQ hb HB.out); (try clear hb); (try clear hb2); (try clear hk); (try clear hi)) | ((with_reducible refine gate_dst (N := 4) rfl ?_); refine box_event ?hg (N := 4) ?hd (cs := #[.int .i8 0, .int .i8 0, .int .i8 0, .int .i8 0, .int .i64 0]) (t := 140) ?hr ?_; (case hd => rfl); (case hg => rfl); (case hr => go_simp; try rfl); intro gb118 hg w10 hbox hb; have BK118 := Aside0.mk (hbox); have GW118 := Aside0.mk (gwQ hg HB.out); have GE118 := Aside0.mk (gwQ hg HB.out); replace HB := Aside0.mk (bsQ hb HB.out); clear hb hbox hg; obtain ⟨hcz11_0, hcz11_1, hcz11_2, hcz11_3, hcz11_4⟩ := bcQ5 BK118.out; obtain ⟨hfz11_0, hfz11_1, hfz11_2, hfz11_3, hfz11_4⟩ := fzQ5 BK118.out) | ((with_reducible refine gate_callee (f := 116) rfl ?_); refine goesL_ (some 9) rfl rfl Tryz.func116 (by kernel_rfl) rfl #[.int .i8 t113] rfl (by (try simp only [List.map_toArray, List.map_cons, List.map_nil]); try rfl) ?_; (with_reducible refine (isa_has.calls t113 t119 _ A3.out).mono ?_); rintro e w12 ⟨rfl, hb⟩; refine ⟨_, rfl, ?_⟩; have n0_ := Aside0.mk (blk_below (g := gb118) (o := .cells #[.int .i8 t113, .int .i8 t114, .int .i8 t115, .int .i8 t116, .int .i64 t117] 140 (0, 0)) (by refine blk_put (cs := #[.int .i8 t113, .int .i8 t114, .int .i8 t115, .int .i8 t116, .int .i64 0]) ?_ 4 _ rfl; refine blk_put (cs := #[.int .i8 t113, .int .i8 t114, .int .i8 t115, .int .i8 0, .int .i64 0]) ?_ 3 _ rfl; refine blk_put (cs := #[.int .i8 t113, .int .i8 t114, .int .i8 0, .int .i8 0, .int .i64 0]) ?_ 2 _ rfl; refine blk_put (cs := #[.int .i8 t113, .int .i8 0, .int .i8 0, .int .i8 0, .int .i64 0]) ?_ 1 _ rfl; refine blk_put (cs := #[.int .i8 0, .int .i8 0, .int .i8 0, .int .i8 0, .int .i64 0]) ?_ 0 _ rfl; exact BK118.out) hb); have n1_ := Aside0.mk (bs1Q hb (by repeat with_reducible first | exact HB.out | apply pw_below_drewN | apply below_drew1 | refine below_set ?_ GE118.out)); clear BK118; clear HB; have BK118 := n0_; have HB := n1_; clear n0_ n1_; (try clear hb); (try clear hb2); (try clear hk); (try clear hi); obtain ⟨hcz13_0, hcz13_1, hcz13_2, hcz13_3, hcz13_4⟩ := bcQ5 BK118.out; obtain ⟨hfz13_0, hfz13_1, hfz13_2, hfz13_3, hfz13_4⟩ := fzQ5 BK118.out))
  go_ret2
  exact ⟨by first | rfl | (simp [errW_none, errW_some] <;> rfl) | (simp [*, errW_none, errW_some] <;> rfl), by repeat with_reducible first | exact HB.out | apply pw_below_drewN | apply below_drew1 | refine below_set ?_ GE118.out⟩
end Go.Proofs.YtiaohbbafaaibabGreatDoor.P

/- What the Go functions named below come to, as plain functions, each with its proof; written by this session's prt.py over the kit's print. -/
namespace Go.Proofs.YtiaohbbafaaibabGreatDoor.P
open Go.RowKit Go.Proofs.YtiaohbbafaaibabGreatDoorW.PrintWords Go.Proofs.YtiaohbbafaaibabGreatDoorW.PrintLast Go.Proofs.YtiaohbbafaaibabGreatDoorW.PrintMore
attribute [local go_sem] max2_int min2_int max_two min_two max_three min_three max_four min_four   -- for this text's walks alone
set_option linter.unusedVariables false
set_option linter.unusedSimpArgs false
/-! ### pleatref02_Has: function 108 -/
mutual
def pleatref02_Has.j0 : Nat → Int → Bool → Option (Bool × Bool × Bool × Bool × Bool)
 | 0, _, _ => none
 | k + 1, x3, x10 => if x10 = true then (some (true, true, true, false, false)) else (if x3 = 11 then (some (true, true, false, true, false)) else (if x3 = 12 then (some (false, true, true, true, false)) else (if x3 = 13 then (some (true, false, false, false, false)) else (if x3 = 14 then (some (false, true, false, true, false)) else (if x3 = 15 then (pleatref02_Has.j1 k x3 (x3 == 15)) else (pleatref02_Has.j1 k x3 (x3 == 17)))))))
def pleatref02_Has.j1 : Nat → Int → Bool → Option (Bool × Bool × Bool × Bool × Bool)
 | 0, _, _ => none
 | k + 1, x3, x32 => if x32 = true then (some (false, false, false, true, true)) else (if x3 = 16 then (some (false, true, false, true, true)) else (if x3 = 18 then (pleatref02_Has.j2 k x3 (x3 == 18)) else (pleatref02_Has.j2 k x3 (x3 == 19))))
def pleatref02_Has.j2 : Nat → Int → Bool → Option (Bool × Bool × Bool × Bool × Bool)
 | 0, _, _ => none
 | k + 1, x3, x39 => if x39 = true then (some (false, true, false, false, false)) else (if x3 = 20 then (some (true, false, false, true, true)) else (some (false, false, false, false, false)))
end
def pleatref02_Has.f (k : Nat) (a0 : Int) : Option (Bool × Bool × Bool × Bool × Bool) := if a0 = 1 then (some (true, false, false, true, false)) else (if a0 = 2 then (some (true, true, false, false, false)) else (if a0 = 3 then (pleatref02_Has.j0 k a0 (a0 == 3)) else (if a0 = 4 then (pleatref02_Has.j0 k a0 (a0 == 4)) else (if a0 = 5 then (pleatref02_Has.j0 k a0 (a0 == 5)) else (if a0 = 6 then (pleatref02_Has.j0 k a0 (a0 == 6)) else (if a0 = 7 then (pleatref02_Has.j0 k a0 (a0 == 7)) else (if a0 = 8 then (pleatref02_Has.j0 k a0 (a0 == 8)) else (if a0 = 9 then (pleatref02_Has.j0 k a0 (a0 == 9)) else (pleatref02_Has.j0 k a0 (a0 == 10))))))))))
theorem pleatref02_Has.mono_l : ∀ k, (∀ y0 y1, LeO (pleatref02_Has.j0 k y0 y1) (pleatref02_Has.j0 (k + 1) y0 y1)) ∧ (∀ y0 y1, LeO (pleatref02_Has.j1 k y0 y1) (pleatref02_Has.j1 (k + 1) y0 y1)) ∧ (∀ y0 y1, LeO (pleatref02_Has.j2 k y0 y1) (pleatref02_Has.j2 (k + 1) y0 y1))
 | 0 => ⟨fun _ _ r h => by simp [pleatref02_Has.j0] at h, fun _ _ r h => by simp [pleatref02_Has.j1] at h, fun _ _ r h => by simp [pleatref02_Has.j2] at h⟩
 | k + 1 => by
  obtain ⟨ih0, ih1, ih2⟩ := pleatref02_Has.mono_l k
  refine ⟨?_, ?_, ?_⟩
  ·
   intro y0 y1
   unfold pleatref02_Has.j0
   repeat' first
   | (with_reducible first | exact ih0 _ _ | exact ih1 _ _ | exact ih2 _ _ | exact LeO.refl _ | exact LeO.none _ | refine LeO.ite ?_ ?_ | refine LeO.bind ?_ (fun _ => ?_))
  ·
   intro y0 y1
   unfold pleatref02_Has.j1
   repeat' first
   | (with_reducible first | exact ih0 _ _ | exact ih1 _ _ | exact ih2 _ _ | exact LeO.refl _ | exact LeO.none _ | refine LeO.ite ?_ ?_ | refine LeO.bind ?_ (fun _ => ?_))
  ·
   intro y0 y1
   unfold pleatref02_Has.j2
   repeat' first
   | (with_reducible first | exact ih0 _ _ | exact ih1 _ _ | exact ih2 _ _ | exact LeO.refl _ | exact LeO.none _ | refine LeO.ite ?_ ?_ | refine LeO.bind ?_ (fun _ => ?_))
theorem pleatref02_Has.mono : ∀ a0 k, LeO (pleatref02_Has.f k a0) (pleatref02_Has.f (k + 1) a0) := by
 intro a0 k
 obtain ⟨ih0, ih1, ih2⟩ := pleatref02_Has.mono_l k
 unfold pleatref02_Has.f
 repeat' first
   | (with_reducible first | exact ih0 _ _ | exact ih1 _ _ | exact ih2 _ _ | exact LeO.refl _ | exact LeO.none _ | refine LeO.ite ?_ ?_ | refine LeO.bind ?_ (fun _ => ?_))
set_option maxHeartbeats 8000000 in
set_option maxRecDepth 100000 in
theorem pleatref02_Has.calls (k : Nat) (a0 : Int) (r1 : Bool) (r2 : Bool) (r3 : Bool) (r4 : Bool) (r5 : Bool) (w : World) (h : pleatref02_Has.f k a0 = some (r1, r2, r3, r4, r5)) :
  Calls Tryz.prog 108 #[.int .i8 a0] w fun e w' => e = .returned (.agg #[.bool r1, .bool r2, .bool r3, .bool r4, .bool r5]) ∧ Below w.heap.size w w' := by
 have hu178 := Tryz.underlying178
 have HB := Aside0.mk (Below.refl w.heap.size w)
 have H : (if a0 = 1 then (some (true, false, false, true, false)) else (if a0 = 2 then (some (true, true, false, false, false)) else (if a0 = 3 then (pleatref02_Has.j0 k a0 (a0 == 3)) else (if a0 = 4 then (pleatref02_Has.j0 k a0 (a0 == 4)) else (if a0 = 5 then (pleatref02_Has.j0 k a0 (a0 == 5)) else (if a0 = 6 then (pleatref02_Has.j0 k a0 (a0 == 6)) else (if a0 = 7 then (pleatref02_Has.j0 k a0 (a0 == 7)) else (if a0 = 8 then (pleatref02_Has.j0 k a0 (a0 == 8)) else (if a0 = 9 then (pleatref02_Has.j0 k a0 (a0 == 9)) else (pleatref02_Has.j0 k a0 (a0 == 10))))))))))) = some (r1, r2, r3, r4, r5) := h
 clear h
 by_cases c2 : a0 = 1
 ·
  rw [if_pos c2] at H
  have c2b0 : (a0 == 1) = true := beq_iff_eq.mpr c2
  have c2b1 : (a0 != 1) = false := bne_eq_false_iff_eq.mpr c2
  clear c2
  simp only [Option.some.injEq, Prod.mk.injEq] at H
  obtain ⟨rfl, rfl, rfl, rfl, rfl⟩ := H
  go_enter Tryz.func108, Tryz.ntmps108
  go_wp2_with (first | ((with_reducible refine gate_dst (N := 2) rfl ?_); refine box_event ?hg (N := 2) ?hd (cs := #[.bool false, .bool false, .bool false, .bool false, .bool false]) (t := 178) ?hr ?_; (case hd => rfl); (case hg => rfl); (case hr => go_simp; try rfl); intro gb243 hg w3 hbox hb; have BK243 := Aside0.mk (hbox); have GW243 := Aside0.mk (gwQ hg HB.out); have GE243 := Aside0.mk (gwQ hg HB.out); replace HB := Aside0.mk (bsQ hb HB.out); clear hb hbox hg; obtain ⟨hcz4_0, hcz4_1, hcz4_2, hcz4_3, hcz4_4⟩ := bcQ5 BK243.out; obtain ⟨hfz4_0, hfz4_1, hfz4_2, hfz4_3, hfz4_4⟩ := fzQ5 BK243.out))
  refine bodyPost_ret (results_cell_row rfl _ _ gb243 178 #[.bool true, .bool false, .bool false, .bool true, .bool false] (0, 0) _ rfl (by refine blk_put (cs := #[.bool true, .bool false, .bool false, .bool true, .bool false]) ?_ 4 _ rfl; refine blk_put (cs := #[.bool true, .bool false, .bool false, .bool false, .bool false]) ?_ 3 _ rfl; refine blk_put (cs := #[.bool true, .bool false, .bool false, .bool false, .bool false]) ?_ 2 _ rfl; refine blk_put (cs := #[.bool true, .bool false, .bool false, .bool false, .bool false]) ?_ 1 _ rfl; refine blk_put (cs := #[.bool false, .bool false, .bool false, .bool false, .bool false]) ?_ 0 _ rfl; exact BK243.out) Tryz.underlying178 rfl (by kernel_rfl)) rfl ?_
  exact ⟨by first | rfl | (simp [errW_none, errW_some] <;> rfl) | (simp [*, errW_none, errW_some] <;> rfl), by repeat with_reducible first | exact HB.out | apply pw_below_drewN | apply below_drew1 | refine below_set ?_ GE243.out⟩
 ·
  rw [if_neg c2] at H
  have c2b0 : (a0 == 1) = false := beq_eq_false_iff_ne.mpr c2
  have c2b1 : (a0 != 1) = true := bne_iff_ne.mpr c2
  by_cases c5 : a0 = 2
  ·
   rw [if_pos c5] at H
   have c5b0 : (a0 == 2) = true := beq_iff_eq.mpr c5
   have c5b1 : (a0 != 2) = false := bne_eq_false_iff_eq.mpr c5
   clear c5
   simp only [Option.some.injEq, Prod.mk.injEq] at H
   obtain ⟨rfl, rfl, rfl, rfl, rfl⟩ := H
   go_enter Tryz.func108, Tryz.ntmps108
   go_wp2_with (first | ((with_reducible refine gate_dst (N := 2) rfl ?_); refine box_event ?hg (N := 2) ?hd (cs := #[.bool false, .bool false, .bool false, .bool false, .bool false]) (t := 178) ?hr ?_; (case hd => rfl); (case hg => rfl); (case hr => go_simp; try rfl); intro gb243 hg w6 hbox hb; have BK243 := Aside0.mk (hbox); have GW243 := Aside0.mk (gwQ hg HB.out); have GE243 := Aside0.mk (gwQ hg HB.out); replace HB := Aside0.mk (bsQ hb HB.out); clear hb hbox hg; obtain ⟨hcz7_0, hcz7_1, hcz7_2, hcz7_3, hcz7_4⟩ := bcQ5 BK243.out; obtain ⟨hfz7_0, hfz7_1, hfz7_2, hfz7_3, hfz7_4⟩ := fzQ5 BK243.out))
   refine bodyPost_ret (results_cell_row rfl _ _ gb243 178 #[.bool true, .bool true, .bool false, .bool false, .bool false] (0, 0) _ rfl (by refine blk_put (cs := #[.bool true, .bool true, .bool false, .bool false, .bool false]) ?_ 4 _ rfl; refine blk_put (cs := #[.bool true, .bool true, .bool false, .bool false, .bool false]) ?_ 3 _ rfl; refine blk_put (cs := #[.bool true, .bool true, .bool false, .bool false, .bool false]) ?_ 2 _ rfl; refine blk_put (cs := #[.bool true, .bool false, .bool false, .bool false, .bool false]) ?_ 1 _ rfl; refine blk_put (cs := #[.bool false, .bool false, .bool false, .bool false, .bool false]) ?_ 0 _ rfl; exact BK243.out) Tryz.underlying178 rfl (by kernel_rfl)) rfl ?_
   exact ⟨by first | rfl | (simp [errW_none, errW_some] <;> rfl) | (simp [*, errW_none, errW_some] <;> rfl), by repeat with_reducible first | exact HB.out | apply pw_below_drewN | apply below_drew1 | refine below_set ?_ GE243.out⟩
  ·
   rw [if_neg c5] at H
   have c5b0 : (a0 == 2) = false := beq_eq_false_iff_ne.mpr c5
   have c5b1 : (a0 != 2) = true := bne_iff_ne.mpr c5
   have HC8 := Aside0.mk H
   clear H
   go_enter Tryz.func108, Tryz.ntmps108
   go_upto_if 10 with (first | ((with_reducible refine gate_dst (N := 2) rfl ?_); refine box_event ?hg (N := 2) ?hd (cs := #[.bool false, .bool false, .bool false, .bool false, .bool false]) (t := 178) ?hr ?_; (case hd => rfl); (case hg => rfl); (case hr => go_simp; try rfl); intro gb243 hg w9 hbox hb; have BK243 := Aside0.mk (hbox); have GW243 := Aside0.mk (gwQ hg HB.out); have GE243 := Aside0.mk (gwQ hg HB.out); replace HB := Aside0.mk (bsQ hb HB.out); clear hb hbox hg))
   (try simp only [Act.put, List.setIfInBounds_toArray, List.set_cons_zero, List.set_cons_succ])
   go_cut [10] (fun v10 wc => ∃ (kq : Nat) (x10_7 : Bool), v10 = .bool x10_7 ∧ Aside0 (pleatref02_Has.j0 kq a0 x10_7 = some (r1, r2, r3, r4, r5)) ∧ Aside0 (kq ≤ k) ∧ Aside0 (wc.heap[gb243]? = some (.cells #[.bool false, .bool false, .bool false, .bool false, .bool false] 178 (0, 0))) ∧ Aside0 (Below w.heap.size w wc))
   case first =>
    have H := HC8.out
    clear HC8
    by_cases c10 : a0 = 3
    ·
     rw [if_pos c10] at H
     have c10b0 : (a0 == 3) = true := beq_iff_eq.mpr c10
     have c10b1 : (a0 != 3) = false := bne_eq_false_iff_eq.mpr c10
     clear c10
     (first | rw [c10b0] | (simp only [i64_w, i32_w]; rw [c10b0]) | skip)
     have H' := Aside0.mk H
     clear H
     go_wp2
     go_meet
     case rel => exact ⟨_, ((a0 == 3)), (by first | rfl | (simp; done) | (simp [*]; done)), H', ⟨by first | omega | exact Nat.le_refl _⟩, ⟨by exact BK243.out⟩, ⟨by repeat with_reducible first | exact HB.out | apply pw_below_drewN | apply below_drew1 | refine below_set ?_ GE243.out⟩⟩
    ·
     rw [if_neg c10] at H
     have c10b0 : (a0 == 3) = false := beq_eq_false_iff_ne.mpr c10
     have c10b1 : (a0 != 3) = true := bne_iff_ne.mpr c10
     (first | rw [c10b0] | (simp only [i64_w, i32_w]; rw [c10b0]) | skip)
     by_cases c11 : a0 = 4
     ·
      rw [if_pos c11] at H
      have c11b0 : (a0 == 4) = true := beq_iff_eq.mpr c11
      have c11b1 : (a0 != 4) = false := bne_eq_false_iff_eq.mpr c11
      clear c11
      have H' := Aside0.mk H
      clear H
      go_wp2
      go_meet
      case rel => exact ⟨_, ((a0 == 4)), (by first | rfl | (simp; done) | (simp [*]; done)), H', ⟨by first | omega | exact Nat.le_refl _⟩, ⟨by exact BK243.out⟩, ⟨by repeat with_reducible first | exact HB.out | apply pw_below_drewN | apply below_drew1 | refine below_set ?_ GE243.out⟩⟩
     ·
      rw [if_neg c11] at H
      have c11b0 : (a0 == 4) = false := beq_eq_false_iff_ne.mpr c11
      have c11b1 : (a0 != 4) = true := bne_iff_ne.mpr c11
      by_cases c12 : a0 = 5
      ·
       rw [if_pos c12] at H
       have c12b0 : (a0 == 5) = true := beq_iff_eq.mpr c12
       have c12b1 : (a0 != 5) = false := bne_eq_false_iff_eq.mpr c12
       clear c12
       have H' := Aside0.mk H
       clear H
       go_wp2
       go_meet
       case rel => exact ⟨_, ((a0 == 5)), (by first | rfl | (simp; done) | (simp [*]; done)), H', ⟨by first | omega | exact Nat.le_refl _⟩, ⟨by exact BK243.out⟩, ⟨by repeat with_reducible first | exact HB.out | apply pw_below_drewN | apply below_drew1 | refine below_set ?_ GE243.out⟩⟩
      ·
       rw [if_neg c12] at H
       have c12b0 : (a0 == 5) = false := beq_eq_false_iff_ne.mpr c12
       have c12b1 : (a0 != 5) = true := bne_iff_ne.mpr c12
       by_cases c13 : a0 = 6
       ·
        rw [if_pos c13] at H
        have c13b0 : (a0 == 6) = true := beq_iff_eq.mpr c13
        have c13b1 : (a0 != 6) = false := bne_eq_false_iff_eq.mpr c13
        clear c13
        have H' := Aside0.mk H
        clear H
        go_wp2
        go_meet
        case rel => exact ⟨_, ((a0 == 6)), (by first | rfl | (simp; done) | (simp [*]; done)), H', ⟨by first | omega | exact Nat.le_refl _⟩, ⟨by exact BK243.out⟩, ⟨by repeat with_reducible first | exact HB.out | apply pw_below_drewN | apply below_drew1 | refine below_set ?_ GE243.out⟩⟩
       ·
        rw [if_neg c13] at H
        have c13b0 : (a0 == 6) = false := beq_eq_false_iff_ne.mpr c13
        have c13b1 : (a0 != 6) = true := bne_iff_ne.mpr c13
        by_cases c14 : a0 = 7
        ·
         rw [if_pos c14] at H
         have c14b0 : (a0 == 7) = true := beq_iff_eq.mpr c14
         have c14b1 : (a0 != 7) = false := bne_eq_false_iff_eq.mpr c14
         clear c14
         have H' := Aside0.mk H
         clear H
         go_wp2
         go_meet
         case rel => exact ⟨_, ((a0 == 7)), (by first | rfl | (simp; done) | (simp [*]; done)), H', ⟨by first | omega | exact Nat.le_refl _⟩, ⟨by exact BK243.out⟩, ⟨by repeat with_reducible first | exact HB.out | apply pw_below_drewN | apply below_drew1 | refine below_set ?_ GE243.out⟩⟩
        ·
         rw [if_neg c14] at H
         have c14b0 : (a0 == 7) = false := beq_eq_false_iff_ne.mpr c14
         have c14b1 : (a0 != 7) = true := bne_iff_ne.mpr c14
         by_cases c15 : a0 = 8
         ·
          rw [if_pos c15] at H
          have c15b0 : (a0 == 8) = true := beq_iff_eq.mpr c15
          have c15b1 : (a0 != 8) = false := bne_eq_false_iff_eq.mpr c15
          clear c15
          have H' := Aside0.mk H
          clear H
          go_wp2
          go_meet
          case rel => exact ⟨_, ((a0 == 8)), (by first | rfl | (simp; done) | (simp [*]; done)), H', ⟨by first | omega | exact Nat.le_refl _⟩, ⟨by exact BK243.out⟩, ⟨by repeat with_reducible first | exact HB.out | apply pw_below_drewN | apply below_drew1 | refine below_set ?_ GE243.out⟩⟩
         ·
          rw [if_neg c15] at H
          have c15b0 : (a0 == 8) = false := beq_eq_false_iff_ne.mpr c15
          have c15b1 : (a0 != 8) = true := bne_iff_ne.mpr c15
          by_cases c16 : a0 = 9
          ·
           rw [if_pos c16] at H
           have c16b0 : (a0 == 9) = true := beq_iff_eq.mpr c16
           have c16b1 : (a0 != 9) = false := bne_eq_false_iff_eq.mpr c16
           clear c16
           have H' := Aside0.mk H
           clear H
           go_wp2
           go_meet
           case rel => exact ⟨_, ((a0 == 9)), (by first | rfl | (simp; done) | (simp [*]; done)), H', ⟨by first | omega | exact Nat.le_refl _⟩, ⟨by exact BK243.out⟩, ⟨by repeat with_reducible first | exact HB.out | apply pw_below_drewN | apply below_drew1 | refine below_set ?_ GE243.out⟩⟩
          ·
           rw [if_neg c16] at H
           have c16b0 : (a0 == 9) = false := beq_eq_false_iff_ne.mpr c16
           have c16b1 : (a0 != 9) = true := bne_iff_ne.mpr c16
           have H' := Aside0.mk H
           clear H
           go_wp2
           go_meet
           case rel => exact ⟨_, ((a0 == 10)), (by first | rfl | (simp; done) | (simp [*]; done)), H', ⟨by first | omega | exact Nat.le_refl _⟩, ⟨by exact BK243.out⟩, ⟨by repeat with_reducible first | exact HB.out | apply pw_below_drewN | apply below_drew1 | refine below_set ?_ GE243.out⟩⟩
   case rest =>
    clear HC8
    try clear c1
    try clear c2
    try clear c2b0
    try clear c2b1
    try clear p2
    try clear c5
    try clear c5b0
    try clear c5b1
    try clear c10
    try clear c10b0
    try clear c10b1
    try clear c11
    try clear c11b0
    try clear c11b1
    try clear c12
    try clear c12b0
    try clear c12b1
    try clear c13
    try clear c13b0
    try clear c13b1
    try clear c14
    try clear c14b0
    try clear c14b1
    try clear c15
    try clear c15b0
    try clear c15b1
    try clear c16
    try clear c16b0
    try clear c16b1
    try clear hcz4_0 hcz4_1 hcz4_2 hcz4_3 hcz4_4
    try clear hcz7_0 hcz7_1 hcz7_2 hcz7_3 hcz7_4
    try clear hfz4_0 hfz4_1 hfz4_2 hfz4_3 hfz4_4
    try clear hfz7_0 hfz7_1 hfz7_2 hfz7_3 hfz7_4
    obtain ⟨kq, x10_7, rfl, HA, HJ7, BK243, HB⟩ := hcut
    cases kq with
    | zero => exact absurd HA.out (by simp [pleatref02_Has.j0])
    | succ kj7 =>
     have H := HA.out
     clear HA
     simp only [pleatref02_Has.j0] at H
     by_cases c17 : x10_7 = true
     ·
      subst c17
      rw [if_pos rfl] at H
      simp only [Option.some.injEq, Prod.mk.injEq] at H
      obtain ⟨rfl, rfl, rfl, rfl, rfl⟩ := H
      obtain ⟨hcz18_0, hcz18_1, hcz18_2, hcz18_3, hcz18_4⟩ := bcQ5 BK243.out
      obtain ⟨hfz18_0, hfz18_1, hfz18_2, hfz18_3, hfz18_4⟩ := fzQ5 BK243.out
      go_wp2
      refine bodyPost_ret (results_cell_row rfl _ _ gb243 178 #[.bool true, .bool true, .bool true, .bool false, .bool false] (0, 0) _ rfl (by refine blk_put (cs := #[.bool true, .bool true, .bool true, .bool false, .bool false]) ?_ 4 _ rfl; refine blk_put (cs := #[.bool true, .bool true, .bool true, .bool false, .bool false]) ?_ 3 _ rfl; refine blk_put (cs := #[.bool true, .bool true, .bool false, .bool false, .bool false]) ?_ 2 _ rfl; refine blk_put (cs := #[.bool true, .bool false, .bool false, .bool false, .bool false]) ?_ 1 _ rfl; refine blk_put (cs := #[.bool false, .bool false, .bool false, .bool false, .bool false]) ?_ 0 _ rfl; exact BK243.out) Tryz.underlying178 rfl (by kernel_rfl)) rfl ?_
      exact ⟨by first | rfl | (simp [errW_none, errW_some] <;> rfl) | (simp [*, errW_none, errW_some] <;> rfl), by repeat with_reducible first | exact HB.out | apply pw_below_drewN | apply below_drew1 | refine below_set ?_ GE243.out⟩
     ·
      replace c17 := Bool.eq_false_iff.mpr c17
      subst c17
      rw [if_neg Bool.false_ne_true] at H
      by_cases c19 : a0 = 11
      ·
       rw [if_pos c19] at H
       have c19b0 : (a0 == 11) = true := beq_iff_eq.mpr c19
       have c19b1 : (a0 != 11) = false := bne_eq_false_iff_eq.mpr c19
       clear c19
       simp only [Option.some.injEq, Prod.mk.injEq] at H
       obtain ⟨rfl, rfl, rfl, rfl, rfl⟩ := H
       obtain ⟨hcz20_0, hcz20_1, hcz20_2, hcz20_3, hcz20_4⟩ := bcQ5 BK243.out
       obtain ⟨hfz20_0, hfz20_1, hfz20_2, hfz20_3, hfz20_4⟩ := fzQ5 BK243.out
       go_wp2
       refine bodyPost_ret (results_cell_row rfl _ _ gb243 178 #[.bool true, .bool true, .bool false, .bool true, .bool false] (0, 0) _ rfl (by refine blk_put (cs := #[.bool true, .bool true, .bool false, .bool true, .bool false]) ?_ 4 _ rfl; refine blk_put (cs := #[.bool true, .bool true, .bool false, .bool false, .bool false]) ?_ 3 _ rfl; refine blk_put (cs := #[.bool true, .bool true, .bool false, .bool false, .bool false]) ?_ 2 _ rfl; refine blk_put (cs := #[.bool true, .bool false, .bool false, .bool false, .bool false]) ?_ 1 _ rfl; refine blk_put (cs := #[.bool false, .bool false, .bool false, .bool false, .bool false]) ?_ 0 _ rfl; exact BK243.out) Tryz.underlying178 rfl (by kernel_rfl)) rfl ?_
       exact ⟨by first | rfl | (simp [errW_none, errW_some] <;> rfl) | (simp [*, errW_none, errW_some] <;> rfl), by repeat with_reducible first | exact HB.out | apply pw_below_drewN | apply below_drew1 | refine below_set ?_ GE243.out⟩
      ·
       rw [if_neg c19] at H
       have c19b0 : (a0 == 11) = false := beq_eq_false_iff_ne.mpr c19
       have c19b1 : (a0 != 11) = true := bne_iff_ne.mpr c19
       by_cases c21 : a0 = 12
       ·
        rw [if_pos c21] at H
        have c21b0 : (a0 == 12) = true := beq_iff_eq.mpr c21
        have c21b1 : (a0 != 12) = false := bne_eq_false_iff_eq.mpr c21
        clear c21
        simp only [Option.some.injEq, Prod.mk.injEq] at H
        obtain ⟨rfl, rfl, rfl, rfl, rfl⟩ := H
        obtain ⟨hcz22_0, hcz22_1, hcz22_2, hcz22_3, hcz22_4⟩ := bcQ5 BK243.out
        obtain ⟨hfz22_0, hfz22_1, hfz22_2, hfz22_3, hfz22_4⟩ := fzQ5 BK243.out
        go_wp2
        refine bodyPost_ret (results_cell_row rfl _ _ gb243 178 #[.bool false, .bool true, .bool true, .bool true, .bool false] (0, 0) _ rfl (by refine blk_put (cs := #[.bool false, .bool true, .bool true, .bool true, .bool false]) ?_ 4 _ rfl; refine blk_put (cs := #[.bool false, .bool true, .bool true, .bool false, .bool false]) ?_ 3 _ rfl; refine blk_put (cs := #[.bool false, .bool true, .bool false, .bool false, .bool false]) ?_ 2 _ rfl; refine blk_put (cs := #[.bool false, .bool false, .bool false, .bool false, .bool false]) ?_ 1 _ rfl; refine blk_put (cs := #[.bool false, .bool false, .bool false, .bool false, .bool false]) ?_ 0 _ rfl; exact BK243.out) Tryz.underlying178 rfl (by kernel_rfl)) rfl ?_
        exact ⟨by first | rfl | (simp [errW_none, errW_some] <;> rfl) | (simp [*, errW_none, errW_some] <;> rfl), by repeat with_reducible first | exact HB.out | apply pw_below_drewN | apply below_drew1 | refine below_set ?_ GE243.out⟩
       ·
        rw [if_neg c21] at H
        have c21b0 : (a0 == 12) = false := beq_eq_false_iff_ne.mpr c21
        have c21b1 : (a0 != 12) = true := bne_iff_ne.mpr c21
        by_cases c23 : a0 = 13
        ·
         rw [if_pos c23] at H
         have c23b0 : (a0 == 13) = true := beq_iff_eq.mpr c23
         have c23b1 : (a0 != 13) = false := bne_eq_false_iff_eq.mpr c23
         clear c23
         simp only [Option.some.injEq, Prod.mk.injEq] at H
         obtain ⟨rfl, rfl, rfl, rfl, rfl⟩ := H
         obtain ⟨hcz24_0, hcz24_1, hcz24_2, hcz24_3, hcz24_4⟩ := bcQ5 BK243.out
         obtain ⟨hfz24_0, hfz24_1, hfz24_2, hfz24_3, hfz24_4⟩ := fzQ5 BK243.out
         go_wp2
         refine bodyPost_ret (results_cell_row rfl _ _ gb243 178 #[.bool true, .bool false, .bool false, .bool false, .bool false] (0, 0) _ rfl (by refine blk_put (cs := #[.bool true, .bool false, .bool false, .bool false, .bool false]) ?_ 4 _ rfl; refine blk_put (cs := #[.bool true, .bool false, .bool false, .bool false, .bool false]) ?_ 3 _ rfl; refine blk_put (cs := #[.bool true, .bool false, .bool false, .bool false, .bool false]) ?_ 2 _ rfl; refine blk_put (cs := #[.bool true, .bool false, .bool false, .bool false, .bool false]) ?_ 1 _ rfl; refine blk_put (cs := #[.bool false, .bool false, .bool false, .bool false, .bool false]) ?_ 0 _ rfl; exact BK243.out) Tryz.underlying178 rfl (by kernel_rfl)) rfl ?_
         exact ⟨by first | rfl | (simp [errW_none, errW_some] <;> rfl) | (simp [*, errW_none, errW_some] <;> rfl), by repeat with_reducible first | exact HB.out | apply pw_below_drewN | apply below_drew1 | refine below_set ?_ GE243.out⟩
        ·
         rw [if_neg c23] at H
         have c23b0 : (a0 == 13) = false := beq_eq_false_iff_ne.mpr c23
         have c23b1 : (a0 != 13) = true := bne_iff_ne.mpr c23
         by_cases c25 : a0 = 14
         ·
          rw [if_pos c25] at H
          have c25b0 : (a0 == 14) = true := beq_iff_eq.mpr c25
          have c25b1 : (a0 != 14) = false := bne_eq_false_iff_eq.mpr c25
          clear c25
          simp only [Option.some.injEq, Prod.mk.injEq] at H
          obtain ⟨rfl, rfl, rfl, rfl, rfl⟩ := H
          obtain ⟨hcz26_0, hcz26_1, hcz26_2, hcz26_3, hcz26_4⟩ := bcQ5 BK243.out
          obtain ⟨hfz26_0, hfz26_1, hfz26_2, hfz26_3, hfz26_4⟩ := fzQ5 BK243.out
          go_wp2
          refine bodyPost_ret (results_cell_row rfl _ _ gb243 178 #[.bool false, .bool true, .bool false, .bool true, .bool false] (0, 0) _ rfl (by refine blk_put (cs := #[.bool false, .bool true, .bool false, .bool true, .bool false]) ?_ 4 _ rfl; refine blk_put (cs := #[.bool false, .bool true, .bool false, .bool false, .bool false]) ?_ 3 _ rfl; refine blk_put (cs := #[.bool false, .bool true, .bool false, .bool false, .bool false]) ?_ 2 _ rfl; refine blk_put (cs := #[.bool false, .bool false, .bool false, .bool false, .bool false]) ?_ 1 _ rfl; refine blk_put (cs := #[.bool false, .bool false, .bool false, .bool false, .bool false]) ?_ 0 _ rfl; exact BK243.out) Tryz.underlying178 rfl (by kernel_rfl)) rfl ?_
          exact ⟨by first | rfl | (simp [errW_none, errW_some] <;> rfl) | (simp [*, errW_none, errW_some] <;> rfl), by repeat with_reducible first | exact HB.out | apply pw_below_drewN | apply below_drew1 | refine below_set ?_ GE243.out⟩
         ·
          rw [if_neg c25] at H
          have c25b0 : (a0 == 14) = false := beq_eq_false_iff_ne.mpr c25
          have c25b1 : (a0 != 14) = true := bne_iff_ne.mpr c25
          have HC27 := Aside0.mk H
          clear H
          go_upto_if 32 with (fail)
          go_cut [32] (fun v32 wc => ∃ (kq : Nat) (x32_26 : Bool), v32 = .bool x32_26 ∧ Aside0 (pleatref02_Has.j1 kq a0 x32_26 = some (r1, r2, r3, r4, r5)) ∧ Aside0 (kq ≤ kj7) ∧ Aside0 (wc.heap[gb243]? = some (.cells #[.bool false, .bool false, .bool false, .bool false, .bool false] 178 (0, 0))) ∧ Aside0 (Below w.heap.size w wc))
          case first =>
           have H := HC27.out
           clear HC27
           by_cases c28 : a0 = 15
           ·
            rw [if_pos c28] at H
            have c28b0 : (a0 == 15) = true := beq_iff_eq.mpr c28
            have c28b1 : (a0 != 15) = false := bne_eq_false_iff_eq.mpr c28
            clear c28
            (first | rw [c28b0] | (simp only [i64_w, i32_w]; rw [c28b0]) | skip)
            have H' := Aside0.mk H
            clear H
            go_wp2
            go_meet
            case rel => exact ⟨_, ((a0 == 15)), (by first | rfl | (simp; done) | (simp [*]; done)), H', ⟨by have := HJ7.out; first | omega | exact Nat.le_refl _⟩, ⟨by exact BK243.out⟩, ⟨by repeat with_reducible first | exact HB.out | apply pw_below_drewN | apply below_drew1 | refine below_set ?_ GE243.out⟩⟩
           ·
            rw [if_neg c28] at H
            have c28b0 : (a0 == 15) = false := beq_eq_false_iff_ne.mpr c28
            have c28b1 : (a0 != 15) = true := bne_iff_ne.mpr c28
            (first | rw [c28b0] | (simp only [i64_w, i32_w]; rw [c28b0]) | skip)
            have H' := Aside0.mk H
            clear H
            go_wp2
            go_meet
            case rel => exact ⟨_, ((a0 == 17)), (by first | rfl | (simp; done) | (simp [*]; done)), H', ⟨by have := HJ7.out; first | omega | exact Nat.le_refl _⟩, ⟨by exact BK243.out⟩, ⟨by repeat with_reducible first | exact HB.out | apply pw_below_drewN | apply below_drew1 | refine below_set ?_ GE243.out⟩⟩
          case rest =>
           clear HC27
           try clear c1
           try clear c2
           try clear c2b0
           try clear c2b1
           try clear p2
           try clear c5
           try clear c5b0
           try clear c5b1
           try clear c10
           try clear c10b0
           try clear c10b1
           try clear c11
           try clear c11b0
           try clear c11b1
           try clear c12
           try clear c12b0
           try clear c12b1
           try clear c13
           try clear c13b0
           try clear c13b1
           try clear c14
           try clear c14b0
           try clear c14b1
           try clear c15
           try clear c15b0
           try clear c15b1
           try clear c16
           try clear c16b0
           try clear c16b1
           try clear c17
           try clear c19
           try clear c19b0
           try clear c19b1
           try clear c21
           try clear c21b0
           try clear c21b1
           try clear c23
           try clear c23b0
           try clear c23b1
           try clear c25
           try clear c25b0
           try clear c25b1
           try clear c28
           try clear c28b0
           try clear c28b1
           try clear hcz18_0 hcz18_1 hcz18_2 hcz18_3 hcz18_4
           try clear hcz20_0 hcz20_1 hcz20_2 hcz20_3 hcz20_4
           try clear hcz22_0 hcz22_1 hcz22_2 hcz22_3 hcz22_4
           try clear hcz24_0 hcz24_1 hcz24_2 hcz24_3 hcz24_4
           try clear hcz26_0 hcz26_1 hcz26_2 hcz26_3 hcz26_4
           try clear hcz4_0 hcz4_1 hcz4_2 hcz4_3 hcz4_4
           try clear hcz7_0 hcz7_1 hcz7_2 hcz7_3 hcz7_4
           try clear hfz18_0 hfz18_1 hfz18_2 hfz18_3 hfz18_4
           try clear hfz20_0 hfz20_1 hfz20_2 hfz20_3 hfz20_4
           try clear hfz22_0 hfz22_1 hfz22_2 hfz22_3 hfz22_4
           try clear hfz24_0 hfz24_1 hfz24_2 hfz24_3 hfz24_4
           try clear hfz26_0 hfz26_1 hfz26_2 hfz26_3 hfz26_4
           try clear hfz4_0 hfz4_1 hfz4_2 hfz4_3 hfz4_4
           try clear hfz7_0 hfz7_1 hfz7_2 hfz7_3 hfz7_4
           try clear p2
           obtain ⟨kq, x32_26, rfl, HA, HJ26, BK243, HB⟩ := hcut
           cases kq with
           | zero => exact absurd HA.out (by simp [pleatref02_Has.j1])
           | succ kj26 =>
            have H := HA.out
            clear HA
            simp only [pleatref02_Has.j1] at H
            by_cases c29 : x32_26 = true
            ·
             subst c29
             rw [if_pos rfl] at H
             simp only [Option.some.injEq, Prod.mk.injEq] at H
             obtain ⟨rfl, rfl, rfl, rfl, rfl⟩ := H
             obtain ⟨hcz30_0, hcz30_1, hcz30_2, hcz30_3, hcz30_4⟩ := bcQ5 BK243.out
             obtain ⟨hfz30_0, hfz30_1, hfz30_2, hfz30_3, hfz30_4⟩ := fzQ5 BK243.out
             go_wp2
             refine bodyPost_ret (results_cell_row rfl _ _ gb243 178 #[.bool false, .bool false, .bool false, .bool true, .bool true] (0, 0) _ rfl (by refine blk_put (cs := #[.bool false, .bool false, .bool false, .bool true, .bool false]) ?_ 4 _ rfl; refine blk_put (cs := #[.bool false, .bool false, .bool false, .bool false, .bool false]) ?_ 3 _ rfl; refine blk_put (cs := #[.bool false, .bool false, .bool false, .bool false, .bool false]) ?_ 2 _ rfl; refine blk_put (cs := #[.bool false, .bool false, .bool false, .bool false, .bool false]) ?_ 1 _ rfl; refine blk_put (cs := #[.bool false, .bool false, .bool false, .bool false, .bool false]) ?_ 0 _ rfl; exact BK243.out) Tryz.underlying178 rfl (by kernel_rfl)) rfl ?_
             exact ⟨by first | rfl | (simp [errW_none, errW_some] <;> rfl) | (simp [*, errW_none, errW_some] <;> rfl), by repeat with_reducible first | exact HB.out | apply pw_below_drewN | apply below_drew1 | refine below_set ?_ GE243.out⟩
            ·
             replace c29 := Bool.eq_false_iff.mpr c29
             subst c29
             rw [if_neg Bool.false_ne_true] at H
             by_cases c31 : a0 = 16
             ·
              rw [if_pos c31] at H
              have c31b0 : (a0 == 16) = true := beq_iff_eq.mpr c31
              have c31b1 : (a0 != 16) = false := bne_eq_false_iff_eq.mpr c31
              clear c31
              simp only [Option.some.injEq, Prod.mk.injEq] at H
              obtain ⟨rfl, rfl, rfl, rfl, rfl⟩ := H
              obtain ⟨hcz32_0, hcz32_1, hcz32_2, hcz32_3, hcz32_4⟩ := bcQ5 BK243.out
              obtain ⟨hfz32_0, hfz32_1, hfz32_2, hfz32_3, hfz32_4⟩ := fzQ5 BK243.out
              go_wp2
              refine bodyPost_ret (results_cell_row rfl _ _ gb243 178 #[.bool false, .bool true, .bool false, .bool true, .bool true] (0, 0) _ rfl (by refine blk_put (cs := #[.bool false, .bool true, .bool false, .bool true, .bool false]) ?_ 4 _ rfl; refine blk_put (cs := #[.bool false, .bool true, .bool false, .bool false, .bool false]) ?_ 3 _ rfl; refine blk_put (cs := #[.bool false, .bool true, .bool false, .bool false, .bool false]) ?_ 2 _ rfl; refine blk_put (cs := #[.bool false, .bool false, .bool false, .bool false, .bool false]) ?_ 1 _ rfl; refine blk_put (cs := #[.bool false, .bool false, .bool false, .bool false, .bool false]) ?_ 0 _ rfl; exact BK243.out) Tryz.underlying178 rfl (by kernel_rfl)) rfl ?_
              exact ⟨by first | rfl | (simp [errW_none, errW_some] <;> rfl) | (simp [*, errW_none, errW_some] <;> rfl), by repeat with_reducible first | exact HB.out | apply pw_below_drewN | apply below_drew1 | refine below_set ?_ GE243.out⟩
             ·
              rw [if_neg c31] at H
              have c31b0 : (a0 == 16) = false := beq_eq_false_iff_ne.mpr c31
              have c31b1 : (a0 != 16) = true := bne_iff_ne.mpr c31
              have HC33 := Aside0.mk H
              clear H
              go_upto_if 39 with (fail)
              go_cut [39] (fun v39 wc => ∃ (kq : Nat) (x39_32 : Bool), v39 = .bool x39_32 ∧ Aside0 (pleatref02_Has.j2 kq a0 x39_32 = some (r1, r2, r3, r4, r5)) ∧ Aside0 (kq ≤ kj26) ∧ Aside0 (wc.heap[gb243]? = some (.cells #[.bool false, .bool false, .bool false, .bool false, .bool false] 178 (0, 0))) ∧ Aside0 (Below w.heap.size w wc))
              case first =>
               have H := HC33.out
               clear HC33
               by_cases c34 : a0 = 18
               ·
                rw [if_pos c34] at H
                have c34b0 : (a0 == 18) = true := beq_iff_eq.mpr c34
                have c34b1 : (a0 != 18) = false := bne_eq_false_iff_eq.mpr c34
                clear c34
                (first | rw [c34b0] | (simp only [i64_w, i32_w]; rw [c34b0]) | skip)
                have H' := Aside0.mk H
                clear H
                go_wp2
                go_meet
                case rel => exact ⟨_, ((a0 == 18)), (by first | rfl | (simp; done) | (simp [*]; done)), H', ⟨by have := HJ7.out; have := HJ26.out; first | omega | exact Nat.le_refl _⟩, ⟨by exact BK243.out⟩, ⟨by repeat with_reducible first | exact HB.out | apply pw_below_drewN | apply below_drew1 | refine below_set ?_ GE243.out⟩⟩
               ·
                rw [if_neg c34] at H
                have c34b0 : (a0 == 18) = false := beq_eq_false_iff_ne.mpr c34
                have c34b1 : (a0 != 18) = true := bne_iff_ne.mpr c34
                (first | rw [c34b0] | (simp only [i64_w, i32_w]; rw [c34b0]) | skip)
                have H' := Aside0.mk H
                clear H
                go_wp2
                go_meet
                case rel => exact ⟨_, ((a0 == 19)), (by first | rfl | (simp; done) | (simp [*]; done)), H', ⟨by have := HJ7.out; have := HJ26.out; first | omega | exact Nat.le_refl _⟩, ⟨by exact BK243.out⟩, ⟨by repeat with_reducible first | exact HB.out | apply pw_below_drewN | apply below_drew1 | refine below_set ?_ GE243.out⟩⟩
              case rest =>
               clear HC33
               try clear c1
               try clear c2
               try clear c2b0
               try clear c2b1
               try clear p2
               try clear c3
               try clear c5
               try clear c5b0
               try clear c5b1
               try clear c10
               try clear c10b0
               try clear c10b1
               try clear c11
               try clear c11b0
               try clear c11b1
               try clear c12
               try clear c12b0
               try clear c12b1
               try clear c13
               try clear c13b0
               try clear c13b1
               try clear c14
               try clear c14b0
               try clear c14b1
               try clear c15
               try clear c15b0
               try clear c15b1
               try clear c16
               try clear c16b0
               try clear c16b1
               try clear c17
               try clear c19
               try clear c19b0
               try clear c19b1
               try clear c21
               try clear c21b0
               try clear c21b1
               try clear c23
               try clear c23b0
               try clear c23b1
               try clear c25
               try clear c25b0
               try clear c25b1
               try clear c28
               try clear c28b0
               try clear c28b1
               try clear c29
               try clear c31
               try clear c31b0
               try clear c31b1
               try clear c34
               try clear c34b0
               try clear c34b1
               try clear hcz18_0 hcz18_1 hcz18_2 hcz18_3 hcz18_4
               try clear hcz20_0 hcz20_1 hcz20_2 hcz20_3 hcz20_4
               try clear hcz22_0 hcz22_1 hcz22_2 hcz22_3 hcz22_4
               try clear hcz24_0 hcz24_1 hcz24_2 hcz24_3 hcz24_4
               try clear hcz26_0 hcz26_1 hcz26_2 hcz26_3 hcz26_4
               try clear hcz30_0 hcz30_1 hcz30_2 hcz30_3 hcz30_4
               try clear hcz32_0 hcz32_1 hcz32_2 hcz32_3 hcz32_4
               try clear hcz4_0 hcz4_1 hcz4_2 hcz4_3 hcz4_4
               try clear hcz7_0 hcz7_1 hcz7_2 hcz7_3 hcz7_4
               try clear hfz18_0 hfz18_1 hfz18_2 hfz18_3 hfz18_4
               try clear hfz20_0 hfz20_1 hfz20_2 hfz20_3 hfz20_4
               try clear hfz22_0 hfz22_1 hfz22_2 hfz22_3 hfz22_4
               try clear hfz24_0 hfz24_1 hfz24_2 hfz24_3 hfz24_4
               try clear hfz26_0 hfz26_1 hfz26_2 hfz26_3 hfz26_4
               try clear hfz30_0 hfz30_1 hfz30_2 hfz30_3 hfz30_4
               try clear hfz32_0 hfz32_1 hfz32_2 hfz32_3 hfz32_4
               try clear hfz4_0 hfz4_1 hfz4_2 hfz4_3 hfz4_4
               try clear hfz7_0 hfz7_1 hfz7_2 hfz7_3 hfz7_4
               try clear p2
               obtain ⟨kq, x39_32, rfl, HA, HJ32, BK243, HB⟩ := hcut
               cases kq with
               | zero => exact absurd HA.out (by simp [pleatref02_Has.j2])
               | succ kj32 =>
                have H := HA.out
                clear HA
                simp only [pleatref02_Has.j2] at H
                by_cases c35 : x39_32 = true
                ·
                 subst c35
                 rw [if_pos rfl] at H
                 simp only [Option.some.injEq, Prod.mk.injEq] at H
                 obtain ⟨rfl, rfl, rfl, rfl, rfl⟩ := H
                 obtain ⟨hcz36_0, hcz36_1, hcz36_2, hcz36_3, hcz36_4⟩ := bcQ5 BK243.out
                 obtain ⟨hfz36_0, hfz36_1, hfz36_2, hfz36_3, hfz36_4⟩ := fzQ5 BK243.out
                 go_wp2
                 refine bodyPost_ret (results_cell_row rfl _ _ gb243 178 #[.bool false, .bool true, .bool false, .bool false, .bool false] (0, 0) _ rfl (by refine blk_put (cs := #[.bool false, .bool true, .bool false, .bool false, .bool false]) ?_ 4 _ rfl; refine blk_put (cs := #[.bool false, .bool true, .bool false, .bool false, .bool false]) ?_ 3 _ rfl; refine blk_put (cs := #[.bool false, .bool true, .bool false, .bool false, .bool false]) ?_ 2 _ rfl; refine blk_put (cs := #[.bool false, .bool false, .bool false, .bool false, .bool false]) ?_ 1 _ rfl; refine blk_put (cs := #[.bool false, .bool false, .bool false, .bool false, .bool false]) ?_ 0 _ rfl; exact BK243.out) Tryz.underlying178 rfl (by kernel_rfl)) rfl ?_
                 exact ⟨by first | rfl | (simp [errW_none, errW_some] <;> rfl) | (simp [*, errW_none, errW_some] <;> rfl), by repeat with_reducible first | exact HB.out | apply pw_below_drewN | apply below_drew1 | refine below_set ?_ GE243.out⟩
                ·
                 replace c35 := Bool.eq_false_iff.mpr c35
                 subst c35
                 rw [if_neg Bool.false_ne_true] at H
                 by_cases c37 : a0 = 20
                 ·
                  rw [if_pos c37] at H
                  have c37b0 : (a0 == 20) = true := beq_iff_eq.mpr c37
                  have c37b1 : (a0 != 20) = false := bne_eq_false_iff_eq.mpr c37
                  clear c37
                  simp only [Option.some.injEq, Prod.mk.injEq] at H
                  obtain ⟨rfl, rfl, rfl, rfl, rfl⟩ := H
                  obtain ⟨hcz38_0, hcz38_1, hcz38_2, hcz38_3, hcz38_4⟩ := bcQ5 BK243.out
                  obtain ⟨hfz38_0, hfz38_1, hfz38_2, hfz38_3, hfz38_4⟩ := fzQ5 BK243.out
                  go_wp2
                  refine bodyPost_ret (results_cell_row rfl _ _ gb243 178 #[.bool true, .bool false, .bool false, .bool true, .bool true] (0, 0) _ rfl (by refine blk_put (cs := #[.bool true, .bool false, .bool false, .bool true, .bool false]) ?_ 4 _ rfl; refine blk_put (cs := #[.bool true, .bool false, .bool false, .bool false, .bool false]) ?_ 3 _ rfl; refine blk_put (cs := #[.bool true, .bool false, .bool false, .bool false, .bool false]) ?_ 2 _ rfl; refine blk_put (cs := #[.bool true, .bool false, .bool false, .bool false, .bool false]) ?_ 1 _ rfl; refine blk_put (cs := #[.bool false, .bool false, .bool false, .bool false, .bool false]) ?_ 0 _ rfl; exact BK243.out) Tryz.underlying178 rfl (by kernel_rfl)) rfl ?_
                  exact ⟨by first | rfl | (simp [errW_none, errW_some] <;> rfl) | (simp [*, errW_none, errW_some] <;> rfl), by repeat with_reducible first | exact HB.out | apply pw_below_drewN | apply below_drew1 | refine below_set ?_ GE243.out⟩
                 ·
                  rw [if_neg c37] at H
                  have c37b0 : (a0 == 20) = false := beq_eq_false_iff_ne.mpr c37
                  have c37b1 : (a0 != 20) = true := bne_iff_ne.mpr c37
                  simp only [Option.some.injEq, Prod.mk.injEq] at H
                  obtain ⟨rfl, rfl, rfl, rfl, rfl⟩ := H
                  obtain ⟨hcz39_0, hcz39_1, hcz39_2, hcz39_3, hcz39_4⟩ := bcQ5 BK243.out
                  obtain ⟨hfz39_0, hfz39_1, hfz39_2, hfz39_3, hfz39_4⟩ := fzQ5 BK243.out
                  go_wp2
                  refine bodyPost_ret (results_cell_row rfl _ _ gb243 178 #[.bool false, .bool false, .bool false, .bool false, .bool false] (0, 0) _ rfl (by refine blk_put (cs := #[.bool false, .bool false, .bool false, .bool false, .bool false]) ?_ 4 _ rfl; refine blk_put (cs := #[.bool false, .bool false, .bool false, .bool false, .bool false]) ?_ 3 _ rfl; refine blk_put (cs := #[.bool false, .bool false, .bool false, .bool false, .bool false]) ?_ 2 _ rfl; refine blk_put (cs := #[.bool false, .bool false, .bool false, .bool false, .bool false]) ?_ 1 _ rfl; refine blk_put (cs := #[.bool false, .bool false, .bool false, .bool false, .bool false]) ?_ 0 _ rfl; exact BK243.out) Tryz.underlying178 rfl (by kernel_rfl)) rfl ?_
                  exact ⟨by first | rfl | (simp [errW_none, errW_some] <;> rfl) | (simp [*, errW_none, errW_some] <;> rfl), by repeat with_reducible first | exact HB.out | apply pw_below_drewN | apply below_drew1 | refine below_set ?_ GE243.out⟩


/-! ### pleatref02_register: function 122 -/
def pleatref02_register.f (a0 : Bool) (a1 : Int) : Option (Bool) := if a0 = true then (if a1 ≥ 0 then (some (decide (a1 < 16))) else (some false)) else (some (a1 == 0))
set_option maxHeartbeats 8000000 in
set_option maxRecDepth 100000 in
theorem pleatref02_register.calls (a0 : Bool) (a1 : Int) (r : Bool) (w : World) (h : pleatref02_register.f a0 a1 = some r) :
  Calls Tryz.prog 122 #[.bool a0, .int .i8 a1] w fun e w' => e = .returned (.bool r) ∧ Drawn0 w w' := by
 have H : (if a0 = true then (if a1 ≥ 0 then (some (decide (a1 < 16))) else (some false)) else (some (a1 == 0))) = some r := h
 clear h
 by_cases c3 : a0 = true
 ·
  subst c3
  rw [if_pos rfl] at H
  by_cases c4 : a1 ≥ 0
  ·
   rw [if_pos c4] at H
   have c4b0 : decide (0 ≤ a1) = true := decide_eq_true c4
   clear c4
   obtain rfl := Option.some.inj H
   go_enter Tryz.func122, Tryz.ntmps122
   go_wp2
   go_ret
   exact ⟨by first | rfl | (simp; done) | (simp [*]; done), by repeat (first | exact Drawn0.refl _ | apply Drawn0.step)⟩
  ·
   rw [if_neg c4] at H
   have c4b0 : decide (0 ≤ a1) = false := decide_eq_false c4
   clear c4
   obtain rfl := Option.some.inj H
   go_enter Tryz.func122, Tryz.ntmps122
   go_wp2
   go_ret
   exact ⟨by first | rfl | (simp; done) | (simp [*]; done), by repeat (first | exact Drawn0.refl _ | apply Drawn0.step)⟩
 ·
  replace c3 := Bool.eq_false_iff.mpr c3
  subst c3
  rw [if_neg Bool.false_ne_true] at H
  obtain rfl := Option.some.inj H
  go_enter Tryz.func122, Tryz.ntmps122
  go_wp2
  go_ret
  exact ⟨by first | rfl | (simp; done) | (simp [*]; done), by repeat (first | exact Drawn0.refl _ | apply Drawn0.step)⟩
end Go.Proofs.YtiaohbbafaaibabGreatDoor.P
