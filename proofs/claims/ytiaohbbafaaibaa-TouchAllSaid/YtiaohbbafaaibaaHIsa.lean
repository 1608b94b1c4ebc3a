/- OWN TEXT: what isa.has and isa.Encode come to (their tables are arrays, which the print does not take), in the print's own form. -/
import Derived.Test.YtiaohbbafaaibaaP0
import Derived.Test.YtiaohbbafaaibaaHArr
import Derived.Outline
import Derived.Handy
import Derived.Deep.DeepMust
namespace Go.Proofs.Ytiaohbbafaaibaa.P
open Go.RowKit Go.Proofs.YtiaohbbafaaibaaW.PrintWords Go.Proofs.YtiaohbbafaaibaaW.PrintLast Go.Proofs.YtiaohbbafaaibaaW.PrintMore Go.Proofs.Ytiaohbbafaaibaa.Arr
set_option linter.unusedVariables false
set_option linter.unusedSimpArgs false

/-- The fields of each op. -/
def fieldsA : Array Value := #[.int .i64 0, .int .i64 9, .int .i64 3, .int .i64 7, .int .i64 7, .int .i64 7, .int .i64 7, .int .i64 7, .int .i64 7, .int .i64 7, .int .i64 7, .int .i64 11, .int .i64 14, .int .i64 1, .int .i64 10, .int .i64 24, .int .i64 26, .int .i64 24, .int .i64 2, .int .i64 2, .int .i64 25, .int .i64 0]
theorem fieldsA_one : (fieldsA.all fun v => v.oneCell') = true := by kernel_rfl
/-- The same as numbers. -/
def fieldsL : List Int := [0, 9, 3, 7, 7, 7, 7, 7, 7, 7, 7, 11, 14, 1, 10, 24, 26, 24, 2, 2, 25, 0]
theorem fieldsA_eq : fieldsA = (fieldsL.map (Value.int .i64)).toArray := rfl
theorem isa_size3 (W : World) : (sizeOf 3).run Try.prog W = .ok 1 W := by kernel_rfl
set_option maxHeartbeats 4000000 in
set_option maxRecDepth 100000 in
theorem isa_fields.calls (w : World) :
    Calls Try.prog 125 #[] w fun e w' => e = .returned (.agg fieldsA) ∧ Below w.heap.size w w' := by
  have HB := Aside0.mk (Below.refl w.heap.size w)
  go_enter Try.func125, Try.ntmps125
  go_upto_region 2 with (first | ((with_reducible refine gate_dst (N := 0) rfl ?_); refine box_event ?hg (N := 0) ?hd (cs := #[.int .i64 0, .int .i64 0, .int .i64 0, .int .i64 0, .int .i64 0, .int .i64 0, .int .i64 0, .int .i64 0, .int .i64 0, .int .i64 0, .int .i64 0, .int .i64 0, .int .i64 0, .int .i64 0, .int .i64 0, .int .i64 0, .int .i64 0, .int .i64 0, .int .i64 0, .int .i64 0, .int .i64 0, .int .i64 0]) (t := 138) ?hr ?_; (case hd => rfl); (case hg => rfl); (case hr => first | (go_simp; done) | (go_simp; rfl)); intro g0 hge0 w1 BK0 hb0; have HB1 := Aside0.mk (below_then HB.out (Nat.le_refl _) hb0); have BGa := Aside0.mk BK0; have GE0 := Aside0.mk (show w.heap.size ≤ g0 by omega); have GL0 := Aside0.mk (show g0 < w1.heap.size from blk_lt BK0); clear BK0 hb0 hge0) | ((with_reducible refine gate_dst (N := 1) rfl ?_); refine box_event ?hg (N := 1) ?hd (cs := #[.int .i64 0, .int .i64 0, .int .i64 0, .int .i64 0, .int .i64 0, .int .i64 0, .int .i64 0, .int .i64 0, .int .i64 0, .int .i64 0, .int .i64 0, .int .i64 0, .int .i64 0, .int .i64 0, .int .i64 0, .int .i64 0, .int .i64 0, .int .i64 0, .int .i64 0, .int .i64 0, .int .i64 0, .int .i64 0]) (t := 138) ?hr ?_; (case hd => rfl); (case hg => rfl); (case hr => first | (go_simp; done) | (go_simp; rfl)); intro g1 hge1 w2 BK1 hb1; have HB2 := Aside0.mk (below_then HB1.out HB1.out.size hb1); have BG1 := Aside0.mk BK1; have BG0 := Aside0.mk (blk_below BGa.out hb1); have NE := Aside0.mk (show g0 ≠ g1 by have := GL0.out; omega); have GE1 := Aside0.mk (show w.heap.size ≤ g1 by have := HB1.out.size; omega); clear BK1 hb1 hge1 HB1 BGa GL0))
  go_wp2_with (first | ((with_reducible refine gate_store (t := 3) rfl ?_); refine wpList_store_arr_const rfl rfl rfl g1 _ _ _ _ rfl rfl rfl (isa_size3 _) BG1.out (by decide) (by simp only [List.setIfInBounds_toArray, List.set_cons_zero, List.set_cons_succ]; rfl) ?_; intro w3 hp; have HBn := Aside0.mk (hp.below HB2.out GE1.out); have BG1n := Aside0.mk hp.blk; have BG0n := Aside0.mk ((hp.far g0 NE.out).trans BG0.out); clear BG1 BG0 HB2 hp; have BG1 := BG1n; have BG0 := BG0n; have HB2 := HBn; clear BG1n BG0n HBn) | ((with_reducible refine gate_dst (N := 21) rfl ?_); (refine wpList_load_row rfl 138 _ rfl g1 rfl 138 _ (0, 0) _ BG1.out Try.underlying138 rfl (by kernel_rfl) ?_)) | ((with_reducible refine gate_store (t := 138) rfl ?_); refine wpList_store_whole rfl rfl rfl g0 _ fieldsA _ rfl (by rfl) BG0.out (by kernel_rfl) (by rfl) fieldsA_one ?_; intro w3 hp; have HBn := Aside0.mk (hp.below HB2.out GE0.out); have BG0n := Aside0.mk hp.blk; clear BG1 BG0 HB2 hp))
  refine wp_loop_rounds 9 ?_
  iterate 9 (rw [rounds_succ]; go_wp2_with (first | ((with_reducible refine gate_store (t := 3) rfl ?_); refine wpList_store_arr_const rfl rfl rfl g1 _ _ _ _ rfl rfl rfl (isa_size3 _) BG1.out (by decide) (by simp only [List.setIfInBounds_toArray, List.set_cons_zero, List.set_cons_succ]; rfl) ?_; intro w3 hp; have HBn := Aside0.mk (hp.below HB2.out GE1.out); have BG1n := Aside0.mk hp.blk; have BG0n := Aside0.mk ((hp.far g0 NE.out).trans BG0.out); clear BG1 BG0 HB2 hp; have BG1 := BG1n; have BG0 := BG0n; have HB2 := HBn; clear BG1n BG0n HBn) | ((with_reducible refine gate_dst (N := 21) rfl ?_); (refine wpList_load_row rfl 138 _ rfl g1 rfl 138 _ (0, 0) _ BG1.out Try.underlying138 rfl (by kernel_rfl) ?_)) | ((with_reducible refine gate_store (t := 138) rfl ?_); refine wpList_store_whole rfl rfl rfl g0 _ fieldsA _ rfl (by rfl) BG0.out (by kernel_rfl) (by rfl) fieldsA_one ?_; intro w3 hp; have HBn := Aside0.mk (hp.below HB2.out GE0.out); have BG0n := Aside0.mk hp.blk; clear BG1 BG0 HB2 hp)))
  exact bodyPost_ret (v := .agg fieldsA) (results_cell_row Try.results125 _ _ g0 138 fieldsA (0, 0) _ rfl BG0n.out Try.underlying138 rfl (by kernel_rfl)) rfl ⟨rfl, HBn.out⟩

def hasT (a0 : Int) : Int := fieldsL.getD a0.toNat 0
def isa_has.f (a0 : Int) : Option (Int) := if a0 < 0 then (some 0) else (if a0 ≥ 22 then (some 0) else (some (hasT a0)))
set_option maxHeartbeats 1000000 in
set_option maxRecDepth 100000 in
theorem isa_has.calls (a0 : Int) (r : Int) (w : World) (h : isa_has.f a0 = some r) :
    Calls Try.prog 88 #[.int .i8 a0] w fun e w' => e = .returned (.int .i64 r) ∧ Below w.heap.size w w' := by
  unfold isa_has.f at h
  by_cases c1 : a0 < 0
  · rw [if_pos c1] at h
    obtain rfl := Option.some.inj h
    go_enter Try.func88, Try.ntmps88
    go_wp2
    go_ret
    exact ⟨rfl, Below.refl _ _⟩
  rw [if_neg c1] at h
  by_cases c2 : a0 ≥ 22
  · rw [if_pos c2] at h
    obtain rfl := Option.some.inj h
    go_enter Try.func88, Try.ntmps88
    go_wp2
    go_ret
    exact ⟨rfl, Below.refl _ _⟩
  rw [if_neg c2] at h
  have hr := Option.some.inj h
  have hv : fieldsA[a0.toNat]? = some (.int .i64 r) := by
    rw [← hr, fieldsA_eq, List.getElem?_toArray, List.getElem?_map]
    have hl : a0.toNat < fieldsL.length := by
      have : fieldsL.length = 22 := rfl
      omega
    unfold hasT
    rw [List.getD_eq_getElem?_getD, List.getElem?_eq_getElem hl]
    rfl
  have hix := fun W => run_index_arr (P := Try.prog) (w := W) (cs := fieldsA) (k := .i8) (i := a0) Try.underlying138 (by kernel_rfl) (isa_size3 W) (by omega) (by omega) hv
  clear h hr hv
  go_enter Try.func88, Try.ntmps88
  go_wp2_with (go_at_call 125; refine (isa_fields.calls _).mono ?_; rintro e w1 ⟨rfl, hb⟩)
  go_ret
  exact ⟨rfl, hb⟩

end Go.Proofs.Ytiaohbbafaaibaa.P
