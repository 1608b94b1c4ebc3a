/- OWN TEXT: what isa.Encode comes to (it holds an array, which the print does not take), in the print's own form. -/
import Derived.Test.YtiaohbbafaaibaaP0
import Derived.Test.YtiaohbbafaaibaaHIsa
import Derived.Handy
namespace Go.Proofs.Ytiaohbbafaaibaa.P
open Go.RowKit Go.Proofs.YtiaohbbafaaibaaW.PrintWords Go.Proofs.YtiaohbbafaaibaaW.PrintLast Go.Proofs.YtiaohbbafaaibaaW.PrintMore Go.Proofs.Ytiaohbbafaaibaa.Arr
set_option linter.unusedVariables false
set_option linter.unusedSimpArgs false

theorem cells5 {W : World} {g t : Nat} {v0 v1 v2 v3 v4 : Value} (h : W.heap[g]? = some (.cells #[v0, v1, v2, v3, v4] t (0, 0))) :
    W.cell? ⟨g, 0, none⟩ = some v0 ∧ W.cell? ⟨g, 1, none⟩ = some v1 ∧ W.cell? ⟨g, 2, none⟩ = some v2 ∧ W.cell? ⟨g, 3, none⟩ = some v3 ∧ W.cell? ⟨g, 4, none⟩ = some v4 :=
  ⟨blk_cell h 0, blk_cell h 1, blk_cell h 2, blk_cell h 3, blk_cell h 4⟩
theorem arr3_one (a b c : Int) : ((#[.int .i8 a, .int .i8 b, .int .i8 c] : Array Value).all fun v => v.oneCell') = true := by kernel_rfl
/-- May register r not be, f the op's fields, m its own bit? -/
def badReg (f r m : Int) : Prop := r < 0 ∨ 16 ≤ r ∨ (r ≠ 0 ∧ Go.bits .and .i64 f m = 0)
def lowT (f : Int) : Int := if Go.bits .and .i64 f 16 = 0 then (if Go.bits .and .i64 f 8 = 0 then 0 else -16384) else 0
def highT (f : Int) : Int := if Go.bits .and .i64 f 16 = 0 then (if Go.bits .and .i64 f 8 = 0 then 0 else 16383) else 16383
/-- The word, as the walk tells it. -/
def encW (a0 a1 a2 a3 a4 : Int) : Int := Go.bits .or .u32 (Go.bits .or .u32 (Go.bits .or .u32 (Go.bits .or .u32 (a0 * 134217728) (a1 * 8388608)) (a2 * 524288)) (a3 * 32768)) (Go.bits .and .u32 (a4 % 4294967296) 32767)
def RegRel (fv a1 a2 a3 : Int) (i : Value) : Prop :=
  i = .int .i64 0 ∨ (i = .int .i64 1 ∧ ¬ badReg fv a1 1) ∨ (i = .int .i64 2 ∧ ¬ badReg fv a1 1 ∧ ¬ badReg fv a2 2) ∨ (i = .int .i64 3 ∧ ¬ badReg fv a1 1 ∧ ¬ badReg fv a2 2 ∧ ¬ badReg fv a3 4)
def BadIns (fv a1 a2 a3 a4 : Int) : Prop := badReg fv a1 1 ∨ badReg fv a2 2 ∨ badReg fv a3 4 ∨ a4 < lowT fv ∨ a4 > highT fv
set_option maxHeartbeats 8000000 in
set_option maxRecDepth 100000 in
theorem isa_Encode.calls_in (a0 a1 a2 a3 a4 fv : Int) (r1 r2 : Int) (w : World) (h0 : 0 ≤ a0) (h22 : a0 < 22) (Hhas : Aside0 (isa_has.f a0 = some fv))
    (Hbad : Aside0 (BadIns fv a1 a2 a3 a4 → r1 = 0 ∧ r2 = 11)) (Hgood : Aside0 (¬ BadIns fv a1 a2 a3 a4 → r1 = encW a0 a1 a2 a3 a4 ∧ r2 = 0)) :
    Calls Try.prog 32 #[.agg #[.int .i8 a0, .int .i8 a1, .int .i8 a2, .int .i8 a3, .int .i64 a4]] w fun e w' => e = .returned (.tuple #[.int .u32 r1, .int .i64 r2]) ∧ Below w.heap.size w w' := by
  have i0 : ∀ W, (Instr.index 102 (.agg #[.int .i8 a1, .int .i8 a2, .int .i8 a3]) (.int .i64 0)).run Try.prog W = .ok (.int .i8 a1) W := fun _ => by kernel_rfl
  have i1 : ∀ W, (Instr.index 102 (.agg #[.int .i8 a1, .int .i8 a2, .int .i8 a3]) (.int .i64 1)).run Try.prog W = .ok (.int .i8 a2) W := fun _ => by kernel_rfl
  have i2 : ∀ W, (Instr.index 102 (.agg #[.int .i8 a1, .int .i8 a2, .int .i8 a3]) (.int .i64 2)).run Try.prog W = .ok (.int .i8 a3) W := fun _ => by kernel_rfl
  go_enter Try.func32, Try.ntmps32
  go_wp2_with (first | ((with_reducible refine gate_dst (N := 1) rfl ?_); refine box_event ?hg (N := 1) ?hd (cs := #[.int .i8 a0, .int .i8 a1, .int .i8 a2, .int .i8 a3, .int .i64 a4]) (t := 36) ?hr ?_; (case hd => rfl); (case hg => rfl); (case hr => first | (go_simp; done) | (go_simp; rfl)); intro g0 hge0 w1 BK1 hb1; have HB := Aside0.mk (below_then (Below.refl w.heap.size w) (Nat.le_refl _) hb1); have BK := Aside0.mk BK1; have GE0 := Aside0.mk (show w.heap.size ≤ g0 by omega); clear BK1 hb1 hge0; obtain ⟨q0, q1, q2, q3, q4⟩ := cells5 BK.out) | (go_at_call 88; refine (isa_has.calls a0 fv _ Hhas.out).mono ?_; rintro e w2 ⟨rfl, hb⟩; have HBn := Aside0.mk (below_then HB.out HB.out.size hb); have BKn := Aside0.mk (blk_below BK.out hb); clear HB BK hb q0 q1 q2 q3 q4; have HB := HBn; have BK := BKn; clear HBn BKn; obtain ⟨q0, q1, q2, q3, q4⟩ := cells5 BK.out) | ((with_reducible refine gate_dst (N := 5) rfl ?_); refine box_event ?hg (N := 5) ?hd (cs := #[.int .i8 0, .int .i8 0, .int .i8 0]) (t := 102) ?hr ?_; (case hd => rfl); (case hg => rfl); (case hr => first | (go_simp; done) | (go_simp; rfl)); intro g1 hge1 w3 BR1 hb; have HBn := Aside0.mk (below_then HB.out HB.out.size hb); have BKn := Aside0.mk (blk_below BK.out hb); have BR := Aside0.mk BR1; have NE := Aside0.mk (show g0 ≠ g1 by have := blk_lt BK.out; omega); have GE1 := Aside0.mk (show w.heap.size ≤ g1 by have := HB.out.size; omega); clear HB BK hb q0 q1 q2 q3 q4 BR1 hge1; have HB := HBn; have BK := BKn; clear HBn BKn; obtain ⟨q0, q1, q2, q3, q4⟩ := cells5 BK.out) | ((with_reducible refine gate_store (t := 102) rfl ?_); refine wpList_store_whole rfl rfl rfl g1 _ #[.int .i8 a1, .int .i8 a2, .int .i8 a3] _ rfl (by rfl) BR.out (by kernel_rfl) (by rfl) (arr3_one _ _ _) ?_; intro w4 hp; have HBn := Aside0.mk (hp.below HB.out GE1.out); have BKn := Aside0.mk ((hp.far g0 NE.out).trans BK.out); have BRn := Aside0.mk hp.blk; clear HB BK BR hp q0 q1 q2 q3 q4; have HB := HBn; have BK := BKn; have BR := BRn; clear HBn BKn BRn; obtain ⟨q0, q1, q2, q3, q4⟩ := cells5 BK.out) | ((with_reducible refine gate_dst (N := 28) rfl ?_); refine wpList_load_row rfl 102 _ rfl g1 rfl 102 _ (0, 0) _ BR.out Try.underlying102 rfl (by kernel_rfl) ?_))
  go_loop [29] (fun i => RegRel fv a1 a2 a3 i) (fun i => 3 - (intOf i).toNat)
  case atStart => exact .inl rfl
  case round =>
    rcases hrel with rfl | ⟨rfl, hg1⟩ | ⟨rfl, hg1, hg2⟩ | ⟨rfl, hg1, hg2, hg3⟩
    · -- register 0
      by_cases c1 : a1 < 0
      · have hbd : badReg fv a1 1 := .inl c1
        have Hbd := Aside0.mk (show BadIns fv a1 a2 a3 a4 from .inl hbd)
        clear hbd
        go_wp2
        go_ret2
        exact ⟨by obtain ⟨rfl, rfl⟩ := Hbad.out Hbd.out; rfl, HB.out⟩
      by_cases c2 : 16 ≤ a1
      · have hbd : badReg fv a1 1 := .inr (.inl c2)
        have Hbd := Aside0.mk (show BadIns fv a1 a2 a3 a4 from .inl hbd)
        clear hbd
        go_wp2
        go_ret2
        exact ⟨by obtain ⟨rfl, rfl⟩ := Hbad.out Hbd.out; rfl, HB.out⟩
      by_cases c3 : a1 = 0
      · have HG := Aside0.mk (show ¬ badReg fv a1 1 from fun h => by rcases h with h | h | h <;> omega)
        have e1 : (a1 != 0) = false := by simp [c3]
        clear c3
        go_wp2
        go_round
        case rel => exact .inr (.inl ⟨rfl, HG.out⟩)
        case measure => simp [intOf]
      have e1 : (a1 != 0) = true := by simp [c3]
      by_cases c4 : Go.bits .and .i64 fv 1 = 0
      · have hbd : badReg fv a1 1 := .inr (.inr ⟨c3, c4⟩)
        have Hbd := Aside0.mk (show BadIns fv a1 a2 a3 a4 from .inl hbd)
        have e2 : (Go.bits .and .i64 fv 1 == 0) = true := by simp [c4]
        clear hbd c3 c4
        go_wp2
        go_ret2
        exact ⟨by obtain ⟨rfl, rfl⟩ := Hbad.out Hbd.out; rfl, HB.out⟩
      have HG := Aside0.mk (show ¬ badReg fv a1 1 from fun h => by rcases h with h | h | h <;> first | omega | exact c4 h.2)
      have e2 : (Go.bits .and .i64 fv 1 == 0) = false := by simp [c4]
      clear c3 c4
      go_wp2
      go_round
      case rel => exact .inr (.inl ⟨rfl, HG.out⟩)
      case measure => simp [intOf]
    · -- register 1
      have H1 := Aside0.mk hg1
      clear hg1
      by_cases c1 : a2 < 0
      · have hbd : badReg fv a2 2 := .inl c1
        have Hbd := Aside0.mk (show BadIns fv a1 a2 a3 a4 from .inr (.inl hbd))
        clear hbd
        go_wp2
        go_ret2
        exact ⟨by obtain ⟨rfl, rfl⟩ := Hbad.out Hbd.out; rfl, HB.out⟩
      by_cases c2 : 16 ≤ a2
      · have hbd : badReg fv a2 2 := .inr (.inl c2)
        have Hbd := Aside0.mk (show BadIns fv a1 a2 a3 a4 from .inr (.inl hbd))
        clear hbd
        go_wp2
        go_ret2
        exact ⟨by obtain ⟨rfl, rfl⟩ := Hbad.out Hbd.out; rfl, HB.out⟩
      by_cases c3 : a2 = 0
      · have HG := Aside0.mk (show ¬ badReg fv a2 2 from fun h => by rcases h with h | h | h <;> omega)
        have e1 : (a2 != 0) = false := by simp [c3]
        clear c3
        go_wp2
        go_round
        case rel => exact .inr (.inr (.inl ⟨rfl, H1.out, HG.out⟩))
        case measure => simp [intOf]
      have e1 : (a2 != 0) = true := by simp [c3]
      by_cases c4 : Go.bits .and .i64 fv 2 = 0
      · have hbd : badReg fv a2 2 := .inr (.inr ⟨c3, c4⟩)
        have Hbd := Aside0.mk (show BadIns fv a1 a2 a3 a4 from .inr (.inl hbd))
        have e2 : (Go.bits .and .i64 fv 2 == 0) = true := by simp [c4]
        clear hbd c3 c4
        go_wp2
        go_ret2
        exact ⟨by obtain ⟨rfl, rfl⟩ := Hbad.out Hbd.out; rfl, HB.out⟩
      have HG := Aside0.mk (show ¬ badReg fv a2 2 from fun h => by rcases h with h | h | h <;> first | omega | exact c4 h.2)
      have e2 : (Go.bits .and .i64 fv 2 == 0) = false := by simp [c4]
      clear c3 c4
      go_wp2
      go_round
      case rel => exact .inr (.inr (.inl ⟨rfl, H1.out, HG.out⟩))
      case measure => simp [intOf]
    · -- register 2
      have H1 := Aside0.mk hg1
      have H2 := Aside0.mk hg2
      clear hg1 hg2
      by_cases c1 : a3 < 0
      · have hbd : badReg fv a3 4 := .inl c1
        have Hbd := Aside0.mk (show BadIns fv a1 a2 a3 a4 from .inr (.inr (.inl hbd)))
        clear hbd
        go_wp2
        go_ret2
        exact ⟨by obtain ⟨rfl, rfl⟩ := Hbad.out Hbd.out; rfl, HB.out⟩
      by_cases c2 : 16 ≤ a3
      · have hbd : badReg fv a3 4 := .inr (.inl c2)
        have Hbd := Aside0.mk (show BadIns fv a1 a2 a3 a4 from .inr (.inr (.inl hbd)))
        clear hbd
        go_wp2
        go_ret2
        exact ⟨by obtain ⟨rfl, rfl⟩ := Hbad.out Hbd.out; rfl, HB.out⟩
      by_cases c3 : a3 = 0
      · have HG := Aside0.mk (show ¬ badReg fv a3 4 from fun h => by rcases h with h | h | h <;> omega)
        have e1 : (a3 != 0) = false := by simp [c3]
        clear c3
        go_wp2
        go_round
        case rel => exact .inr (.inr (.inr ⟨rfl, H1.out, H2.out, HG.out⟩))
        case measure => simp [intOf]
      have e1 : (a3 != 0) = true := by simp [c3]
      by_cases c4 : Go.bits .and .i64 fv 4 = 0
      · have hbd : badReg fv a3 4 := .inr (.inr ⟨c3, c4⟩)
        have Hbd := Aside0.mk (show BadIns fv a1 a2 a3 a4 from .inr (.inr (.inl hbd)))
        have e2 : (Go.bits .and .i64 fv 4 == 0) = true := by simp [c4]
        clear hbd c3 c4
        go_wp2
        go_ret2
        exact ⟨by obtain ⟨rfl, rfl⟩ := Hbad.out Hbd.out; rfl, HB.out⟩
      have HG := Aside0.mk (show ¬ badReg fv a3 4 from fun h => by rcases h with h | h | h <;> first | omega | exact c4 h.2)
      have e2 : (Go.bits .and .i64 fv 4 == 0) = false := by simp [c4]
      clear c3 c4
      go_wp2
      go_round
      case rel => exact .inr (.inr (.inr ⟨rfl, H1.out, H2.out, HG.out⟩))
      case measure => simp [intOf]
    · have b1 : 0 ≤ a1 ∧ a1 < 16 := by unfold badReg at hg1; omega
      have b2 : 0 ≤ a2 ∧ a2 < 16 := by unfold badReg at hg2; omega
      have b3 : 0 ≤ a3 ∧ a3 < 16 := by unfold badReg at hg3; omega
      obtain ⟨b1l, b1h⟩ := b1
      obtain ⟨b2l, b2h⟩ := b2
      obtain ⟨b3l, b3h⟩ := b3
      have H1 := Aside0.mk hg1
      have H2 := Aside0.mk hg2
      have H3 := Aside0.mk hg3
      clear hg1 hg2 hg3 i0 i1 i2
      by_cases c5 : Go.bits .and .i64 fv 16 = 0
      · have e5 : (Go.bits .and .i64 fv 16 != 0) = false := by simp [c5]
        by_cases c6 : Go.bits .and .i64 fv 8 = 0
        · have e6 : (Go.bits .and .i64 fv 8 != 0) = false := by simp [c6]
          have HL := Aside0.mk (show lowT fv = 0 from by simp [lowT, *])
          have HH := Aside0.mk (show highT fv = 0 from by simp [highT, *])
          clear c5 c6
          by_cases c7 : a4 < 0
          · have Hbd := Aside0.mk (show BadIns fv a1 a2 a3 a4 from .inr (.inr (.inr (.inl (by rw [HL.out]; exact c7)))))
            go_wp2
            go_ret2
            exact ⟨by obtain ⟨rfl, rfl⟩ := Hbad.out Hbd.out; rfl, HB.out⟩
          by_cases c8 : a4 > 0
          · have Hbd := Aside0.mk (show BadIns fv a1 a2 a3 a4 from .inr (.inr (.inr (.inr (by rw [HH.out]; exact c8)))))
            go_wp2
            go_ret2
            exact ⟨by obtain ⟨rfl, rfl⟩ := Hbad.out Hbd.out; rfl, HB.out⟩
          have Hgd := Aside0.mk (show ¬ BadIns fv a1 a2 a3 a4 from fun h => by rcases h with h | h | h | h | h <;> first | exact H1.out h | exact H2.out h | exact H3.out h | (rw [HL.out] at h; omega) | (rw [HH.out] at h; omega))
          have c7' : 0 ≤ a4 := by omega
          have c8' : a4 ≤ 0 := by omega
          clear c7 c8
          go_wp2
          go_ret2
          obtain ⟨rfl, rfl⟩ := Hgood.out Hgd.out
          exact ⟨by unfold encW; first | rfl | (rw [show a4 % 4294967296 = a4 by omega]; rfl), HB.out⟩
        · have e6 : (Go.bits .and .i64 fv 8 != 0) = true := by simp [c6]
          have HL := Aside0.mk (show lowT fv = (-16384) from by simp [lowT, *])
          have HH := Aside0.mk (show highT fv = 16383 from by simp [highT, *])
          clear c5 c6
          by_cases c7 : a4 < (-16384)
          · have Hbd := Aside0.mk (show BadIns fv a1 a2 a3 a4 from .inr (.inr (.inr (.inl (by rw [HL.out]; exact c7)))))
            go_wp2
            go_ret2
            exact ⟨by obtain ⟨rfl, rfl⟩ := Hbad.out Hbd.out; rfl, HB.out⟩
          by_cases c8 : a4 > 16383
          · have Hbd := Aside0.mk (show BadIns fv a1 a2 a3 a4 from .inr (.inr (.inr (.inr (by rw [HH.out]; exact c8)))))
            go_wp2
            go_ret2
            exact ⟨by obtain ⟨rfl, rfl⟩ := Hbad.out Hbd.out; rfl, HB.out⟩
          have Hgd := Aside0.mk (show ¬ BadIns fv a1 a2 a3 a4 from fun h => by rcases h with h | h | h | h | h <;> first | exact H1.out h | exact H2.out h | exact H3.out h | (rw [HL.out] at h; omega) | (rw [HH.out] at h; omega))
          have c7' : (-16384) ≤ a4 := by omega
          have c8' : a4 ≤ 16383 := by omega
          clear c7 c8
          go_wp2
          go_ret2
          obtain ⟨rfl, rfl⟩ := Hgood.out Hgd.out
          exact ⟨by unfold encW; first | rfl | (rw [show a4 % 4294967296 = a4 by omega]; rfl), HB.out⟩
      · have e5 : (Go.bits .and .i64 fv 16 != 0) = true := by simp [c5]
        have HL := Aside0.mk (show lowT fv = 0 from by simp [lowT, *])
        have HH := Aside0.mk (show highT fv = 16383 from by simp [highT, *])
        clear c5
        by_cases c7 : a4 < 0
        · have Hbd := Aside0.mk (show BadIns fv a1 a2 a3 a4 from .inr (.inr (.inr (.inl (by rw [HL.out]; exact c7)))))
          go_wp2
          go_ret2
          exact ⟨by obtain ⟨rfl, rfl⟩ := Hbad.out Hbd.out; rfl, HB.out⟩
        by_cases c8 : a4 > 16383
        · have Hbd := Aside0.mk (show BadIns fv a1 a2 a3 a4 from .inr (.inr (.inr (.inr (by rw [HH.out]; exact c8)))))
          go_wp2
          go_ret2
          exact ⟨by obtain ⟨rfl, rfl⟩ := Hbad.out Hbd.out; rfl, HB.out⟩
        have Hgd := Aside0.mk (show ¬ BadIns fv a1 a2 a3 a4 from fun h => by rcases h with h | h | h | h | h <;> first | exact H1.out h | exact H2.out h | exact H3.out h | (rw [HL.out] at h; omega) | (rw [HH.out] at h; omega))
        have c7' : 0 ≤ a4 := by omega
        have c8' : a4 ≤ 16383 := by omega
        clear c7 c8
        go_wp2
        go_ret2
        obtain ⟨rfl, rfl⟩ := Hgood.out Hgd.out
        exact ⟨by unfold encW; first | rfl | (rw [show a4 % 4294967296 = a4 by omega]; rfl), HB.out⟩

instance (f r m : Int) : Decidable (badReg f r m) := by unfold badReg; infer_instance
instance (f a1 a2 a3 a4 : Int) : Decidable (BadIns f a1 a2 a3 a4) := by unfold BadIns; infer_instance
def isa_Encode.f (a0 a1 a2 a3 a4 : Int) : Option (Int × Int) :=
  if a0 < 0 then (some (0, 10)) else (if a0 ≥ 22 then (some (0, 10)) else (if BadIns (hasT a0) a1 a2 a3 a4 then (some (0, 11)) else (some (encW a0 a1 a2 a3 a4, 0))))
set_option maxHeartbeats 1000000 in
set_option maxRecDepth 100000 in
theorem isa_Encode.calls_out (a0 a1 a2 a3 a4 : Int) (w : World) (h : a0 < 0 ∨ 22 ≤ a0) :
    Calls Try.prog 32 #[.agg #[.int .i8 a0, .int .i8 a1, .int .i8 a2, .int .i8 a3, .int .i64 a4]] w fun e w' => e = .returned (.tuple #[.int .u32 0, .int .i64 10]) ∧ Below w.heap.size w w' := by
  rcases h with h | h
  · go_enter Try.func32, Try.ntmps32
    go_wp2
    go_ret2
    exact ⟨rfl, (Below.refl _ _).alloc (Nat.le_refl _) _⟩
  · have h2 : ¬ a0 < 0 := by omega
    go_enter Try.func32, Try.ntmps32
    go_wp2
    go_ret2
    exact ⟨rfl, (Below.refl _ _).alloc (Nat.le_refl _) _⟩
theorem isa_Encode.calls (a0 a1 a2 a3 a4 : Int) (r1 r2 : Int) (w : World) (h : isa_Encode.f a0 a1 a2 a3 a4 = some (r1, r2)) :
    Calls Try.prog 32 #[.agg #[.int .i8 a0, .int .i8 a1, .int .i8 a2, .int .i8 a3, .int .i64 a4]] w fun e w' => e = .returned (.tuple #[.int .u32 r1, .int .i64 r2]) ∧ Below w.heap.size w w' := by
  unfold isa_Encode.f at h
  by_cases c1 : a0 < 0
  · rw [if_pos c1] at h
    injection h with h
    injection h with h1 h2
    subst h1 h2
    exact isa_Encode.calls_out a0 a1 a2 a3 a4 w (.inl c1)
  rw [if_neg c1] at h
  by_cases c2 : a0 ≥ 22
  · rw [if_pos c2] at h
    injection h with h
    injection h with h1 h2
    subst h1 h2
    exact isa_Encode.calls_out a0 a1 a2 a3 a4 w (.inr c2)
  rw [if_neg c2] at h
  refine isa_Encode.calls_in a0 a1 a2 a3 a4 (hasT a0) r1 r2 w (by omega) (by omega) ⟨by unfold isa_has.f; rw [if_neg c1, if_neg c2]⟩ ⟨fun hb => ?_⟩ ⟨fun hb => ?_⟩
  · rw [if_pos hb] at h
    injection h with h
    injection h with h1 h2
    exact ⟨h1.symm, h2.symm⟩
  · rw [if_neg hb] at h
    injection h with h
    injection h with h1 h2
    exact ⟨h1.symm, h2.symm⟩

end Go.Proofs.Ytiaohbbafaaibaa.P
