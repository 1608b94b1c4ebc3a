/- The statement TouchAll: of every input its law's Go function answers true and leaves its arguments as they were; no further condition. This text: the law over numbers and lists, no memory. -/
import Derived.Test.YtiaohbbafaaibaaSayTouchAll
import Derived.Test.YtiaohbbafaaibaaTouchL
set_option linter.unusedVariables false
set_option linter.unusedSimpArgs false
namespace Go.Proofs.Ytiaohbbafaaibaa.P
open Go.RowKit Go.Proofs.YtiaohbbafaaibaaW.PrintWords

/-- Sixteen bits as a number. -/
def U (b : BitVec 16) : Int := (b.toNat : Int)
theorem U_lt (b : BitVec 16) : b.toNat < 65536 := b.isLt
theorem U_or (a b : BitVec 16) : Go.bits .or .u16 (U a) (U b) = U (a ||| b) := by
  unfold U
  rw [Go.u16_or_nat _ _ (U_lt a) (U_lt b), BitVec.toNat_or]
theorem U_andNot (a b : BitVec 16) : Go.bits .andNot .u16 (U a) (U b) = U (a &&& ~~~b) := by
  unfold U
  rw [Go.u16_andNot_nat _ _ (U_lt a) (U_lt b), BitVec.toNat_and, BitVec.toNat_not]
theorem U_of {x : Int} (h0 : 0 ≤ x) (h1 : x < 65536) : U (BitVec.ofNat 16 x.toNat) = x := by
  unfold U
  rw [BitVec.toNat_ofNat, Nat.mod_eq_of_lt (by omega)]
  omega
def rB (w : Int) : BitVec 16 := BitVec.ofNat 16 (readsS w).toNat
def wB (w : Int) : BitVec 16 := BitVec.ofNat 16 (writesS w).toNat
theorem rB_eq (w : Int) : U (rB w) = readsS w := U_of (readsS_range w).1 (readsS_range w).2
theorem wB_eq (w : Int) : U (wB w) = writesS w := U_of (writesS_range w).1 (writesS_range w).2
def stepB (s : BitVec 16 × BitVec 16) (x : Int) : BitVec 16 × BitVec 16 := (s.1 ||| (rB x &&& ~~~s.2), s.2 ||| wB x)
theorem step_split (l : List Int) : ∀ s : BitVec 16 × BitVec 16, l.foldl stepB s = (s.1 ||| ((l.foldl stepB (0, 0)).1 &&& ~~~s.2), s.2 ||| (l.foldl stepB (0, 0)).2) := by
  induction l with
  | nil =>
    intro s
    simp
  | cons x l ih =>
    intro s
    rw [List.foldl_cons, List.foldl_cons, ih (stepB s x), ih (stepB (0, 0) x)]
    generalize l.foldl stepB (0, 0) = q
    unfold stepB
    refine Prod.ext ?_ ?_
    · apply BitVec.eq_of_getLsbD_eq
      intro i hi
      simp only [BitVec.getLsbD_or, BitVec.getLsbD_and, BitVec.getLsbD_not, hi, decide_true, Bool.true_and, BitVec.ofNat_eq_ofNat, BitVec.getLsbD_zero]
      cases s.1.getLsbD i <;> cases s.2.getLsbD i <;> cases (rB x).getLsbD i <;> cases (wB x).getLsbD i <;> cases q.1.getLsbD i <;> rfl
    · apply BitVec.eq_of_getLsbD_eq
      intro i hi
      simp only [BitVec.getLsbD_or, BitVec.getLsbD_and, BitVec.getLsbD_not, hi, decide_true, Bool.true_and, BitVec.ofNat_eq_ofNat, BitVec.getLsbD_zero]
      cases s.2.getLsbD i <;> cases (wB x).getLsbD i <;> cases q.2.getLsbD i <;> rfl
def U2 (s : BitVec 16 × BitVec 16) : Int × Int := (U s.1, U s.2)
def Words (l : List Int) : Prop := ∀ x ∈ l, (Lit.int .u32 x).wf = true
theorem Words.at {l : List Int} (h : Words l) {i : Nat} (hi : i < l.length) : 0 ≤ l[i] ∧ l[i] < 4294967296 := by
  have := wf_u32 (h _ (List.getElem_mem hi))
  omega
theorem all1_loop (l : List Int) (hw : Words l) (hl : l.length ≤ 100000) (d : Nat) : ∀ (i : Nat) (s : BitVec 16 × BitVec 16), i + d = l.length →
    Ev (fun k => touch_All.l0 k (U s.1) (U s.2) l (l.length : Int) (i : Int)) (U2 ((l.drop i).foldl stepB s)) := by
  induction d with
  | zero =>
    intro i s hi
    refine Ev.succ ?_
    simp only [touch_All.l0]
    refine Ev.iteF (by omega) (Ev.val ?_)
    rw [List.drop_of_length_le (by omega)]
    rfl
  | succ d ih =>
    intro i s hi
    have hlt : i < l.length := by omega
    obtain ⟨w0, w1⟩ := hw.at hlt
    refine Ev.succ ?_
    simp only [touch_All.l0]
    refine Ev.iteT (by omega) (Ev.iteT (by omega) (Ev.iteT (by omega) ?_))
    rw [rd_get hlt]
    refine Ev.bind0 (reads1 w0 w1) (Ev.bind0 (writes1 w0 w1) ?_)
    rw [← rB_eq, ← wB_eq, U_andNot, U_or, U_or, wrap64_id (x := (i : Int) + 1) (by omega) (by omega), drop_get hlt, List.foldl_cons]
    exact ih (i + 1) (stepB s l[i]) (by omega)
theorem all1 (l : List Int) (hw : Words l) (hl : l.length ≤ 100000) : Ev (fun k => touch_All.f k l) (U2 (l.foldl stepB (0, 0))) := by
  unfold touch_All.f
  exact all1_loop l hw hl l.length 0 (0, 0) (by omega)
theorem all2_loop (l : List Int) (hw : Words l) (hl : l.length ≤ 100000) (d : Nat) : ∀ (i : Nat) (s : BitVec 16 × BitVec 16), i + d = l.length →
    Ev (fun k => pleatref13_All.l0 k l (U s.1) (U s.2) (i : Int)) (U2 ((l.drop i).foldl stepB s)) := by
  induction d with
  | zero =>
    intro i s hi
    refine Ev.succ ?_
    simp only [pleatref13_All.l0]
    refine Ev.iteF (by omega) (Ev.val ?_)
    rw [List.drop_of_length_le (by omega)]
    rfl
  | succ d ih =>
    intro i s hi
    have hlt : i < l.length := by omega
    obtain ⟨w0, w1⟩ := hw.at hlt
    refine Ev.succ ?_
    simp only [pleatref13_All.l0]
    refine Ev.iteT (by omega) (Ev.iteT (by omega) ?_)
    rw [rd_get hlt]
    refine Ev.bind (reads2 w0 w1) (Ev.bind (writes2 w0 w1) ?_)
    rw [← rB_eq, ← wB_eq, U_andNot, U_or, U_or, wrap64_id (x := (i : Int) + 1) (by omega) (by omega), drop_get hlt, List.foldl_cons]
    exact ih (i + 1) (stepB s l[i]) (by omega)
theorem all2 (l : List Int) (hw : Words l) (hl : l.length ≤ 100000) : Ev (fun k => pleatref13_All.f k l) (U2 (l.foldl stepB (0, 0))) := by
  unfold pleatref13_All.f
  exact all2_loop l hw hl l.length 0 (0, 0) (by omega)
theorem eqWords_loop (l : List Int) (hl : l.length ≤ 100000) (d : Nat) : ∀ i : Nat, i + d = l.length → Ev (fun k => pleatref00_EqWords.l0 k l l (i : Int)) true := by
  induction d with
  | zero =>
    intro i hi
    refine Ev.succ ?_
    simp only [pleatref00_EqWords.l0]
    exact Ev.iteF (by omega) (Ev.val rfl)
  | succ d ih =>
    intro i hi
    refine Ev.succ ?_
    simp only [pleatref00_EqWords.l0]
    refine Ev.iteT (by omega) (Ev.iteT (by omega) (Ev.iteT (by omega) (Ev.iteT (by trivial) ?_)))
    rw [wrap64_id (x := (i : Int) + 1) (by omega) (by omega)]
    exact ih (i + 1) (by omega)
theorem eqWords (l : List Int) (hl : l.length ≤ 100000) : Ev (fun k => pleatref00_EqWords.f k l l) true := by
  unfold pleatref00_EqWords.f
  exact Ev.iteT rfl (eqWords_loop l hl l.length 0 (by omega))
theorem copyWords (l : List Int) (hl : l.length ≤ 100000) : pleatref00_CopyWords.f l = some l := by
  unfold pleatref00_CopyWords.f
  rw [if_pos (by simp; omega)]
  rfl

theorem pureTouchAll : pleatlaw13_TouchAll.Pure := by
  intro a b ha hb
  obtain ⟨a0, a1, a2⟩ := ha
  obtain ⟨b0, b1, b2⟩ := hb
  refine Ev.rounds (g := fun k => pleatlaw13_TouchAll.f k a b) ?_
  unfold pleatlaw13_TouchAll.f
  rw [wrap64_id (x := (a.length : Int) + (b.length : Int)) (by omega) (by omega)]
  refine Ev.ite2 (fun h => Ev.bind touch_works (Ev.val rfl)) (fun h => ?_)
  have hl : a.length ≤ 100000 := by omega
  have hl2 : b.length ≤ 100000 := by omega
  refine Ev.bind0 (copyWords a hl) (Ev.bind (all1 a a2 hl) (Ev.bind (all2 a a2 hl) (Ev.iteT rfl (Ev.iteT rfl (Ev.bind (eqWords a hl) ?_)))))
  refine Ev.succ ?_
  simp only [pleatlaw13_TouchAll.j0]
  refine Ev.iteF (by decide) (Ev.bind (all1 b b2 hl2) (Ev.iteT (by omega) (Ev.bind (all1 (a ++ b) ?_ (by simp; omega)) ?_)))
  · intro x hx
    rcases List.mem_append.1 hx with hx | hx
    · exact a2 x hx
    · exact b2 x hx
  · have e := step_split b (a.foldl stepB (0, 0))
    refine Ev.iteT ?_ (Ev.iteT ?_ (Ev.bind touch_works (Ev.val rfl)))
    · rw [List.foldl_append, e]
      simp only [U2]
      rw [U_andNot, U_or]
    · rw [List.foldl_append, e]
      simp only [U2]
      rw [U_or]

end Go.Proofs.Ytiaohbbafaaibaa.P
