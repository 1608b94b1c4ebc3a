/- OWN TEXT: what the two gains, costs and sizes come to, over numbers and lists. -/
import Derived.Test.YtiaohbbafaaibaaP8
import Derived.Test.YtiaohbbafaaibaaOpns
import Derived.Test.YtiaohbbafaaibaaEv
set_option linter.unusedVariables false
set_option linter.unusedSimpArgs false
namespace Go.Proofs.Ytiaohbbafaaibaa.P
open Go.RowKit Go.Proofs.YtiaohbbafaaibaaW.PrintWords

def gcost (c : Int) : Int := if c < 0 then 0 else if c > 4 then 0 else if c = 0 then 0 else if c = 4 then 3 else 1
def gsize (c n : Int) : Int := if n < 1 then 0 else if c = 1 then n else if c = 2 then n else if c = 3 then wrap64 (n + 1) else if c = 4 then wrap64 (n + 1) else 0
theorem gcost_range (c : Int) : 0 ≤ gcost c ∧ gcost c ≤ 3 := by unfold gcost; repeat' split
                                                                all_goals omega
theorem cost1 (c : Int) : gain_Cost.f c = some (gcost c) := by
  unfold gain_Cost.f gcost
  repeat' split
  all_goals rfl
theorem cost2 (c : Int) : Ev (fun k => pleatref19_Cost.f k c) (gcost c) := by
  have e : ∀ b, Ev (fun k => pleatref19_Cost.j0 k c b) (if b = true then 1 else if c = 4 then 3 else 0) := fun b => by
    refine Ev.succ ?_
    simp only [pleatref19_Cost.j0]
    exact Ev.ite2 (fun h => Ev.val (by rw [if_pos h])) (fun h => Ev.ite2 (fun h2 => Ev.val (by rw [if_neg h, if_pos h2])) (fun h2 => Ev.val (by rw [if_neg h, if_neg h2])))
  unfold pleatref19_Cost.f gcost
  refine Ev.ite2 (fun h => (e _).to ?_) (fun h => Ev.ite2 (fun h2 => (e _).to ?_) (fun h2 => (e _).to ?_))
  · subst h; decide
  · subst h2; decide
  · by_cases h3 : c = 3
    · subst h3; decide
    · rw [if_neg (by simpa using h3)]
      by_cases h4 : c = 4
      · subst h4; decide
      · rw [if_neg h4]; split
        · rfl
        · split
          · rfl
          · rw [if_pos (by omega)]
theorem size1 (c n : Int) : Ev (fun k => gain_Size.f k c n) (gsize c n) := by
  have e : ∀ b, Ev (fun k => gain_Size.j0 k c n b) (if b = true then n else if c = 3 then wrap64 (n + 1) else if c = 4 then wrap64 (n + 1) else 0) := fun b => by
    refine Ev.succ ?_
    simp only [gain_Size.j0]
    refine Ev.ite2 (fun h => Ev.val ?_) (fun h => Ev.ite2 (fun h2 => Ev.val ?_) (fun h2 => Ev.ite2 (fun h3 => Ev.val ?_) (fun h3 => Ev.val ?_))) <;> simp [*]
  unfold gain_Size.f gsize
  refine Ev.ite2 (fun h => Ev.val (by rw [if_pos h])) (fun h0 => Ev.ite2 (fun h => (e _).to ?_) (fun h => (e _).to ?_))
  · simp [h, h0]
  · by_cases h2 : c = 2 <;> simp [h, h0, h2]
theorem size2 (c n : Int) : Ev (fun k => pleatref19_Size.f k c n) (gsize c n) := by
  have e : ∀ b, Ev (fun k => pleatref19_Size.j0 k n c b) (if b = true then n else if c = 3 then wrap64 (n + 1) else if c = 4 then wrap64 (n + 1) else 0) := fun b => by
    refine Ev.succ ?_
    simp only [pleatref19_Size.j0]
    refine Ev.ite2 (fun h => Ev.val ?_) (fun h => Ev.ite2 (fun h2 => Ev.val ?_) (fun h2 => Ev.ite2 (fun h3 => Ev.val ?_) (fun h3 => Ev.val ?_))) <;> simp [*]
  unfold pleatref19_Size.f gsize
  refine Ev.ite2 (fun h => Ev.val (by rw [if_pos h])) (fun h0 => Ev.ite2 (fun h => (e _).to ?_) (fun h => (e _).to ?_))
  · simp [h, h0]
  · by_cases h2 : c = 2 <;> simp [h, h0, h2]
theorem gsize_range (c n : Int) (h1 : 1 ≤ n) (h2 : n ≤ 16384) : 0 ≤ gsize c n ∧ gsize c n ≤ 16385 := by
  have : wrap64 (n + 1) = n + 1 := wrap64_id (by omega) (by omega)
  unfold gsize; rw [this]; repeat' split
  all_goals omega

theorem sum_bound {B : Int} {l : List Int} (h : ∀ x ∈ l, -B ≤ x ∧ x ≤ B) : -(B * l.length) ≤ l.sum ∧ l.sum ≤ B * l.length := by
  induction l with
  | nil => simp
  | cons x l ih =>
    have h1 := h x List.mem_cons_self
    have h2 := ih (fun y hy => h y (List.mem_cons_of_mem _ hy))
    have e : B * ((x :: l).length : Int) = B * (l.length : Int) + B := by rw [List.length_cons]; push_cast; rw [Int.mul_add, Int.mul_one]
    rw [List.sum_cons, e]
    omega

theorem sum_loop (l : List Int) (hl : l.length ≤ 8192) (hb : ∀ x ∈ l, -65536 ≤ x ∧ x ≤ 65536) (d : Nat) : ∀ (i : Nat) (acc : Int), i + d = l.length → -(65536 * (i : Int)) ≤ acc → acc ≤ 65536 * (i : Int) →
    Ev (fun k => gain_sum.l0 k acc l (l.length : Int) (i : Int)) (acc + (l.drop i).sum) := by
  induction d with
  | zero =>
    intro i acc hi h1 h2
    refine Ev.succ ?_
    simp only [gain_sum.l0]
    refine Ev.iteF (by omega) (Ev.val ?_)
    rw [List.drop_of_length_le (by omega)]
    simp
  | succ d ih =>
    intro i acc hi h1 h2
    have hlt : i < l.length := by omega
    have hx := hb l[i] (List.getElem_mem hlt)
    refine Ev.succ ?_
    simp only [gain_sum.l0]
    refine Ev.iteT (by omega) (Ev.iteT (by omega) (Ev.iteT (by omega) ?_))
    rw [rd_get hlt, wrap64_id (x := acc + l[i]) (by omega) (by omega), wrap64_id (x := (i : Int) + 1) (by omega) (by omega)]
    refine (ih (i + 1) (acc + l[i]) (by omega) (by push_cast; omega) (by push_cast; omega)).to ?_
    rw [drop_get hlt, List.sum_cons]
    omega
theorem sum_all (l : List Int) (hl : l.length ≤ 8192) (hb : ∀ x ∈ l, -65536 ≤ x ∧ x ≤ 65536) : Ev (fun k => gain_sum.f k l) l.sum := by
  unfold gain_sum.f
  exact (sum_loop l hl hb l.length 0 0 (by omega) (by omega) (by omega)).to (by simp)

/-- What a spot saves. -/
def saves (n : Int) (l : List S32) : List Int := l.map fun s => n - gcost s.f1
def gainOf (n : Int) (l : List S32) : Int := if l.length = 0 ∨ n < 1 ∨ 16384 < n then 0 else -gsize (rd_T32 l 0).f1 n + (saves n l).sum
theorem saves_bound {n : Int} {l : List S32} (h1 : 1 ≤ n) (h2 : n ≤ 16384) : ∀ x ∈ saves n l, -65536 ≤ x ∧ x ≤ 65536 := by
  intro x hx
  obtain ⟨s, _, rfl⟩ := List.mem_map.1 hx
  have := gcost_range s.f1
  omega
theorem rdS_get {l : List S32} {i : Nat} (h : i < l.length) : rd_T32 l (i : Int) = l[i] := by
  unfold rd_T32
  rw [Int.toNat_natCast, List.getD_eq_getElem?_getD, List.getElem?_eq_getElem h]
  rfl

theorem of_loop (n : Int) (l : List S32) (h1 : 1 ≤ n) (h2 : n ≤ 16384) (hl : l.length ≤ 5000) (d : Nat) : ∀ (i : Nat) (acc : List Int), i + d = l.length → acc.length = i + 1 → (∀ x ∈ acc, -65536 ≤ x ∧ x ≤ 65536) →
    Ev (fun k => gain_Of.l0 k n acc l (l.length : Int) (i : Int)) ((acc ++ saves n (l.drop i)).sum) := by
  induction d with
  | zero =>
    intro i acc hi ha hb
    refine Ev.succ ?_
    simp only [gain_Of.l0]
    refine Ev.iteF (by omega) ?_
    refine Ev.bind (sum_all acc (by omega) hb) (Ev.val ?_)
    rw [List.drop_of_length_le (by omega)]
    simp [saves]
  | succ d ih =>
    intro i acc hi ha hb
    have hlt : i < l.length := by omega
    have hc := gcost_range l[i].f1
    refine Ev.succ ?_
    simp only [gain_Of.l0]
    refine Ev.iteT (by omega) (Ev.iteT (by omega) (Ev.iteT (by omega) ?_))
    rw [rdS_get hlt]
    refine Ev.bind0 (cost1 _) (Ev.iteT (by omega) ?_)
    rw [wrap64_id (x := n - gcost l[i].f1) (by omega) (by omega), wrap64_id (x := (i : Int) + 1) (by omega) (by omega)]
    refine (ih (i + 1) (acc ++ [n - gcost l[i].f1]) (by omega) (by simp; omega) ?_).to ?_
    · intro x hx
      rcases List.mem_append.1 hx with hx | hx
      · exact hb x hx
      · obtain rfl := List.mem_singleton.1 hx
        omega
    · rw [drop_get hlt]
      simp only [saves, List.map_cons, List.sum_append, List.sum_cons, List.sum_nil]
      omega
theorem of_all (n : Int) (l : List S32) (hl : l.length ≤ 5000) : Ev (fun k => gain_Of.f k n l) (gainOf n l) := by
  have e : ∀ b, (b = true → l.length = 0 ∨ n < 1 ∨ 16384 < n) → (b = false → l.length ≠ 0 ∧ 1 ≤ n ∧ n ≤ 16384) → Ev (fun k => gain_Of.j0 k n l b) (gainOf n l) := fun b ht hf => by
    refine Ev.succ ?_
    simp only [gain_Of.j0]
    cases b with
    | true => exact Ev.iteT rfl (Ev.val (by unfold gainOf; rw [if_pos (ht rfl)]))
    | false =>
      obtain ⟨g0, g1, g2⟩ := hf rfl
      refine Ev.iteF (by decide) (Ev.iteT (by omega) ?_)
      refine Ev.bind (size1 _ _) ?_
      have hs := gsize_range (rd_T32 l 0).f1 n g1 g2
      rw [wrap64_id (x := -gsize (rd_T32 l 0).f1 n) (by omega) (by omega)]
      refine (of_loop n l g1 g2 hl l.length 0 _ (by omega) (by simp) ?_).to ?_
      · intro x hx
        obtain rfl := List.mem_singleton.1 hx
        omega
      · unfold gainOf
        rw [if_neg (by omega)]
        simp
  unfold gain_Of.f
  refine Ev.ite2 (fun h => e _ (fun _ => by omega) (fun h => by cases h)) (fun h0 => Ev.ite2 (fun h => e _ (fun _ => by omega) (fun h => by cases h)) (fun h1 => e _ (fun h => ?_) (fun h => ?_)))
  · have := of_decide_eq_true h; omega
  · have := of_decide_eq_false h; omega

theorem ref_loop (n : Int) (l : List S32) (h1 : 1 ≤ n) (h2 : n ≤ 16384) (hl : l.length ≤ 5000) (d : Nat) : ∀ (i : Nat) (acc : Int), i + d = l.length → -(65536 * ((i : Int) + 1)) ≤ acc → acc ≤ 65536 * ((i : Int) + 1) →
    Ev (fun k => pleatref19_Gain.l0 k n l acc (i : Int)) (acc + (saves n (l.drop i)).sum) := by
  induction d with
  | zero =>
    intro i acc hi ha hb
    refine Ev.succ ?_
    simp only [pleatref19_Gain.l0]
    refine Ev.iteF (by omega) (Ev.val ?_)
    rw [List.drop_of_length_le (by omega)]
    simp [saves]
  | succ d ih =>
    intro i acc hi ha hb
    have hlt : i < l.length := by omega
    have hc := gcost_range l[i].f1
    refine Ev.succ ?_
    simp only [pleatref19_Gain.l0]
    refine Ev.iteT (by omega) (Ev.iteT (by omega) ?_)
    rw [rdS_get hlt]
    refine Ev.bind (cost2 _) ?_
    rw [wrap64_id (x := acc + n) (by omega) (by omega), wrap64_id (x := acc + n - gcost l[i].f1) (by omega) (by omega), wrap64_id (x := (i : Int) + 1) (by omega) (by omega)]
    refine (ih (i + 1) (acc + n - gcost l[i].f1) (by omega) (by push_cast; omega) (by push_cast; omega)).to ?_
    rw [drop_get hlt]
    simp only [saves, List.map_cons, List.sum_cons]
    omega
theorem ref_all (n : Int) (l : List S32) (hl : l.length ≤ 5000) : Ev (fun k => pleatref19_Gain.f k n l) (gainOf n l) := by
  have e : ∀ b, (b = true → l.length = 0 ∨ n < 1 ∨ 16384 < n) → (b = false → l.length ≠ 0 ∧ 1 ≤ n ∧ n ≤ 16384) → Ev (fun k => pleatref19_Gain.j0 k n l b) (gainOf n l) := fun b ht hf => by
    refine Ev.succ ?_
    simp only [pleatref19_Gain.j0]
    cases b with
    | true => exact Ev.iteT rfl (Ev.val (by unfold gainOf; rw [if_pos (ht rfl)]))
    | false =>
      obtain ⟨g0, g1, g2⟩ := hf rfl
      refine Ev.iteF (by decide) (Ev.iteT (by omega) ?_)
      refine Ev.bind (size2 _ _) ?_
      have hs := gsize_range (rd_T32 l 0).f1 n g1 g2
      rw [wrap64_id (x := -gsize (rd_T32 l 0).f1 n) (by omega) (by omega)]
      refine (ref_loop n l g1 g2 hl l.length 0 _ (by omega) (by omega) (by omega)).to ?_
      unfold gainOf
      rw [if_neg (by omega)]
      simp
  unfold pleatref19_Gain.f
  refine Ev.ite2 (fun h => e _ (fun _ => by omega) (fun h => by cases h)) (fun h0 => Ev.ite2 (fun h => e _ (fun _ => by omega) (fun h => by cases h)) (fun h1 => e _ (fun h => ?_) (fun h => ?_)))
  · have := of_decide_eq_true h; omega
  · have := of_decide_eq_false h; omega

theorem gain_works : Ev (fun k => pleatlaw21_works.f k) true := by
  unfold pleatlaw21_works.f
  refine Ev.bind (of_all _ _ (by decide)) (Ev.iteT (by decide +kernel) ?_)
  refine Ev.bind (of_all _ _ (by decide)) (Ev.iteT (by decide +kernel) ?_)
  refine Ev.bind0 (cost1 4) (Ev.iteT (by decide +kernel) ?_)
  exact Ev.bind (size1 _ _) (Ev.val (by decide +kernel))

theorem copySpots (l : List S32) (hl : l.length ≤ 5000) : pleatref00_CopySpots.f l = some l := by
  unfold pleatref00_CopySpots.f
  rw [if_pos (by simp; omega)]
  rfl
theorem eqSpots_loop (l : List S32) (hl : l.length ≤ 5000) (d : Nat) : ∀ i : Nat, i + d = l.length → Ev (fun k => pleatref00_EqSpots.l0 k l l (i : Int)) true := by
  induction d with
  | zero =>
    intro i hi
    refine Ev.succ ?_
    simp only [pleatref00_EqSpots.l0]
    exact Ev.iteF (by omega) (Ev.val rfl)
  | succ d ih =>
    intro i hi
    refine Ev.succ ?_
    simp only [pleatref00_EqSpots.l0]
    refine Ev.iteT (by omega) (Ev.iteT (by omega) (Ev.iteT (by omega) (Ev.iteF (by simp) ?_)))
    rw [wrap64_id (x := (i : Int) + 1) (by omega) (by omega)]
    exact ih (i + 1) (by omega)
theorem eqSpots (l : List S32) (hl : l.length ≤ 5000) : Ev (fun k => pleatref00_EqSpots.f k l l) true := by
  unfold pleatref00_EqSpots.f
  exact Ev.iteT rfl (eqSpots_loop l hl l.length 0 (by omega))

end Go.Proofs.Ytiaohbbafaaibaa.P
