/- OWN TEXT and printed parts of this claim, laid together: SayBlockCovers, PureBlockCovers. -/
import Derived.Test.YtiaohbbafaaibaaZpM14
import Derived.Test.YtiaohbbafaaibaaZpM13
import Derived.Test.YtiaohbbafaaibaaZpM8
import Derived.Test.YtiaohbbafaaibaaZpM9
/- OWN TEXT, written by rows.py: the pure statement of the law BlockCovers. -/
namespace Go.Proofs.Ytiaohbbafaaibaa.P
open Go.RowKit Go.Proofs.YtiaohbbafaaibaaW.PrintWords Go.Proofs.YtiaohbbafaaibaaW.PrintLast Go.Proofs.YtiaohbbafaaibaaW.PrintMore Go.Proofs.Ytiaohbbafaaibaa.Opn
set_option linter.unusedVariables false
set_option linter.unusedSimpArgs false
def pleatlaw11_BlockCovers.Pure : Prop := ∀ (x0 : S69), (wf69 x0) → ∃ k, pleatlaw11_BlockCovers.f k x0.f0 x0.f1 x0.f2 = some true
end Go.Proofs.Ytiaohbbafaaibaa.P

/- The statement BlockCovers: of every input its law's Go function answers true and leaves its arguments as they were; no further condition. This text: the law over numbers and lists, no memory. -/
namespace Go.Proofs.Ytiaohbbafaaibaa.P
open Go.RowKit Go.Proofs.YtiaohbbafaaibaaW.PrintWords Go.Proofs.YtiaohbbafaaibaaW.PrintLast Go.Proofs.YtiaohbbafaaibaaW.PrintMore Go.Proofs.Ytiaohbbafaaibaa.Opn
set_option linter.unusedVariables false
set_option linter.unusedSimpArgs false

theorem words_ofC {t : List Int} (h : ∀ y ∈ t, (Lit.int .u32 y).wf = true) : Words t := fun x hx => by
  have := wf_u32 (h x hx)
  omega
theorem placesS_mem (S : Lit → Bool) (p : Int) : ∀ n, p ∈ placesS S n ↔ ∃ q : Nat, q < n ∧ p = (q : Int) ∧ S (.int .i64 (q : Int)) = true
  | 0 => by simp [placesS]
  | n + 1 => by
    rw [placesS_succ]
    have IH := placesS_mem S p n
    by_cases h : S (.int .i64 (n : Int)) = true
    · rw [if_pos h, List.mem_append, IH, List.mem_singleton]
      constructor
      · rintro (⟨q, hq, e, hs⟩ | e)
        · exact ⟨q, by omega, e, hs⟩
        · exact ⟨n, by omega, e, h⟩
      · rintro ⟨q, hq, e, hs⟩
        by_cases e2 : q = n
        · subst e2; exact .inr e
        · exact .inl ⟨q, by omega, e, hs⟩
    · rw [if_neg h, IH]
      constructor
      · rintro ⟨q, hq, e, hs⟩
        exact ⟨q, by omega, e, hs⟩
      · rintro ⟨q, hq, e, hs⟩
        by_cases e2 : q = n
        · subst e2; exact absurd hs h
        · exact ⟨q, by omega, e, hs⟩
theorem placesS_sorted (S : Lit → Bool) : ∀ n, (placesS S n).Pairwise (· < ·)
  | 0 => List.Pairwise.nil
  | n + 1 => by
    rw [placesS_succ]
    by_cases h : S (.int .i64 (n : Int)) = true
    · rw [if_pos h]
      refine List.pairwise_append.2 ⟨placesS_sorted S n, List.pairwise_singleton _ _, fun a ha b hb => ?_⟩
      obtain ⟨q, hq, e, _⟩ := (placesS_mem S a n).1 ha
      rw [List.mem_singleton.1 hb, e]
      omega
    · rw [if_neg h]; exact placesS_sorted S n
theorem ofS_at (p : Int) : ∀ (l : List Blk) (i k : Nat) (b : Blk), l[k]? = some b → b.f0 ≤ p → p < b.f1 → (∀ j c, j < k → l[j]? = some c → c.f1 ≤ p) → ofS p l i = ((i + k : Nat) : Int)
  | [], i, k, b, h, _, _, _ => by simp at h
  | a :: r, i, 0, b, h, h0, h1, _ => by
    have e : a = b := by simpa using h
    subst e
    unfold ofS
    rw [if_pos h0, if_pos h1]
    rfl
  | a :: r, i, k + 1, b, h, h0, h1, hj => by
    have ha := hj 0 a (by omega) (by simp)
    have IH := ofS_at p r (i + 1) k b (by simpa using h) h0 h1 (fun j c hjk hc => hj (j + 1) c (by omega) (by simpa using hc))
    unfold ofS
    rw [show i + (k + 1) = i + 1 + k by omega, ← IH]
    by_cases h2 : a.f0 ≤ p
    · rw [if_pos h2, if_neg (by omega)]
    · rw [if_neg h2]
/-- Where block k begins; behind the last: the end. -/
def endP (P : List Int) (n : Int) (k : Nat) : Int := P.getD k n
theorem endP_lt {P : List Int} {n : Int} {k : Nat} (h : k < P.length) : endP P n k = P[k] := by simp [endP, List.getD_eq_getElem?_getD, List.getElem?_eq_getElem h]
theorem endP_len (P : List Int) (n : Int) : endP P n P.length = n := by simp [endP, List.getD_eq_getElem?_getD]
theorem endP_step {P : List Int} {n : Int} (hs : P.Pairwise (· < ·)) (hb : ∀ x ∈ P, x < n) {k : Nat} (h : k < P.length) : endP P n k < endP P n (k + 1) := by
  rw [endP_lt h]
  by_cases h2 : k + 1 < P.length
  · rw [endP_lt h2]
    exact List.pairwise_iff_getElem.1 hs k (k + 1) h h2 (by omega)
  · rw [show k + 1 = P.length by omega, endP_len]
    exact hb _ (List.getElem_mem h)
theorem endP_mono {P : List Int} {n : Int} (hs : P.Pairwise (· < ·)) (hb : ∀ x ∈ P, x < n) {j : Nat} : ∀ d, j + d ≤ P.length → endP P n j ≤ endP P n (j + d)
  | 0, _ => Int.le_refl _
  | d + 1, h => by
    have := endP_mono hs hb (j := j) d (by omega)
    have := endP_step hs hb (k := j + d) (by omega)
    rw [← Nat.add_assoc]
    omega
theorem pairs_at {P : List Int} {n : Int} {k : Nat} (h : k < P.length) : (pairsL n P)[k]? = some ⟨endP P n k, endP P n (k + 1)⟩ := by
  rw [pairsL_get n P k h, endP_lt h]
  by_cases h2 : k + 1 < P.length
  · rw [dif_pos h2, endP_lt h2]
  · rw [dif_neg h2, show k + 1 = P.length by omega, endP_len]
theorem of_at {P : List Int} {n : Int} (hs : P.Pairwise (· < ·)) (hb : ∀ x ∈ P, x < n) {k : Nat} (h : k < P.length) : ofS (endP P n k) (pairsL n P) 0 = (k : Int) := by
  have := ofS_at (endP P n k) (pairsL n P) 0 k _ (pairs_at h) (Int.le_refl _) (endP_step hs hb h) (fun j c hj hc => by
    rw [pairs_at (by omega)] at hc
    have e := Option.some.inj hc
    rw [← e]
    have := endP_mono hs hb (j := j + 1) (k - (j + 1)) (by omega)
    rw [show j + 1 + (k - (j + 1)) = k by omega] at this
    exact this)
  rw [this]
  congr 1
  omega
theorem rdB_at {P : List Int} {n : Int} {k : Nat} (h : k < P.length) : rd_T84 (pairsL n P) (k : Int) = ⟨endP P n k, endP P n (k + 1)⟩ := by
  have hl : k < (pairsL n P).length := by rw [pairsL_len]; exact h
  have h1 := pairs_at (n := n) h
  rw [List.getElem?_eq_getElem hl] at h1
  rw [rdB_get hl]
  exact Option.some.inj h1
theorem covers_l1 {P : List Int} {n : Int} (hs : P.Pairwise (· < ·)) (hb : ∀ x ∈ P, x < n) (hl : P.length ≤ 20000) (Z : List Int) (hz : Z.length ≤ 100000) (hZ : ∀ z ∈ Z, z ∈ P) : Ev (fun k => pleatlaw11_BlockCovers.l1 k (pairsL n P) Z 0) true := by
  have hpl := pairsL_len n P
  refine Ev.count (g := fun k i => pleatlaw11_BlockCovers.l1 k (pairsL n P) Z i) (n := Z.length) (fun i hi IH => ?_) ?_ 0 (by omega)
  · obtain ⟨k, hk, hkz⟩ := List.getElem_of_mem (hZ _ (List.getElem_mem hi))
    have hr : rd Z (i : Int) = endP P n k := by rw [rd_get hi, endP_lt hk, hkz]
    have ho : Ev (fun q => block_Of.f q (pairsL n P) (rd Z (i : Int))) (k : Int) := by rw [hr]; exact (of1 _ (by omega) _).to (of_at hs hb hk)
    refine Ev.succ (Ev.iteT (by omega) (Ev.iteT (by omega) (Ev.bind ho (Ev.iteF (by omega) (Ev.iteT (by omega) (Ev.iteT (by omega) (Ev.iteT ?_ ?_)))))))
    · rw [rdB_at hk, hr]
    · rw [wrap_succ hi (by omega)]
      exact IH
  · exact Ev.succ (Ev.iteF (by omega) (Ev.bind0 works11 (Ev.val rfl)))
theorem covers_l0 {P : List Int} {t : List Int} {en : Int} {m : List Int} {L S : List Int} (hs : P.Pairwise (· < ·)) (hb : ∀ x ∈ P, x < (t.length : Int)) (hl : P.length ≤ 20000) (h0 : endP P (t.length : Int) 0 = 0)
    (hL : block_Labels.f t en m = some (L, 0)) (hS : block_Sites.f t en m = some (S, 0)) (hLl : L.length ≤ 20000) (hSl : S.length ≤ 20000) (hLm : ∀ z ∈ L, z ∈ P) (hSm : ∀ z ∈ S, z ∈ P) :
    Ev (fun k => pleatlaw11_BlockCovers.l0 k (pairsL (t.length : Int) P) 0 0 t en m) true := by
  have hpl := pairsL_len (t.length : Int) P
  have : ∀ d i : Nat, i + d = P.length → Ev (fun k => pleatlaw11_BlockCovers.l0 k (pairsL (t.length : Int) P) (endP P (t.length : Int) i) (i : Int) t en m) true := by
    intro d
    induction d with
    | zero =>
      intro i hi
      have hi : i = P.length := by omega
      subst hi
      rw [endP_len]
      refine Ev.succ (Ev.iteF (by omega) (Ev.bind0 hL (Ev.bind0 hS (Ev.iteT rfl (Ev.iteT rfl ?_)))))
      refine Ev.succ ?_
      simp only [pleatlaw11_BlockCovers.j1]
      refine Ev.iteF (by decide) (Ev.iteT (by omega) (covers_l1 hs hb hl (L ++ S) (by rw [List.length_append]; omega) (fun z hz => ?_)))
      rcases List.mem_append.1 hz with hz | hz
      · exact hLm z hz
      · exact hSm z hz
    | succ d ih =>
      intro i hi
      have hlt : i < P.length := by omega
      have hst := endP_step hs hb hlt
      have IH := ih (i + 1) (by omega)
      have ho : Ev (fun q => block_Of.f q (pairsL (t.length : Int) P) (endP P (t.length : Int) i)) (i : Int) := (of1 _ (by omega) _).to (of_at hs hb hlt)
      refine Ev.succ (Ev.iteT (by omega) (Ev.iteT (by omega) ?_))
      simp only [rdB_at (n := (t.length : Int)) hlt]
      refine Ev.iteT trivial (Ev.iteF (by omega) (Ev.bind ho (Ev.iteT rfl ?_)))
      rw [wrap_succ hlt (by omega)]
      exact IH
  have := this P.length 0 (by omega)
  rw [h0] at this
  exact this
theorem pureBlockCovers : pleatlaw11_BlockCovers.Pure := by
  intro x hx
  obtain ⟨t, en, m⟩ := x
  obtain ⟨⟨_, _, hw0⟩, _, _⟩ := hx
  have hw : Words t := words_ofC hw0
  refine Ev.rounds (g := fun k => pleatlaw11_BlockCovers.f k t en m) ?_
  unfold pleatlaw11_BlockCovers.f
  by_cases hm : (t.length : Int) > 600
  · have : pleatlaw11_much.f t en m = some true := by unfold pleatlaw11_much.f; rw [if_pos hm]
    exact Ev.bind0 this (Ev.iteT rfl (Ev.bind0 works11 (Ev.val rfl)))
  have hmu : pleatlaw11_much.f t en m = some (decide ((m.length : Int) > 16384)) := by unfold pleatlaw11_much.f; rw [if_neg hm]
  refine Ev.bind0 hmu (Ev.ite2 (fun h => Ev.bind0 works11 (Ev.val rfl)) (fun h => ?_))
  have hwb : wordsB t = true := wordsB_iff.2 hw
  have g3 : block_Blocks.f t en m = some (blocksS t en m) := by unfold block_Blocks.f; rw [if_pos hwb]
  refine Ev.bind0 g3 ?_
  by_cases hc : (chkS t en m).1 = 0
  · have F := chk_fit hw hc
    have g0 : block_Labels.f t en m = some (placesS (seenS hit0 t en t.length) t.length, 0) := by unfold block_Labels.f gatherS; rw [if_pos hwb, if_pos hc]
    have g2 : block_Sites.f t en m = some (placesS (seenS hit2 t en t.length) t.length, 0) := by unfold block_Sites.f gatherS; rw [if_pos hwb, if_pos hc]
    have e3 : blocksS t en m = (pairsL (t.length : Int) (placesS (seenS hit3 t en t.length) t.length), 0) := by
      unfold blocksS
      rw [pairU_eq]
      unfold gatherS
      rw [if_pos hc]
    have l0 := placesS_len (seenS hit0 t en t.length) t.length
    have l2 := placesS_len (seenS hit2 t en t.length) t.length
    have l3 := placesS_len (seenS hit3 t en t.length) t.length
    have hs := placesS_sorted (seenS hit3 t en t.length) t.length
    have hmem := placesS_mem (seenS hit3 t en t.length)
    have hz : (0 : Int) ∈ placesS (seenS hit3 t en t.length) t.length := (hmem 0 t.length).2 ⟨0, F.n0, rfl, (hit3_iff F _).2 (.inr (.inl rfl))⟩
    have hnn : ∀ x ∈ placesS (seenS hit3 t en t.length) t.length, 0 ≤ x ∧ x < (t.length : Int) := fun x hx => by
      obtain ⟨q, hq, e, _⟩ := (hmem x t.length).1 hx
      omega
    rw [e3]
    refine Ev.iteT rfl (covers_l0 hs (fun x hx => (hnn x hx).2) (by omega) ?_ g0 g2 (by omega) (by omega) (fun z hz => ?_) (fun z hz => ?_))
    · obtain ⟨k, hk, hkz⟩ := List.getElem_of_mem hz
      have hlen : 0 < (placesS (seenS hit3 t en t.length) t.length).length := by omega
      rw [endP_lt hlen]
      have hge := (hnn _ (List.getElem_mem hlen)).1
      by_cases e : k = 0
      · subst e; exact hkz
      · have := List.pairwise_iff_getElem.1 hs 0 k hlen hk (by omega)
        omega
    · obtain ⟨q, hq, e, hsq⟩ := (placesS_mem _ z _).1 hz
      exact (hmem z _).2 ⟨q, hq, e, (hit3_iff F _).2 (.inl ((hit0_iff F _).1 hsq))⟩
    · obtain ⟨q, hq, e, hsq⟩ := (placesS_mem _ z _).1 hz
      refine (hmem z _).2 ⟨q, hq, e, (hit3_iff F _).2 (.inr (.inr ?_))⟩
      rcases (hit2_iff F _).1 hsq with ⟨j, hj, hm2⟩ | ⟨h0, _⟩
      · rw [hitR2] at hm2
        by_cases ho : (decS (rd t (j : Int))).1 = 17 ∨ (decS (rd t (j : Int))).1 = 18
        · rw [if_pos ho] at hm2
          refine ⟨j, hj, ?_, List.mem_singleton.1 hm2⟩
          rcases ho with ho | ho
          · rw [ho]; rfl
          · rw [ho]; rfl
        · rw [if_neg ho] at hm2; cases hm2
      · exact absurd h0 (by decide)
  · have e3 : blocksS t en m = ([], (chkS t en m).1) := by
      unfold blocksS gatherS
      rw [if_neg hc]
      rfl
    rw [e3]
    exact Ev.iteF hc (Ev.iteT rfl (Ev.bind0 works11 (Ev.val rfl)))

end Go.Proofs.Ytiaohbbafaaibaa.P
