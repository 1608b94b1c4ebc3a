/- The statement GainParts: of every input its law's Go function answers true and leaves its arguments as they were; no further condition. This text: the law over numbers and lists, no memory. -/
import Derived.Test.YtiaohbbafaaibaaSayGainParts
import Derived.Test.YtiaohbbafaaibaaGainL
set_option linter.unusedVariables false
set_option linter.unusedSimpArgs false
namespace Go.Proofs.Ytiaohbbafaaibaa.P
open Go.RowKit Go.Proofs.YtiaohbbafaaibaaW.PrintWords

theorem gainOf_range (n : Int) (l : List S32) (hl : l.length ≤ 5000) : -1000000000 ≤ gainOf n l ∧ gainOf n l ≤ 1000000000 := by
  unfold gainOf
  split
  · omega
  · rename_i h
    have h1 := sum_bound (saves_bound (l := l) (n := n) (by omega) (by omega))
    have h2 := gsize_range (rd_T32 l 0).f1 n (by omega) (by omega)
    have h3 : (saves n l).length = l.length := by simp [saves]
    rw [h3] at h1
    omega
theorem gainOf_more (n : Int) (l : List S32) (s : S32) (h0 : l.length ≠ 0) (h1 : 1 ≤ n) (h2 : n ≤ 16384) : gainOf n (l ++ [s]) = gainOf n l + n - gcost s.f1 := by
  have e : rd_T32 (l ++ [s]) 0 = rd_T32 l 0 := by
    cases l with
    | nil => exact absurd rfl h0
    | cons a l => rfl
  unfold gainOf
  rw [if_neg (by simp; omega), if_neg (by omega), e]
  simp only [saves, List.map_append, List.map_cons, List.map_nil, List.sum_append, List.sum_cons, List.sum_nil]
  omega
theorem gainOf_one (n : Int) (l : List S32) (h0 : l.length ≠ 0) (h1 : 1 ≤ n) (h2 : n ≤ 16384) : gainOf n (l.take 1) = n - gcost (rd_T32 l 0).f1 - gsize (rd_T32 l 0).f1 n := by
  cases l with
  | nil => exact absurd rfl h0
  | cons a l =>
    unfold gainOf
    rw [if_neg (by simp; omega)]
    have e : rd_T32 (List.take 1 (a :: l)) 0 = a := rfl
    have e2 : rd_T32 (a :: l) 0 = a := rfl
    rw [e, e2]
    simp only [saves, List.take_succ_cons, List.take_zero, List.map_cons, List.map_nil, List.sum_cons, List.sum_nil]
    omega

theorem pureGainParts : pleatlaw21_GainParts.Pure := by
  intro n l s hn hl hs
  refine Ev.rounds (g := fun k => pleatlaw21_GainParts.f k n l s.f0 s.f1 s.f2) ?_
  have e : ∀ b, (b = false → l.length ≤ 4096 ∧ l.length ≠ 0 ∧ 1 ≤ n ∧ n ≤ 16384) → Ev (fun k => pleatlaw21_GainParts.j0 k n l b s.f0 s.f1 s.f2) true := fun b hb => by
    refine Ev.succ ?_
    simp only [pleatlaw21_GainParts.j0]
    cases b with
    | true => exact Ev.iteT rfl (Ev.bind gain_works (Ev.val rfl))
    | false =>
      obtain ⟨g1, g2, g3, g4⟩ := hb rfl
      have hl5 : l.length ≤ 5000 := by omega
      have hr := gainOf_range n l hl5
      have hc := gcost_range s.f1
      have hc0 := gcost_range (rd_T32 l 0).f1
      have hz0 := gsize_range (rd_T32 l 0).f1 n g3 g4
      refine Ev.iteF (by decide) (Ev.bind0 (copySpots l hl5) (Ev.iteT (by omega) ?_))
      refine Ev.bind (of_all n (l ++ [s]) (by simp; omega)) (Ev.bind (of_all n l hl5) (Ev.bind0 (cost1 s.f1) (Ev.iteT ?_ ?_)))
      · rw [wrap64_id (x := gainOf n l + n) (by omega) (by omega), wrap64_id (x := gainOf n l + n - gcost s.f1) (by omega) (by omega), gainOf_more n l s g2 g3 g4]
      refine Ev.iteT (by omega) (Ev.bind (of_all n (l.take 1) (by simp; omega)) (Ev.iteT (by omega) (Ev.bind0 (cost1 _) (Ev.bind (size1 _ n) (Ev.iteT ?_ (Ev.bind gain_works (Ev.val rfl)))))))
      rw [wrap64_id (x := n - gcost (rd_T32 l 0).f1) (by omega) (by omega), wrap64_id (x := n - gcost (rd_T32 l 0).f1 - gsize (rd_T32 l 0).f1 n) (by omega) (by omega), gainOf_one n l g2 g3 g4]
  unfold pleatlaw21_GainParts.f
  refine Ev.ite2 (fun h => e _ (fun h => by cases h)) (fun h1 => Ev.ite2 (fun h => e _ (fun h => by cases h)) (fun h2 => Ev.ite2 (fun h => e _ (fun h => by cases h)) (fun h3 => e _ (fun h => ?_))))
  have := of_decide_eq_false h
  omega

end Go.Proofs.Ytiaohbbafaaibaa.P
