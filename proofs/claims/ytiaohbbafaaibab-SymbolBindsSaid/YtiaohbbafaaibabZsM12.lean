/- OWN TEXT and printed parts of this claim, laid together: SymH, PureSymbolBinds. -/
import Derived.Test.YtiaohbbafaaibabZsM11
import Derived.Test.YtiaohbbafaaibabZsM9
import Derived.Test.YtiaohbbafaaibabZsM10
import Derived.Test.YtiaohbbafaaibabZsM8
/- OWN TEXT: what more than a statement looks at is, and copies, over plain lists of objects. -/
set_option linter.unusedVariables false
set_option linter.unusedSimpArgs false
namespace Go.Proofs.Ytiaohbbafaaibab.P
open Go.RowKit Go.Maps Go.Proofs.YtiaohbbafaaibabW.PrintWords Go.Proofs.YtiaohbbafaaibabW.PrintLast Go.Proofs.YtiaohbbafaaibabW.PrintMore Go.Proofs.Ytiaohbbafaaibab.Arr Go.Proofs.Ytiaohbbafaaibab.MapB Go.Proofs.Ytiaohbbafaaibab.SymM

structure Bits (l : List ObjT) : Prop where
  nm : ∀ p, p < l.length → (ob l p).f0.size ≤ 140737488351232
  code : ∀ p, p < l.length → (ob l p).f1.length ≤ 140737488351232
  data : ∀ p, p < l.length → (ob l p).f3.length ≤ 140737488351232
  syms : ∀ p, p < l.length → (ob l p).f4.length ≤ 140737488351232
  rels : ∀ p, p < l.length → (ob l p).f5.length ≤ 140737488351232
  names : ∀ p, p < l.length → ∀ q, q < (ob l p).f4.length → (sy (ob l p).f4 q).f0.size ≤ 140737488351232
def Within (l : List ObjT) (r : Int) (p : Nat) : Prop := ((ob l p).f1.length : Int) ≤ r ∧ ((ob l p).f3.length : Int) ≤ r ∧ ((ob l p).f4.length : Int) ≤ r ∧ ((ob l p).f5.length : Int) ≤ r
theorem wrapA {m : Int} {s : Nat} (h0 : 0 ≤ m) (h1 : m ≤ 2147483647) (h3 : s ≤ 140737488351232) : wrap64 (m + (s : Int)) = m + (s : Int) := wrap64_id (by omega) (by omega)
theorem sizes8 {l : List ObjT} (hB : Bits l) (hl : l.length ≤ 1000000) : ∃ r : Int, Ev (fun K => pleatref00_SizeObjects.f K l) r ∧ (r ≤ 2147483647 → ∀ p, p < l.length → Within l r p) := by
  have main : ∀ d p : Nat, ∀ n : Int, p + d = l.length → 0 ≤ n → n ≤ 4000000000000000 → ∃ r : Int, Ev (fun K => pleatref00_SizeObjects.l0 K l n (p : Int)) r ∧ n ≤ r ∧ (r ≤ 2147483647 → ∀ q, p ≤ q → q < l.length → Within l r q) := by
    intro d
    induction d with
    | zero =>
      intro p n hp h0 h1
      refine ⟨n, ?_, Int.le_refl n, fun _ q h2 h3 => by omega⟩
      refine Ev.succ ?_
      simp only [pleatref00_SizeObjects.l0]
      refine Ev.iteF (by omega) ?_
      refine Ev.succ ?_
      simp only [pleatref00_SizeObjects.j1]
      exact Ev.iteF (by decide) (Ev.val rfl)
    | succ d ih =>
      intro p n hp h0 h1
      have hlt : p < l.length := by omega
      by_cases hn : n ≤ 2147483647
      · have b0 := hB.nm p hlt
        have b1 := hB.code p hlt
        have b3 := hB.data p hlt
        have b4 := hB.syms p hlt
        have b5 := hB.rels p hlt
        obtain ⟨n1, hn1⟩ : ∃ n1 : Int, n1 = n + ((ob l p).f0.size : Int) + 4 * ((ob l p).f1.length : Int) + 8 * ((ob l p).f3.length : Int) + ((ob l p).f5.length : Int) + ((ob l p).f4.length : Int) := ⟨_, rfl⟩
        have inner : ∀ e q : Nat, ∀ m : Int, q + e = (ob l p).f4.length → 0 ≤ m → n1 ≤ m → m ≤ 4000000000000000 → ∃ r : Int, Ev (fun K => pleatref00_SizeObjects.l1 K l m (p : Int) (q : Int)) r ∧ m ≤ r ∧ (r ≤ 2147483647 → ∀ q, p + 1 ≤ q → q < l.length → Within l r q) := by
          intro e
          induction e with
          | zero =>
            intro q m hq h0m hm hm2
            obtain ⟨r, h2, h3, h4⟩ := ih (p + 1) m (by omega) h0m hm2
            refine ⟨r, ?_, h3, h4⟩
            refine Ev.succ ?_
            simp only [pleatref00_SizeObjects.l1]
            refine Ev.iteT (by omega) (Ev.iteT (by omega) (Ev.iteF ?_ ?_))
            · show ¬ (q : Int) < ((ob l p).f4.length : Int)
              omega
            · simp only [wrapS hlt (show l.length ≤ 1000000000 by omega)]
              exact h2
          | succ e ihe =>
            intro q m hq h0m hm hm2
            by_cases hm3 : m ≤ 2147483647
            · have bq := hB.names p hlt q (by omega)
              obtain ⟨r, h2, h3, h4⟩ := ihe (q + 1) (m + ((sy (ob l p).f4 q).f0.size : Int)) (by omega) (Int.add_nonneg h0m (Int.natCast_nonneg _)) (by omega) (by omega)
              refine ⟨r, ?_, by omega, h4⟩
              refine Ev.succ ?_
              simp only [pleatref00_SizeObjects.l1]
              refine Ev.iteT (by omega) (Ev.iteT (by omega) (Ev.iteT ?_ (Ev.iteT hm3 (Ev.iteT (by omega) ?_))))
              · show (q : Int) < ((ob l p).f4.length : Int)
                omega
              · have hw : wrap64 ((q : Int) + 1) = ((q + 1 : Nat) : Int) := by rw [wrap64_id (by omega) (by omega)]; rfl
                have hw2 : wrap64 (m + ((rd_T37 (rd_T27 l (p : Int)).f4 (q : Int)).f0.size : Int)) = m + ((sy (ob l p).f4 q).f0.size : Int) := by
                  show wrap64 (m + ((sy (ob l p).f4 q).f0.size : Int)) = _
                  exact wrapA h0m hm3 bq
                simp only [hw, hw2]
                exact h2
            · obtain ⟨r, h2, h3, h4⟩ := ih (p + 1) m (by omega) h0m hm2
              refine ⟨r, ?_, h3, h4⟩
              refine Ev.succ ?_
              simp only [pleatref00_SizeObjects.l1]
              refine Ev.iteT (by omega) (Ev.iteT (by omega) (Ev.iteT ?_ (Ev.iteF hm3 ?_)))
              · show (q : Int) < ((ob l p).f4.length : Int)
                omega
              · simp only [wrapS hlt (show l.length ≤ 1000000000 by omega)]
                exact h2
        obtain ⟨r, h2, h3, h4⟩ := inner (ob l p).f4.length 0 n1 (by omega) (by omega) (Int.le_refl _) (by omega)
        refine ⟨r, ?_, by omega, fun hr q h5 h6 => ?_⟩
        · refine Ev.succ ?_
          simp only [pleatref00_SizeObjects.l0]
          refine Ev.iteT (by omega) ?_
          simp only [show decide (n ≤ 2147483647) = true from decide_eq_true hn]
          refine Ev.succ ?_
          simp only [pleatref00_SizeObjects.j1]
          refine Ev.iteT (by trivial) (Ev.iteT (by omega) (Ev.iteT (by omega) ?_))
          have hw : wrap64 (wrap64 (wrap64 (wrap64 (wrap64 (n + ((rd_T27 l (p : Int)).f0.size : Int)) + wrap64 (4 * ((rd_T27 l (p : Int)).f1.length : Int))) + wrap64 (8 * ((rd_T27 l (p : Int)).f3.length : Int))) + ((rd_T27 l (p : Int)).f5.length : Int)) + ((rd_T27 l (p : Int)).f4.length : Int)) = n1 := by
            show wrap64 (wrap64 (wrap64 (wrap64 (wrap64 (n + ((ob l p).f0.size : Int)) + wrap64 (4 * ((ob l p).f1.length : Int))) + wrap64 (8 * ((ob l p).f3.length : Int))) + ((ob l p).f5.length : Int)) + ((ob l p).f4.length : Int)) = n1
            rw [wrap64_id (x := n + ((ob l p).f0.size : Int)) (by omega) (by omega), wrap64_id (x := 4 * ((ob l p).f1.length : Int)) (by omega) (by omega), wrap64_id (x := 8 * ((ob l p).f3.length : Int)) (by omega) (by omega), wrap64_id (x := n + ((ob l p).f0.size : Int) + 4 * ((ob l p).f1.length : Int)) (by omega) (by omega), wrap64_id (x := n + ((ob l p).f0.size : Int) + 4 * ((ob l p).f1.length : Int) + 8 * ((ob l p).f3.length : Int)) (by omega) (by omega), wrap64_id (x := n + ((ob l p).f0.size : Int) + 4 * ((ob l p).f1.length : Int) + 8 * ((ob l p).f3.length : Int) + ((ob l p).f5.length : Int)) (by omega) (by omega), hn1, wrap64_id (by omega) (by omega)]
          simp only [hw]
          exact h2
        · by_cases e : q = p
          · subst e
            unfold Within
            omega
          · exact h4 hr q (by omega) h6
      · refine ⟨n, ?_, Int.le_refl n, fun hr => absurd hr (by omega)⟩
        refine Ev.succ ?_
        simp only [pleatref00_SizeObjects.l0]
        refine Ev.iteT (by omega) ?_
        simp only [show decide (n ≤ 2147483647) = false from decide_eq_false hn]
        refine Ev.succ ?_
        simp only [pleatref00_SizeObjects.j1]
        exact Ev.iteF (by decide) (Ev.val rfl)
  obtain ⟨r, h1, h2, h3⟩ := main l.length 0 (l.length : Int) (by omega) (by omega) (by omega)
  exact ⟨r, h1, fun hr p hp => h3 hr p (Nat.zero_le _) hp⟩
theorem heavy8 {l : List ObjT} (hB : Bits l) : ∃ b, Ev (fun K => pleatlaw08_heavy.f K l) b ∧ (b = false → l.length ≤ 64 ∧ ∀ p, p < l.length → Within l 524288 p) := by
  by_cases c : (l.length : Int) > 64
  · refine ⟨true, ?_, fun h => by cases h⟩
    unfold pleatlaw08_heavy.f
    exact Ev.iteT c (Ev.val rfl)
  · obtain ⟨r, h1, h2⟩ := sizes8 hB (by omega)
    by_cases c2 : r > 2147483647
    · refine ⟨true, ?_, fun h => by cases h⟩
      unfold pleatlaw08_heavy.f
      refine Ev.iteF c (Ev.bind h1 (Ev.bind0 (a := true) ?_ (Ev.iteT rfl (Ev.val rfl))))
      unfold pleatref00_Long.f
      rw [decide_eq_true c2]
    · by_cases c3 : r > 524288
      · refine ⟨true, ?_, fun h => by cases h⟩
        unfold pleatlaw08_heavy.f
        refine Ev.iteF c (Ev.bind h1 (Ev.bind0 (a := false) ?_ (Ev.iteF (by decide) (Ev.bind h1 (Ev.val (decide_eq_true c3))))))
        unfold pleatref00_Long.f
        rw [decide_eq_false c2]
      · refine ⟨false, ?_, fun _ => ⟨by omega, fun p hp => ?_⟩⟩
        · unfold pleatlaw08_heavy.f
          refine Ev.iteF c (Ev.bind h1 (Ev.bind0 (a := false) ?_ (Ev.iteF (by decide) (Ev.bind h1 (Ev.val (decide_eq_false c3))))))
          unfold pleatref00_Long.f
          rw [decide_eq_false c2]
        · have := h2 (by omega) p hp
          unfold Within at this ⊢
          omega
theorem copyO (nm : ByteArray) (code : List Int) (dat : Int) (data : List Int) (syms : List Sym) (rels : List Rel) (h1 : syms.length ≤ 1048576) (h2 : code.length ≤ 1048576) (h3 : data.length ≤ 1048576) (h4 : rels.length ≤ 1048576) : pleatref00_CopyObject.f nm code dat data syms rels = some (nm, code, dat, data, syms, rels) := by
  unfold pleatref00_CopyObject.f pleatref00_CopyWords.f pleatref00_CopyLongs.f pleatref00_CopySymbols.f pleatref00_CopyRelocs.f
  simp only [List.length_nil, Nat.zero_add, List.nil_append]
  rw [if_pos (by omega), if_pos (by omega), if_pos (by omega), if_pos (by omega)]
  rfl
theorem copy8 {l : List ObjT} (hl : l.length ≤ 1000000) (hW : ∀ p, p < l.length → Within l 524288 p) : Ev (fun K => pleatref00_CopyObjects.f K l) l := by
  have main : ∀ d p : Nat, p + d = l.length → Ev (fun K => pleatref00_CopyObjects.l0 K l (l.take p) (p : Int)) l := by
    intro d
    induction d with
    | zero =>
      intro p hp
      refine Ev.succ (Ev.iteF (by omega) (Ev.val ?_))
      exact List.take_of_length_le (by omega)
    | succ d ih =>
      intro p hp
      have hlt : p < l.length := by omega
      have hw := hW p hlt
      unfold Within at hw
      have hob : ob l p = l[p] := by
        unfold ob rd_T27
        rw [Int.toNat_natCast, List.getD_eq_getElem?_getD, List.getElem?_eq_getElem hlt]
        rfl
      refine Ev.succ (Ev.iteT (by omega) (Ev.iteT (by omega) (Ev.bind0 (copyO _ _ _ _ _ _ ?_ ?_ ?_ ?_) (Ev.iteT (by rw [List.length_take]; omega) ?_))))
      · show (ob l p).f4.length ≤ 1048576
        omega
      · show (ob l p).f1.length ≤ 1048576
        omega
      · show (ob l p).f3.length ≤ 1048576
        omega
      · show (ob l p).f5.length ≤ 1048576
        omega
      · simp only [wrapS hlt (show l.length ≤ 1000000000 by omega)]
        have h := ih (p + 1) (by omega)
        rw [List.take_succ_eq_append_getElem hlt, ← hob] at h
        exact h
  exact main l.length 0 (by omega)
theorem small_of {l : List ObjT} (hl : l.length ≤ 64) (hW : ∀ p, p < l.length → Within l 524288 p) (hw : ∀ p, p < l.length → wordsO (ob l p).f1 = true) : Small l := by
  refine ⟨by omega, fun p hp => ?_, fun p hp => ?_, fun p hp => ?_, hw⟩
  all_goals (have h := hW p hp; unfold Within at h; omega)
end Go.Proofs.Ytiaohbbafaaibab.P

/- The statement SymbolBinds: of every objects and pick its law's Go function answers true and leaves its arguments as they were; no further condition. This text: the law over numbers and lists, no memory. -/
namespace Go.Proofs.Ytiaohbbafaaibab.P
open Go.RowKit Go.Maps Go.Proofs.YtiaohbbafaaibabW.PrintWords Go.Proofs.YtiaohbbafaaibabW.PrintLast Go.Proofs.YtiaohbbafaaibabW.PrintMore Go.Proofs.Ytiaohbbafaaibab.Opn Go.Proofs.Ytiaohbbafaaibab.Arr Go.Proofs.Ytiaohbbafaaibab.MapB Go.Proofs.Ytiaohbbafaaibab.SymM
set_option linter.unusedVariables false
set_option linter.unusedSimpArgs false
theorem ob_mem {l : List ObjT} {p : Nat} (h : p < l.length) : ob l p ∈ l := by
  have : ob l p = l[p] := by
    unfold ob rd_T27
    rw [Int.toNat_natCast, List.getD_eq_getElem?_getD, List.getElem?_eq_getElem h]
    rfl
  rw [this]
  exact List.getElem_mem h
theorem sy_mem {l : List Sym} {p : Nat} (h : p < l.length) : sy l p ∈ l := by
  rw [sy_at h]
  exact List.getElem_mem h
theorem bits_of {l : List ObjT} (h : ∀ y ∈ l, wf27 y) : Bits l ∧ ∀ p, p < l.length → wordsO (ob l p).f1 = true := by
  have hx : ∀ p, p < l.length → wf27 (ob l p) := fun p hp => h _ (ob_mem hp)
  refine ⟨⟨fun p hp => (hx p hp).1, fun p hp => ?_, fun p hp => ?_, fun p hp => ?_, fun p hp => ?_, fun p hp q hq => ?_⟩, fun p hp => ?_⟩
  · have := (hx p hp).2.1.2.1; omega
  · have := (hx p hp).2.2.2.1.2.1; omega
  · have := (hx p hp).2.2.2.2.1.2.1; omega
  · have := (hx p hp).2.2.2.2.2.2.1; omega
  · exact ((hx p hp).2.2.2.2.1.2.2 _ (sy_mem hq)).1
  · unfold wordsO
    rw [List.all_eq_true]
    intro y hy
    have := wf_u32 ((hx p hp).2.1.2.2 y hy)
    rw [Bool.and_eq_true, decide_eq_true_eq, decide_eq_true_eq]
    omega
theorem chkR_total {l : List ObjT} (hS : Small l) : ∀ n, n ≤ l.length → chkR l n ≠ none
  | 0, _ => by intro h; cases h
  | n + 1, hn => by
    intro h
    cases hc : chkR l n with
    | none => exact chkR_total hS n (by omega) hc
    | some o =>
      cases o with
      | some x => simp only [chkR, hc] at h; cases h
      | none =>
        rw [chkR_step l n hc, objCheck hS (by omega)] at h
        generalize chkO (ob l n).f0 (ob l n).f1 (ob l n).f2 (ob l n).f3 (ob l n).f4 (ob l n).f5 = x at h
        obtain ⟨e, m⟩ := x
        simp only at h
        split at h
        · cases h
        · split at h <;> cases h
theorem resolve_ways {l : List ObjT} (hS : Small l) (hl : l.length ≤ 32) : ∃ d e n m, resolveR l = some (d, e, n, m) ∧ ((e ≠ 0 ∧ d = []) ∨ e = 0) := by
  cases hc : chkR l l.length with
  | none => exact absurd hc (chkR_total hS _ (Nat.le_refl _))
  | some o =>
    cases o with
    | some x =>
      have hne := chkR_ne l _ _ hc
      obtain ⟨x1, x2, x3⟩ := x
      refine ⟨[], x1, x2, x3, ?_, .inl ⟨hne, rfl⟩⟩
      unfold resolveR
      rw [if_neg (by omega), hc]
    | none =>
      obtain ⟨x, hx, ht⟩ := resolve_told l hl hc
      cases ht with
      | two hb => exact ⟨_, _, _, _, hx, .inl ⟨by decide, rfl⟩⟩
      | un h0 hb => exact ⟨_, _, _, _, hx, .inl ⟨by decide, rfl⟩⟩
      | ok h0 hn => exact ⟨_, _, _, _, hx, .inr rfl⟩
theorem pureSymbolBinds (x0 : List ObjT) (x1 : Int) (h0 : x0.length ≤ 9223372036854775807 ∧ x0.length * 120 ≤ 140737488351232 ∧ ∀ y ∈ x0, wf27 y) (h1 : (Lit.int .u8 x1).wf = true) :
    (0 ≤ x1 ∧ x1 ≤ 255) ∧ ∃ kh hv, pleatlaw08_heavy.f kh x0 = some hv ∧ (hv = false → x0.length ≤ 8 → ∃ kc d e n m, pleatref00_CopyObjects.f kc x0 = some x0 ∧ symbol_Resolve.f x0 = some (d, e, n, m) ∧ ((e ≠ 0 ∧ d = []) ∨ (e = 0 ∧ Bound x0 d))) := by
  refine ⟨wf_u8 h1, ?_⟩
  obtain ⟨hB, hw⟩ := bits_of h0.2.2
  obtain ⟨b, hEv, hsz⟩ := heavy8 hB
  obtain ⟨kh, hkh⟩ := hEv.rounds
  refine ⟨kh, b, hkh, fun hb h8 => ?_⟩
  obtain ⟨h64, hW⟩ := hsz hb
  have hS := small_of h64 hW hw
  obtain ⟨kc, hkc⟩ := (copy8 (by omega) hW).rounds
  obtain ⟨d, e, n, m, hr, hways⟩ := resolve_ways hS (by omega)
  refine ⟨kc, d, e, n, m, hkc, ?_, ?_⟩
  · rw [resolve_f hS.len hS.syms]
    exact hr
  · rcases hways with h | h
    · exact .inl h
    · subst h
      exact .inr ⟨rfl, bound_of hS h8 hr⟩
end Go.Proofs.Ytiaohbbafaaibab.P
