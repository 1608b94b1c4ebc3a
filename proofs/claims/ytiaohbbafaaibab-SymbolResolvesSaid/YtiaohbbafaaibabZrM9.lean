/- OWN TEXT and printed parts of this claim, laid together: SymM, HWipe, HWid, P3, HSymW. -/
import Derived.Test.YtiaohbbafaaibabZrM5
import Derived.Test.YtiaohbbafaaibabZrM7
import Derived.Test.YtiaohbbafaaibabZrM8
import Derived.Test.YtiaohbbafaaibabZrM3
import Derived.Test.YtiaohbbafaaibabZrM0
import Derived.Test.YtiaohbbafaaibabZrM1
import Derived.Test.YtiaohbbafaaibabZrM4
import Derived.WalkMore
/- OWN TEXT: the document's answer for symbols comes to the same as the program's, over plain lists. -/
set_option linter.unusedVariables false
set_option linter.unusedSimpArgs false
namespace Go.Proofs.Ytiaohbbafaaibab.P
open Go.RowKit Go.Maps Go.Proofs.YtiaohbbafaaibabW.PrintWords Go.Proofs.YtiaohbbafaaibabW.PrintLast Go.Proofs.YtiaohbbafaaibabW.PrintMore Go.Proofs.Ytiaohbbafaaibab.Arr Go.Proofs.Ytiaohbbafaaibab.MapB Go.Proofs.Ytiaohbbafaaibab.SymM

def resF : Option (Int × Int) → Int × Int × Bool
 | some (i, a) => (i, a, true)
 | none => (0, 0, false)
theorem resF_snd (o : Option (Int × Int)) : (resF o).2.2 = o.isSome := by
 cases o with
 | none => rfl
 | some x => rfl
theorem first8 {l : List ObjT} (hS : Small l) (s : ByteArray) (kind : Int) {i k : Nat} (hi : i ≤ l.length) (hk : k ≤ (ob l i).f4.length) :
    Ev (fun K => pleatref08_first.f K l s kind (i : Int) (k : Int)) (resF (firstF l s kind i k)) := by
  have hlen := hS.len
  have out : ∀ p : Nat, (i < p ∨ l.length ≤ p) → firstF l s kind i k = none → Ev (fun K => pleatref08_first.l0 K l s kind (i : Int) (k : Int) (p : Int)) (resF (firstF l s kind i k)) := by
    intro p hp hn
    rw [hn]
    refine Ev.succ ?_
    simp only [pleatref08_first.l0, pleatref08_first.j1, pleatref08_first.l1, pleatref08_first.j3, pleatref08_names.l0, pleatref08_names.l1, pleatref08_names.l2, pleatref08_names.l3, pleatref08_check.l0, pleatref08_check.l1, pleatref08_Resolve.l0, pleatref08_Resolve.l1]
    refine (Ev.ite2 (fun h => ?_) (fun h => ?_))
    · refine Ev.succ ?_
      simp only [pleatref08_first.l0, pleatref08_first.j1, pleatref08_first.l1, pleatref08_first.j3, pleatref08_names.l0, pleatref08_names.l1, pleatref08_names.l2, pleatref08_names.l3, pleatref08_check.l0, pleatref08_check.l1, pleatref08_Resolve.l0, pleatref08_Resolve.l1]
      exact (Ev.iteF (by rw [decide_eq_true_eq]; omega) (Ev.val rfl))
    · refine Ev.succ ?_
      simp only [pleatref08_first.l0, pleatref08_first.j1, pleatref08_first.l1, pleatref08_first.j3, pleatref08_names.l0, pleatref08_names.l1, pleatref08_names.l2, pleatref08_names.l3, pleatref08_check.l0, pleatref08_check.l1, pleatref08_Resolve.l0, pleatref08_Resolve.l1]
      exact (Ev.iteF (by decide) (Ev.val rfl))
  have main : ∀ d p : Nat, p + d = i + 1 → rowF l s kind p = none → Ev (fun K => pleatref08_first.l0 K l s kind (i : Int) (k : Int) (p : Int)) (resF (firstF l s kind i k)) := by
    intro d
    induction d with
    | zero =>
      intro p hp hr
      have : p = i + 1 := by omega
      subst this
      exact out _ (.inl (by omega)) (firstF_end hr hk)
    | succ d ih =>
      intro p hp hr
      by_cases hlt : p < l.length
      · have hsl := hS.syms p hlt
        have inner : ∀ e q : Nat, q + e = (ob l p).f4.length → symF (ob l p).f4 s kind q = none → (p = i → q ≤ k) → Ev (fun K => pleatref08_first.l1 K l s kind (i : Int) (k : Int) (p : Int) (q : Int)) (resF (firstF l s kind i k)) := by
          intro e
          induction e with
          | zero =>
            intro q hq hn hpk
            refine Ev.succ ?_
            simp only [pleatref08_first.l0, pleatref08_first.j1, pleatref08_first.l1, pleatref08_first.j3, pleatref08_names.l0, pleatref08_names.l1, pleatref08_names.l2, pleatref08_names.l3, pleatref08_check.l0, pleatref08_check.l1, pleatref08_Resolve.l0, pleatref08_Resolve.l1]
            refine (Ev.iteT (by omega) (Ev.iteT (by omega) (Ev.iteF ?_ ?_)))
            · show ¬ (q : Int) < ((ob l p).f4.length : Int)
              omega
            · simp only [wrapS hlt (show l.length ≤ 1000000000 by omega)]
              refine ih (p + 1) (by omega) ?_
              rw [rowF_step hr, ← (show q = (ob l p).f4.length by omega), hn]
              rfl
          | succ e ihe =>
            intro q hq hn hpk
            have hq' : q < (ob l p).f4.length := by omega
            have go : symF (ob l p).f4 s kind (q + 1) = none → (p = i → q + 1 ≤ k) → Ev (fun K => pleatref08_first.l1 K l s kind (i : Int) (k : Int) (p : Int) (wrap64 ((q : Int) + 1))) (resF (firstF l s kind i k)) := by
              intro h1 h2
              simp only [wrapS hq' (show (ob l p).f4.length ≤ 1000000000 by omega)]
              exact ihe (q + 1) (by omega) h1 h2
            have hst := symF_step hn
            have j3f : (p = i → q < k) → Ev (fun K => pleatref08_first.j3 K l s kind (i : Int) (k : Int) (p : Int) (q : Int) false) (resF (firstF l s kind i k)) := by
              intro hpq
              refine Ev.succ ?_
              simp only [pleatref08_first.l0, pleatref08_first.j1, pleatref08_first.l1, pleatref08_first.j3, pleatref08_names.l0, pleatref08_names.l1, pleatref08_names.l2, pleatref08_names.l3, pleatref08_check.l0, pleatref08_check.l1, pleatref08_Resolve.l0, pleatref08_Resolve.l1]
              refine (Ev.iteF (by decide) (Ev.iteT (by omega) (Ev.iteT (by omega) (Ev.iteT (by omega) (Ev.iteT ?_ (Ev.ite2 (fun hm => Ev.ite2 (fun hkd => ?_) (fun hkd => ?_)) (fun hm => ?_)))))))
              · show (q : Int) < ((ob l p).f4.length : Int)
                omega
              · refine Ev.val ?_
                have hm2 : (sy (ob l p).f4 q).f0 = s := toList_inj.1 hm
                have hk2 : (sy (ob l p).f4 q).f1 = kind := hkd
                rw [if_pos ⟨hm2, hk2⟩] at hst
                have hpi : p ≤ i := by omega
                rw [firstF_hit (i := i) (k := k) hr hst (by
                  by_cases e : p = i
                  · exact .inr ⟨e, hpq e⟩
                  · exact .inl ⟨by omega, hq'⟩)]
                rfl
              · have hk2 : ¬ (sy (ob l p).f4 q).f1 = kind := hkd
                rw [if_neg (fun h => hk2 h.2)] at hst
                exact go hst (fun e => hpq e)
              · have hm2 : ¬ (sy (ob l p).f4 q).f0 = s := fun h => hm (toList_inj.2 h)
                rw [if_neg (fun h => hm2 h.1)] at hst
                exact go hst (fun e => hpq e)
            refine Ev.succ ?_
            simp only [pleatref08_first.l0, pleatref08_first.j1, pleatref08_first.l1, pleatref08_first.j3, pleatref08_names.l0, pleatref08_names.l1, pleatref08_names.l2, pleatref08_names.l3, pleatref08_check.l0, pleatref08_check.l1, pleatref08_Resolve.l0, pleatref08_Resolve.l1]
            refine (Ev.iteT (by omega) (Ev.iteT (by omega) (Ev.iteT ?_ (Ev.ite2 (fun hpi => ?_) (fun hpi => j3f (fun e => absurd (congrArg (fun n : Nat => (n : Int)) e) hpi))))))
            · show (q : Int) < ((ob l p).f4.length : Int)
              omega
            · have hpi' : p = i := by omega
              by_cases hge : k ≤ q
              · have hqk : q = k := by have := hpk hpi'; omega
                simp only [show decide ((q : Int) ≥ (k : Int)) = true from decide_eq_true (by omega)]
                refine Ev.succ ?_
                simp only [pleatref08_first.l0, pleatref08_first.j1, pleatref08_first.l1, pleatref08_first.j3, pleatref08_names.l0, pleatref08_names.l1, pleatref08_names.l2, pleatref08_names.l3, pleatref08_check.l0, pleatref08_check.l1, pleatref08_Resolve.l0, pleatref08_Resolve.l1]
                refine (Ev.iteT (by trivial) ?_)
                simp only [wrapS hlt (show l.length ≤ 1000000000 by omega)]
                refine out (p + 1) (.inl (by omega)) ?_
                unfold firstF
                rw [← hpi', hr, ← hqk, hn]
                rfl
              · simp only [show decide ((q : Int) ≥ (k : Int)) = false from decide_eq_false (by omega)]
                exact j3f (fun _ => by omega)
        refine Ev.succ ?_
        simp only [pleatref08_first.l0, pleatref08_first.j1, pleatref08_first.l1, pleatref08_first.j3, pleatref08_names.l0, pleatref08_names.l1, pleatref08_names.l2, pleatref08_names.l3, pleatref08_check.l0, pleatref08_check.l1, pleatref08_Resolve.l0, pleatref08_Resolve.l1]
        refine (Ev.iteT (by omega) ?_)
        simp only [show decide ((p : Int) ≤ (i : Int)) = true from decide_eq_true (by omega)]
        refine Ev.succ ?_
        simp only [pleatref08_first.l0, pleatref08_first.j1, pleatref08_first.l1, pleatref08_first.j3, pleatref08_names.l0, pleatref08_names.l1, pleatref08_names.l2, pleatref08_names.l3, pleatref08_check.l0, pleatref08_check.l1, pleatref08_Resolve.l0, pleatref08_Resolve.l1]
        exact (Ev.iteT (by trivial) (inner (ob l p).f4.length 0 (by omega) rfl (fun _ => by omega)))
      · have hpi : p = i := by omega
        have hil : l.length ≤ i := by omega
        refine out p (.inr (by omega)) ?_
        have h0 := ob_none hil
        unfold firstF
        rw [← hpi, hr, show k = 0 by omega]
        rfl
  exact main (i + 1) 0 (by omega) rfl
theorem find8 {l : List ObjT} (hS : Small l) (s : ByteArray) : Ev (fun K => pleatref08_Find.f K l s) (findF l s l.length) := by
 have f1 := first8 hS s 1 (Nat.le_refl l.length) (Nat.zero_le _)
 have f2 := first8 hS s 2 (Nat.le_refl l.length) (Nat.zero_le _)
 rw [firstF_all] at f1 f2
 unfold findF
 refine Ev.bind f1 ?_
 cases h1 : rowF l s 1 l.length with
 | some x => exact Ev.iteT (by trivial) (Ev.val rfl)
 | none =>
  refine Ev.iteF (by decide) (Ev.bind f2 ?_)
  cases h2 : rowF l s 2 l.length with
  | some x => exact Ev.val rfl
  | none => exact Ev.val rfl
theorem names8b {l : List ObjT} (hS : Small l) {r : Int × Int × Int} (hbad : ∀ i k, FirstBad l (lost l) i k → r = (40, (i : Int), (k : Int))) (hnone : NoneBad l (lost l) → r = (0, 0, 0)) : Ev (fun K => pleatref08_names.l2 K l 0) r := by
 have hlen := hS.len
 have main : ∀ d p : Nat, p + d = l.length → (∀ p', p' < p → ∀ q, q < (ob l p').f4.length → ¬ lost l p' q) → Ev (fun K => pleatref08_names.l2 K l (p : Int)) r := by
  intro d
  induction d with
  | zero =>
   intro p hp hb
   refine Ev.succ ?_
   simp only [pleatref08_first.l0, pleatref08_first.j1, pleatref08_first.l1, pleatref08_first.j3, pleatref08_names.l0, pleatref08_names.l1, pleatref08_names.l2, pleatref08_names.l3, pleatref08_check.l0, pleatref08_check.l1, pleatref08_Resolve.l0, pleatref08_Resolve.l1]
   refine (Ev.iteF (by omega) (Ev.val ?_))
   exact (hnone (fun p' h => hb p' (by omega))).symm
  | succ d ih =>
   intro p hp hb
   have hlt : p < l.length := by omega
   have hsl := hS.syms p hlt
   have inner : ∀ e q : Nat, q + e = (ob l p).f4.length → (∀ q', q' < q → ¬ lost l p q') → Ev (fun K => pleatref08_names.l3 K l (p : Int) (q : Int)) r := by
    intro e
    induction e with
    | zero =>
     intro q hq hn
     refine Ev.succ ?_
     simp only [pleatref08_first.l0, pleatref08_first.j1, pleatref08_first.l1, pleatref08_first.j3, pleatref08_names.l0, pleatref08_names.l1, pleatref08_names.l2, pleatref08_names.l3, pleatref08_check.l0, pleatref08_check.l1, pleatref08_Resolve.l0, pleatref08_Resolve.l1]
     refine (Ev.iteT (by omega) (Ev.iteT (by omega) (Ev.iteF ?_ ?_)))
     ·
      show ¬ (q : Int) < ((ob l p).f4.length : Int)
      omega
     ·
      simp only [wrapS hlt (show l.length ≤ 1000000000 by omega)]
      refine ih (p + 1) (by omega) (fun p' h q' h' => ?_)
      by_cases e : p' = p
      ·
       rw [e] at h' ⊢; exact hn q' (by omega)
      ·
       exact hb p' (by omega) q' h'
    | succ e ihe =>
     intro q hq hn
     have hq' : q < (ob l p).f4.length := by omega
     have go : ¬ lost l p q → Ev (fun K => pleatref08_names.l3 K l (p : Int) (wrap64 ((q : Int) + 1))) r := by
      intro h1
      simp only [wrapS hq' (show (ob l p).f4.length ≤ 1000000000 by omega)]
      refine ihe (q + 1) (by omega) (fun q' h => ?_)
      by_cases e : q' = q
      ·
       rw [e]; exact h1
      ·
       exact hn q' (by omega)
     refine Ev.succ ?_
     simp only [pleatref08_first.l0, pleatref08_first.j1, pleatref08_first.l1, pleatref08_first.j3, pleatref08_names.l0, pleatref08_names.l1, pleatref08_names.l2, pleatref08_names.l3, pleatref08_check.l0, pleatref08_check.l1, pleatref08_Resolve.l0, pleatref08_Resolve.l1]
     refine (Ev.iteT (by omega) (Ev.iteT (by omega) (Ev.iteT ?_ (Ev.iteT (by omega) (Ev.bind (find8 hS (sy (ob l p).f4 q).f0) (Ev.ite2 (fun h1 => Ev.ite2 (fun h2 => ?_) (fun h2 => ?_)) (fun h1 => ?_)))))))
     ·
      show (q : Int) < ((ob l p).f4.length : Int)
      omega
     ·
      refine go (fun hb => ?_)
      rw [hb.2] at h2
      exact absurd h2 (by decide)
     ·
      refine Ev.val (hbad p q ⟨hlt, hq', ⟨h1, by simpa using h2⟩, hn, hb⟩).symm
     ·
      exact go (fun hb => h1 hb.1)
   refine Ev.succ ?_
   simp only [pleatref08_first.l0, pleatref08_first.j1, pleatref08_first.l1, pleatref08_first.j3, pleatref08_names.l0, pleatref08_names.l1, pleatref08_names.l2, pleatref08_names.l3, pleatref08_check.l0, pleatref08_check.l1, pleatref08_Resolve.l0, pleatref08_Resolve.l1]
   exact (Ev.iteT (by omega) (inner (ob l p).f4.length 0 (by omega) (fun q' h => absurd h (Nat.not_lt_zero _))))
 exact main l.length 0 (by omega) (fun p' h => absurd h (Nat.not_lt_zero _))
theorem names8 {l : List ObjT} (hS : Small l) {r : Int × Int × Int} (hbad : ∀ i k, FirstBad l (twice l) i k → r = (26, (i : Int), (k : Int))) (hnone : NoneBad l (twice l) → Ev (fun K => pleatref08_names.l2 K l 0) r) : Ev (fun K => pleatref08_names.f K l) r := by
 have hlen := hS.len
 have main : ∀ d p : Nat, p + d = l.length → (∀ p', p' < p → ∀ q, q < (ob l p').f4.length → ¬ twice l p' q) → Ev (fun K => pleatref08_names.l0 K l (p : Int)) r := by
  intro d
  induction d with
  | zero =>
   intro p hp hb
   refine Ev.succ ?_
   simp only [pleatref08_first.l0, pleatref08_first.j1, pleatref08_first.l1, pleatref08_first.j3, pleatref08_names.l0, pleatref08_names.l1, pleatref08_names.l2, pleatref08_names.l3, pleatref08_check.l0, pleatref08_check.l1, pleatref08_Resolve.l0, pleatref08_Resolve.l1]
   refine (Ev.iteF (by omega) ?_)
   exact hnone (fun p' h => hb p' (by omega))
  | succ d ih =>
   intro p hp hb
   have hlt : p < l.length := by omega
   have hsl := hS.syms p hlt
   have inner : ∀ e q : Nat, q + e = (ob l p).f4.length → (∀ q', q' < q → ¬ twice l p q') → Ev (fun K => pleatref08_names.l1 K l (p : Int) (q : Int)) r := by
    intro e
    induction e with
    | zero =>
     intro q hq hn
     refine Ev.succ ?_
     simp only [pleatref08_first.l0, pleatref08_first.j1, pleatref08_first.l1, pleatref08_first.j3, pleatref08_names.l0, pleatref08_names.l1, pleatref08_names.l2, pleatref08_names.l3, pleatref08_check.l0, pleatref08_check.l1, pleatref08_Resolve.l0, pleatref08_Resolve.l1]
     refine (Ev.iteT (by omega) (Ev.iteT (by omega) (Ev.iteF ?_ ?_)))
     ·
      show ¬ (q : Int) < ((ob l p).f4.length : Int)
      omega
     ·
      simp only [wrapS hlt (show l.length ≤ 1000000000 by omega)]
      refine ih (p + 1) (by omega) (fun p' h q' h' => ?_)
      by_cases e : p' = p
      ·
       rw [e] at h' ⊢; exact hn q' (by omega)
      ·
       exact hb p' (by omega) q' h'
    | succ e ihe =>
     intro q hq hn
     have hq' : q < (ob l p).f4.length := by omega
     have go : ¬ twice l p q → Ev (fun K => pleatref08_names.l1 K l (p : Int) (wrap64 ((q : Int) + 1))) r := by
      intro h1
      simp only [wrapS hq' (show (ob l p).f4.length ≤ 1000000000 by omega)]
      refine ihe (q + 1) (by omega) (fun q' h => ?_)
      by_cases e : q' = q
      ·
       rw [e]; exact h1
      ·
       exact hn q' (by omega)
     refine Ev.succ ?_
     simp only [pleatref08_first.l0, pleatref08_first.j1, pleatref08_first.l1, pleatref08_first.j3, pleatref08_names.l0, pleatref08_names.l1, pleatref08_names.l2, pleatref08_names.l3, pleatref08_check.l0, pleatref08_check.l1, pleatref08_Resolve.l0, pleatref08_Resolve.l1]
     refine (Ev.iteT (by omega) (Ev.iteT (by omega) (Ev.iteT ?_ (Ev.iteT (by omega) (Ev.bind (first8 hS (sy (ob l p).f4 q).f0 1 (Nat.le_of_lt hlt) (Nat.le_of_lt hq')) (Ev.ite2 (fun h1 => Ev.ite2 (fun h2 => ?_) (fun h2 => ?_)) (fun h1 => ?_)))))))
     ·
      show (q : Int) < ((ob l p).f4.length : Int)
      omega
     ·
      rw [resF_snd] at h2
      exact Ev.val (hbad p q ⟨hlt, hq', ⟨h1, h2⟩, hn, hb⟩).symm
     ·
      rw [resF_snd] at h2
      exact go (fun hb => h2 hb.2)
     ·
      exact go (fun hb => h1 hb.1)
   refine Ev.succ ?_
   simp only [pleatref08_first.l0, pleatref08_first.j1, pleatref08_first.l1, pleatref08_first.j3, pleatref08_names.l0, pleatref08_names.l1, pleatref08_names.l2, pleatref08_names.l3, pleatref08_check.l0, pleatref08_check.l1, pleatref08_Resolve.l0, pleatref08_Resolve.l1]
   exact (Ev.iteT (by omega) (inner (ob l p).f4.length 0 (by omega) (fun q' h => absurd h (Nat.not_lt_zero _))))
 exact main l.length 0 (by omega) (fun p' h => absurd h (Nat.not_lt_zero _))
theorem check8 {l : List ObjT} (hS : Small l) (hl : l.length ≤ 32) {r : Int × Int × Int} (hbad : ∀ x, chkR l l.length = some (some x) → r = x) (hnone : chkR l l.length = some none → r = (0, 0, 0)) : Ev (fun K => pleatref08_check.f K l) r := by
  have main : ∀ d p : Nat, p + d = l.length → chkR l p = some none → Ev (fun K => pleatref08_check.l0 K l (p : Int)) r := by
    intro d
    induction d with
    | zero =>
      intro p hp hc
      have : p = l.length := by omega
      subst this
      refine Ev.succ ?_
      simp only [pleatref08_first.l0, pleatref08_first.j1, pleatref08_first.l1, pleatref08_first.j3, pleatref08_names.l0, pleatref08_names.l1, pleatref08_names.l2, pleatref08_names.l3, pleatref08_check.l0, pleatref08_check.l1, pleatref08_Resolve.l0, pleatref08_Resolve.l1]
      exact (Ev.iteF (by omega) (Ev.val (hnone hc).symm))
    | succ d ih =>
      intro p hp hc
      have hlt : p < l.length := by omega
      have hst := chkR_step l p hc
      rw [objCheck hS hlt] at hst
      have hfin : ∀ x, chkR l (p + 1) = some (some x) → r = x := fun x h => hbad x (by
        have := chkR_some l (p + 1) (l.length - (p + 1)) x h
        rwa [show p + 1 + (l.length - (p + 1)) = l.length by omega] at this)
      refine Ev.succ ?_
      simp only [pleatref08_first.l0, pleatref08_first.j1, pleatref08_first.l1, pleatref08_first.j3, pleatref08_names.l0, pleatref08_names.l1, pleatref08_names.l2, pleatref08_names.l3, pleatref08_check.l0, pleatref08_check.l1, pleatref08_Resolve.l0, pleatref08_Resolve.l1]
      refine (Ev.iteT (by omega) (Ev.iteT (by omega) (Ev.bind (chk3 (ob l p).f0 (ob l p).f1 (ob l p).f2 (ob l p).f3 (ob l p).f4 (ob l p).f5 (hS.words p hlt) (hS.syms p hlt) (hS.code p hlt) (hS.rels p hlt)) ?_)))
      generalize chkO (ob l p).f0 (ob l p).f1 (ob l p).f2 (ob l p).f3 (ob l p).f4 (ob l p).f5 = x at hst ⊢
      obtain ⟨e, n⟩ := x
      simp only at hst
      refine Ev.ite2 (fun he => ?_) (fun he => ?_)
      · have he : e = 0 := he
        subst he
        rw [if_neg (by decide)] at hst
        have inner : ∀ e q : Nat, q + e = p → (∀ q', q' < q → ¬ (ob l q').f0 = (ob l p).f0) → Ev (fun K => pleatref08_check.l1 K l (p : Int) (q : Int)) r := by
          intro e
          induction e with
          | zero =>
            intro q hq hn
            refine Ev.succ ?_
            simp only [pleatref08_first.l0, pleatref08_first.j1, pleatref08_first.l1, pleatref08_first.j3, pleatref08_names.l0, pleatref08_names.l1, pleatref08_names.l2, pleatref08_names.l3, pleatref08_check.l0, pleatref08_check.l1, pleatref08_Resolve.l0, pleatref08_Resolve.l1]
            refine (Ev.iteF (by omega) ?_)
            simp only [wrapS hlt (show l.length ≤ 1000000000 by omega)]
            refine ih (p + 1) (by omega) ?_
            rw [hst, if_neg]
            rw [objSeen_iff]
            rintro ⟨j, h1, h2⟩
            exact hn j (by omega) h2
          | succ e ihe =>
            intro q hq hn
            refine Ev.succ ?_
            simp only [pleatref08_first.l0, pleatref08_first.j1, pleatref08_first.l1, pleatref08_first.j3, pleatref08_names.l0, pleatref08_names.l1, pleatref08_names.l2, pleatref08_names.l3, pleatref08_check.l0, pleatref08_check.l1, pleatref08_Resolve.l0, pleatref08_Resolve.l1]
            refine (Ev.iteT (by omega) (Ev.iteT (by omega) (Ev.iteT (by omega) (Ev.iteT (by omega) (Ev.iteT (by omega) (Ev.ite2 (fun h1 => ?_) (fun h1 => ?_)))))))
            · have h1 : (ob l q).f0 = (ob l p).f0 := toList_inj.1 h1
              refine Ev.val (hfin _ ?_).symm
              rw [hst, if_pos]
              rw [objSeen_iff]
              exact ⟨q, by omega, h1⟩
            · simp only [wrapS (show q < p by omega) (show p ≤ 1000000000 by omega)]
              refine ihe (q + 1) (by omega) (fun q' h => ?_)
              by_cases e : q' = q
              · rw [e]; exact fun h2 => h1 (toList_inj.2 h2)
              · exact hn q' (by omega)
        exact inner p 0 (by omega) (fun q' h => absurd h (Nat.not_lt_zero _))
      · rw [if_pos he] at hst
        exact Ev.val (hfin _ hst).symm
  unfold pleatref08_check.f
  exact Ev.iteF (by omega) (main l.length 0 (by omega) rfl)
def cv (x : DefT) : S57 := ⟨x.f0, x.f1⟩
theorem rows8 {l : List ObjT} (hS : Small l) (hN : NoneBad l (unbound (gObj l l.length) l)) : Ev (fun K => pleatref08_Resolve.l0 K l [] 0) ((rowsL (gObj l l.length) l l.length).map (fun r => r.map cv), 0, 0, 0) := by
 have hlen := hS.len
 have main : ∀ d p : Nat, p + d = l.length → Ev (fun K => pleatref08_Resolve.l0 K l ((rowsL (gObj l l.length) l p).map (fun r => r.map cv)) (p : Int)) ((rowsL (gObj l l.length) l l.length).map (fun r => r.map cv), 0, 0, 0) := by
  intro d
  induction d with
  | zero =>
   intro p hp
   have : p = l.length := by omega
   subst this
   refine Ev.succ ?_
   simp only [pleatref08_first.l0, pleatref08_first.j1, pleatref08_first.l1, pleatref08_first.j3, pleatref08_names.l0, pleatref08_names.l1, pleatref08_names.l2, pleatref08_names.l3, pleatref08_check.l0, pleatref08_check.l1, pleatref08_Resolve.l0, pleatref08_Resolve.l1]
   exact (Ev.iteF (by omega) (Ev.val rfl))
  | succ d ih =>
   intro p hp
   have hlt : p < l.length := by omega
   have hsl := hS.syms p hlt
   have inner : ∀ e q : Nat, q + e = (ob l p).f4.length → Ev (fun K => pleatref08_Resolve.l1 K l ((rowsL (gObj l l.length) l p).map (fun r => r.map cv)) (p : Int) ((rowL (gObj l l.length) (ob l p).f4 (p : Int) q).map cv) (q : Int)) ((rowsL (gObj l l.length) l l.length).map (fun r => r.map cv), 0, 0, 0) := by
    intro e
    induction e with
    | zero =>
     intro q hq
     have hqe : q = (ob l p).f4.length := by omega
     refine Ev.succ ?_
     simp only [pleatref08_first.l0, pleatref08_first.j1, pleatref08_first.l1, pleatref08_first.j3, pleatref08_names.l0, pleatref08_names.l1, pleatref08_names.l2, pleatref08_names.l3, pleatref08_check.l0, pleatref08_check.l1, pleatref08_Resolve.l0, pleatref08_Resolve.l1]
     refine (Ev.iteT (by omega) (Ev.iteT (by omega) (Ev.iteF ?_ (Ev.iteT (by rw [List.length_map, rowsL_length]; omega) ?_))))
     ·
      show ¬ (q : Int) < ((ob l p).f4.length : Int)
      omega
     ·
      simp only [wrapS hlt (show l.length ≤ 1000000000 by omega)]
      have := ih (p + 1) (by omega)
      rw [show (rowsL (gObj l l.length) l (p + 1)).map (fun r => r.map cv) = (rowsL (gObj l l.length) l p).map (fun r => r.map cv) ++ [(rowL (gObj l l.length) (ob l p).f4 (p : Int) q).map cv] by
       rw [hqe]
       show (rowsL (gObj l l.length) l p ++ [_]).map _ = _
       rw [List.map_append]; rfl] at this
      exact this
    | succ e ihe =>
     intro q hq
     have hq' : q < (ob l p).f4.length := by omega
     have hnb : ∀ q', q' < q → ¬ unbound (gObj l l.length) l p q' := fun q' h => hN p hlt q' (by omega)
     obtain ⟨x, hx, hrow⟩ := bound_row (hN p hlt q hq')
     have nxt := ihe (q + 1) (by omega)
     rw [hrow, List.map_append] at nxt
     have hlr : ((rowL (gObj l l.length) (ob l p).f4 (p : Int) q).map cv).length < 8796093022208 := by rw [List.length_map, rowL_length q hnb]; omega
     refine Ev.succ ?_
     simp only [pleatref08_first.l0, pleatref08_first.j1, pleatref08_first.l1, pleatref08_first.j3, pleatref08_names.l0, pleatref08_names.l1, pleatref08_names.l2, pleatref08_names.l3, pleatref08_check.l0, pleatref08_check.l1, pleatref08_Resolve.l0, pleatref08_Resolve.l1]
     refine (Ev.iteT (by omega) (Ev.iteT (by omega) (Ev.iteT ?_ (Ev.iteT (by omega) (Ev.ite2 (fun h1 => ?_) (fun h1 => ?_))))))
     ·
      show (q : Int) < ((ob l p).f4.length : Int)
      omega
     ·
      have h1 : (sy (ob l p).f4 q).f1 = 0 := h1
      unfold symX at hx
      rw [if_pos h1] at hx
      have hx := Option.some.inj hx
      rw [← hx] at nxt
      refine Ev.iteT hlr ?_
      simp only [wrapS hq' (show (ob l p).f4.length ≤ 1000000000 by omega)]
      exact nxt
     ·
      have h1 : ¬ (sy (ob l p).f4 q).f1 = 0 := h1
      unfold symX at hx
      rw [if_neg h1, findR_gObj] at hx
      refine Ev.bind (find8 hS (sy (ob l p).f4 q).f0) (Ev.iteT hlr ?_)
      simp only [wrapS hq' (show (ob l p).f4.length ≤ 1000000000 by omega)]
      split at hx
      ·
       have hx := Option.some.inj hx
       rw [← hx] at nxt
       exact nxt
      ·
       cases hx
   refine Ev.succ ?_
   simp only [pleatref08_first.l0, pleatref08_first.j1, pleatref08_first.l1, pleatref08_first.j3, pleatref08_names.l0, pleatref08_names.l1, pleatref08_names.l2, pleatref08_names.l3, pleatref08_check.l0, pleatref08_check.l1, pleatref08_Resolve.l0, pleatref08_Resolve.l1]
   exact (Ev.iteT (by omega) (inner (ob l p).f4.length 0 (by omega)))
 exact main l.length 0 (by omega)
/-- the two answers are one. -/
theorem resolve8 {l : List ObjT} (hS : Small l) {d : List (List DefT)} {e i n : Int} (h : resolveR l = some (d, e, i, n)) : Ev (fun K => pleatref08_Resolve.f K l) (d.map (fun r => r.map cv), e, i, n) := by
 by_cases c : (l.length : Int) > 32
 ·
  unfold resolveR at h
  rw [if_pos c] at h
  simp only [Option.some.injEq, Prod.mk.injEq] at h
  obtain ⟨rfl, rfl, rfl, rfl⟩ := h
  refine Ev.bind (a := (21, 32, 0)) ?_ (Ev.iteF (by decide) (Ev.val rfl))
  unfold pleatref08_check.f
  exact Ev.iteT c (Ev.val rfl)
 ·
  have hl : l.length ≤ 32 := by omega
  cases hc : chkR l l.length with
  | none => unfold resolveR at h; rw [if_neg c, hc] at h; cases h
  | some o =>
   cases o with
   | some x =>
    unfold resolveR at h
    rw [if_neg c, hc] at h
    obtain ⟨x1, x2, x3⟩ := x
    simp only [Option.some.injEq, Prod.mk.injEq] at h
    obtain ⟨rfl, rfl, rfl, rfl⟩ := h
    refine Ev.bind (check8 hS hl (r := (x1, x2, x3)) (fun y hy => ?_) (fun hy => ?_)) (Ev.iteF (chkR_ne l _ _ hc) (Ev.val rfl))
    ·
     rw [hc] at hy; exact Option.some.inj (Option.some.inj hy)
    ·
     rw [hc] at hy; cases hy
   | none =>
    have hF := fine_of hS hc
    obtain ⟨x, hx, ht⟩ := resolve_told l hl hc
    rw [h] at hx
    have hx := Option.some.inj hx
    refine Ev.bind (check8 hS hl (r := (0, 0, 0)) (fun y hy => ?_) (fun _ => rfl)) (Ev.iteT (by trivial) ?_)
    ·
     rw [hc] at hy; injection hy with hy; cases hy
    ·
     cases ht with
     | two hb =>
      simp only [Prod.mk.injEq] at hx
      obtain ⟨rfl, rfl, rfl, rfl⟩ := hx
      refine Ev.bind (names8 hS (r := (26, _, _)) (fun p q hq => ?_) (fun hn => (first_none hb hn).elim)) (Ev.iteF (show ¬ (26 : Int) = 0 by decide) (Ev.val rfl))
      obtain ⟨rfl, rfl⟩ := first_uniq hb hq
      rfl
     | un h0 hb =>
      simp only [Prod.mk.injEq] at hx
      obtain ⟨rfl, rfl, rfl, rfl⟩ := hx
      have hb' := first_congr (unbound_lost hF) hb
      refine Ev.bind (names8 hS (r := (40, _, _)) (fun p q hq => (first_none hq h0).elim) (fun _ => names8b hS (fun p q hq => ?_) (fun hn => (first_none hb' hn).elim))) (Ev.iteF (show ¬ (40 : Int) = 0 by decide) (Ev.val rfl))
      obtain ⟨rfl, rfl⟩ := first_uniq hb' hq
      rfl
     | ok h0 hn =>
      simp only [Prod.mk.injEq] at hx
      obtain ⟨rfl, rfl, rfl, rfl⟩ := hx
      have hn' := none_congr (unbound_lost hF) hn
      refine Ev.bind (names8 hS (r := (0, 0, 0)) (fun p q hq => (first_none hq h0).elim) (fun _ => names8b hS (fun p q hq => (first_none hq hn').elim) (fun _ => rfl))) (Ev.iteT (by trivial) ?_)
      exact rows8 hS hn
end Go.Proofs.Ytiaohbbafaaibab.P

/- OWN TEXT: two lists of lists of places that calls have made, the first one's rows overwritten: the second stays, and what was made behind it. -/
namespace Go.Proofs.Ytiaohbbafaaibab.P
open Go.RowKit Go.Maps Go.Proofs.YtiaohbbafaaibabW.PrintWords Go.Proofs.YtiaohbbafaaibabW.PrintLast Go.Proofs.YtiaohbbafaaibabW.PrintMore Go.Proofs.Ytiaohbbafaaibab.Arr Go.Proofs.Ytiaohbbafaaibab.MapB Go.Proofs.Ytiaohbbafaaibab.SymM
set_option linter.unusedVariables false
set_option linter.unusedSimpArgs false
def Lens (rows d : List (List DefT)) : Prop := rows.length = d.length ∧ ∀ j : Nat, (rows.getD j []).length = (d.getD j []).length
theorem Lens.refl (d : List (List DefT)) : Lens d d := ⟨rfl, fun _ => rfl⟩
theorem Lens.set {rows d : List (List DefT)} {j : Nat} {row : List DefT} (h : Lens rows d) (hl : row.length = (rows.getD j []).length) : Lens (rows.set j row) d := by
 refine ⟨by rw [List.length_set]; exact h.1, fun q => ?_⟩
 rw [← h.2 q]
 by_cases e : q = j
 ·
  subst e
  by_cases hq : q < rows.length
  ·
   rw [List.getD_eq_getElem?_getD, List.getElem?_set_self hq]
   exact hl
  ·
   rw [List.set_eq_of_length_le (by omega)]
 ·
  rw [List.getD_eq_getElem?_getD, List.getElem?_set_ne (Ne.symm e), ← List.getD_eq_getElem?_getD]
abbrev WantIs (W : World) (lo : Nat) (ok : Nat → Prop) (v : Value) (rows : List (List S57)) : Prop := Kd.S (Kd.slice 57 k57) 88 W lo ok v rows
/-- the first list's rows are `rows`; the second's d; what the document's function made dq. -/
structure Wipe (wa W : World) (nb mb : Nat) (va vb vq : Value) (rows d : List (List DefT)) (dq : List (List S57)) : Prop where
  low : Below wa.heap.size wa W
  a : RowsIs W wa.heap.size (fun k => k < nb) va rows
  b : RowsIs W nb (fun k => nb ≤ k ∧ k < mb) vb d
  q : WantIs W nb (fun k => nb ≤ k ∧ k < mb) vq dq
  le : nb ≤ mb
  sz : mb ≤ W.heap.size
  lo : wa.heap.size ≤ nb
theorem Wipe.below {wa W W1 : World} {nb mb : Nat} {va vb vq : Value} {rows d : List (List DefT)} {dq : List (List S57)} (h : Wipe wa W nb mb va vb vq rows d dq) (hb : Below W.heap.size W W1) : Wipe wa W1 nb mb va vb vq rows d dq :=
 ⟨below_then h.low h.low.size hb, Kd.S_below h.a hb, Kd.S_below h.b hb, Kd.S_below h.q hb, h.le, Nat.le_trans h.sz hb.size, h.lo⟩
theorem Wipe.put {wa W W1 : World} {nb mb g : Nat} {va vb vq : Value} {rows d : List (List DefT)} {dq : List (List S57)} {cs : Array Value} {e : TypeId} (h : Wipe wa W nb mb va vb vq rows d dq) (hp : Put W W1 g cs e) (hg : mb ≤ g) : Wipe wa W1 nb mb va vb vq rows d dq := by
 have h1 := h.le
 have h2 := h.lo
 exact ⟨hp.below h.low (by omega), Kd.S_grown h.a (put_grownN hp) (fun k hk e => by have := Option.some.inj e; omega), Kd.S_grown h.b (put_grownN hp) (fun k hk e => by have := Option.some.inj e; omega), Kd.S_grown h.q (put_grownN hp) (fun k hk e => by have := Option.some.inj e; omega), h.le, by have := h.sz; rw [hp.size]; exact this, h.lo⟩
theorem Wipe.start {wa w3 w4 w5 : World} {va vb vq : Value} {d : List (List DefT)} {dq : List (List S57)} (ha : RowsIs w3 wa.heap.size (fun _ => True) va d) (h3 : Below wa.heap.size wa w3) (hb : RowsIs w4 w3.heap.size (fun _ => True) vb d) (h4 : Below w3.heap.size w3 w4) (hq : WantIs w5 w4.heap.size (fun _ => True) vq dq) (h5 : Below w4.heap.size w4 w5) : Wipe wa w5 w3.heap.size w5.heap.size va vb vq d d dq :=
  ⟨below_then (below_then h3 h3.size h4) (Nat.le_trans h3.size h4.size) h5,
   Kd.S_below (Kd.S_mono (Kd.S_old ha h4) (fun k hk => hk.2)) h5,
   Kd.S_mono (Kd.S_below (Kd.S_bound hb) h5) (fun k hk => ⟨hk.2.1, by have := hk.2.2.1; have := h5.size; omega⟩),
   Kd.S_lower (Kd.S_mono (Kd.S_bound hq) (fun k hk => ⟨by have := hk.2.1; have := h4.size; omega, hk.2.2.1⟩)) h4.size,
   Nat.le_trans h4.size h5.size, Nat.le_refl _, h3.size⟩
/-- row j of the first list; what a store into it leaves. -/
theorem Wipe.row {wa W : World} {nb mb n c j : Nat} {A : Option Addr} {vb vq : Value} {rows d : List (List DefT)} {dq : List (List S57)} (h : Wipe wa W nb mb (.slice A n c) vb vq rows d dq) (hj : j < rows.length) :
  ∃ (ad : Addr) (Aj : Option Addr) (cj : Nat) (oki : Nat → Prop), A = some ad ∧ n = rows.length ∧ W.cell? (ad.add j) = some (.slice Aj (rows.getD j []).length cj) ∧ RowIs W wa.heap.size oki (.slice Aj (rows.getD j []).length cj) (rows.getD j []) ∧
   ∀ w1 row', RowIs w1 wa.heap.size oki (.slice Aj (rows.getD j []).length cj) row' → Below wa.heap.size wa w1 → W.grownBy w1 (Value.slice Aj (rows.getD j []).length cj).ownBlock → Wipe wa w1 nb mb (.slice A n c) vb vq (rows.set j row') d dq := by
 obtain ⟨g, cap, hv, _, _, _⟩ := Kd.S_form h.a (by omega)
 injection hv with e1 e2 e3
 subst e1 e3
 have hn := (Kd.S_reads' h.a).1
 obtain ⟨oki, cs, hcl, hM, hcc, hoki, hback⟩ := Kd.S_borrow h.a [] (j : Int) (by omega) (by omega)
 rw [show ((j : Int)).toNat = j by omega] at hM hcc
 obtain ⟨vi, rfl, hR⟩ := hM
 obtain ⟨Aj, cj, ev⟩ := Kd.R_slice hR
 subst ev
 refine ⟨⟨g, 0, none⟩, Aj, cj, oki, rfl, hn, ?_, hR, ?_⟩
 ·
  have h0 := hcc 0 _ rfl
  simp only [show (Kd.slice 54 k54).sz = 1 from rfl, Nat.mul_one, Nat.add_zero] at h0
  exact h0
 ·
  intro w1 row' hR' hb hg
  have hS := hback hg (fun k hk => hR.1 k hk) (x' := row') ⟨_, rfl, hR'⟩
  rw [show ((j : Int)).toNat = j by omega] at hS
  have hlt : ∀ k, some k = (Value.slice Aj (rows.getD j []).length cj).ownBlock → k < nb := fun k e => (hoki k (hR.1 k e.symm)).1
  exact ⟨hb, hS, Kd.S_grown h.b hg (fun k hk e => by have := hlt k e; omega), Kd.S_grown h.q hg (fun k hk e => by have := hlt k e; omega), h.le, Nat.le_trans h.sz hg.size, h.lo⟩
end Go.Proofs.Ytiaohbbafaaibab.P

/- OWN TEXT: lists of their own with marks behind them: what is behind such a list, and that it is filled round by round. -/
namespace Go.Proofs.Ytiaohbbafaaibab.P
open Go.RowKit Go.Proofs.YtiaohbbafaaibabW.PrintWords Go.Proofs.YtiaohbbafaaibabW.PrintLast Go.Proofs.YtiaohbbafaaibabW.PrintMore
set_option linter.unusedVariables false
set_option linter.unusedSimpArgs false

def markN (i : Nat) : Int := 9437185 + (i : Int)
def marksL {α : Type} (mk : Nat → α) (n : Nat) : List α := (List.range 64).map fun j => mk (n + j)
theorem marksL_length {α : Type} (mk : Nat → α) (n : Nat) : (marksL mk n).length = 64 := by simp [marksL]
theorem marksL_at {α : Type} (mk : Nat → α) (n j : Nat) (h : j < 64) : (marksL mk n)[j]? = some (mk (n + j)) := by simp [marksL, h]
/-- filled up to i: so far as the list with its marks. -/
structure FillW {α : Type} (l : List α) (mk : Nat → α) (x : List α) (i : Int) : Prop where
  len : x.length = l.length + 64
  lo : 0 ≤ i
  big : l.length ≤ 1000000000000000
  same : ∀ j : Nat, (j : Int) < i → x[j]? = (l ++ marksL mk l.length)[j]?
theorem FillW.start {α : Type} {l : List α} {mk : Nat → α} {z : α} {x : List α} {j : Int} (hl : l.length ≤ 9223372036854775807) (hj : wrap64 ((l.length : Int) + 64) = j) (h0 : decide (0 ≤ j) = true) (h1 : decide (j.toNat ≤ 1000000000000000) = true) (hx : x = List.replicate j.toNat z) : FillW l mk x 0 := by
 have h0 := of_decide_eq_true h0
 have h1 := of_decide_eq_true h1
 have e : j = (l.length : Int) + 64 := by
  unfold wrap64 at hj
  omega
 exact ⟨by rw [hx, List.length_replicate]; omega, Int.le_refl _, by omega, fun j hj => by omega⟩
theorem FillW.copy {α : Type} {l : List α} {mk : Nat → α} {x y : List α} {i : Int} {v : α} (h : FillW l mk x i) (h0 : decide (i < (l.length : Int)) = true) (hv : l[i.toNat]? = some v) (hy : y = x.set i.toNat v) : FillW l mk y (wrap64 (i + 1)) := by
 have h0 := of_decide_eq_true h0
 have hb := h.big
 have hlo := h.lo
 have e : wrap64 (i + 1) = i + 1 := by unfold wrap64; omega
 refine ⟨by rw [hy, List.length_set, h.len], by omega, h.big, fun j hj => ?_⟩
 rw [e] at hj
 rw [hy]
 by_cases c : j = i.toNat
 ·
  subst c
  rw [List.getElem?_set_self (by rw [h.len]; omega), List.getElem?_append_left (by omega), hv]
 ·
  rw [List.getElem?_set_ne (by omega), h.same j (by omega)]
theorem FillW.mark {α : Type} {l : List α} {mk : Nat → α} {x y : List α} {i : Int} {v : α} (h : FillW l mk x i) (h0 : decide (i < (l.length : Int)) = false) (h1 : decide (i < (x.length : Int)) = true) (hv : mk i.toNat = v) (hy : y = x.set i.toNat v) : FillW l mk y (wrap64 (i + 1)) := by
 have h0 := of_decide_eq_false h0
 have h1 := of_decide_eq_true h1
 have hlen := h.len
 have hb := h.big
 have hlo := h.lo
 have e : wrap64 (i + 1) = i + 1 := by unfold wrap64; omega
 refine ⟨by rw [hy, List.length_set, h.len], by omega, h.big, fun j hj => ?_⟩
 rw [e] at hj
 rw [hy]
 by_cases c : j = i.toNat
 ·
  subst c
  rw [List.getElem?_set_self (by rw [h.len]; omega), List.getElem?_append_right (by omega), marksL_at _ _ _ (by omega), ← hv]
  congr 2
  omega
 ·
  rw [List.getElem?_set_ne (by omega), h.same j (by omega)]
theorem FillW.done {α : Type} {l : List α} {mk : Nat → α} {x : List α} {i : Int} (h : FillW l mk x i) (h1 : decide (i < (x.length : Int)) = false) : x = l ++ marksL mk l.length := by
 have h1 := of_decide_eq_false h1
 have hlen := h.len
 apply List.ext_getElem?
 intro j
 by_cases c : (j : Int) < i
 ·
  exact h.same j c
 ·
  rw [List.getElem?_eq_none (by omega), List.getElem?_eq_none (by rw [List.length_append, marksL_length]; omega)]
theorem FillW.lt {α : Type} {l : List α} {mk : Nat → α} {x : List α} {i : Int} (h : FillW l mk x i) : l.length ≤ 1000000000000000 := h.big
/-- a list of its own, with its marks behind it in the same memory. -/
def WideC {α : Type} (d : Kd α) (e : Nat) (W : World) (base : Nat) (v : Value) (l : List α) (mk : Nat → α) : Prop :=
 ∃ A c, v = .slice A l.length c ∧ Kd.R d e W base (fun _ => True) (.slice A (l.length + 64) c) (l ++ marksL mk l.length)
theorem WideC.of {α : Type} {d : Kd α} {e : Nat} {W : World} {base : Nat} {A : Option Addr} {c n m : Nat} {x l : List α} {mk : Nat → α} (hR : Kd.R d e W base (fun _ => True) (.slice A n c) x) (hn : n = x.length) (hx : x = l ++ marksL mk l.length) (hm : m = l.length) : WideC d e W base (.slice A m c) l mk := by
 subst hx
 rw [List.length_append, marksL_length] at hn
 subst hn
 exact ⟨A, c, by rw [hm], hR⟩
theorem WideC.below {α : Type} {d : Kd α} {e : Nat} {W W1 : World} {base : Nat} {v : Value} {l : List α} {mk : Nat → α} (h : WideC d e W base v l mk) (hb : Below W.heap.size W W1) : WideC d e W1 base v l mk := by
 obtain ⟨A, c, h1, h2⟩ := h
 exact ⟨A, c, h1, Kd.R_below h2 hb⟩
theorem WideC.lower {α : Type} {d : Kd α} {e : Nat} {W : World} {base base' : Nat} {v : Value} {l : List α} {mk : Nat → α} (h : WideC d e W base v l mk) (hb : base' ≤ base) : WideC d e W base' v l mk := by
 obtain ⟨A, c, h1, h2⟩ := h
 exact ⟨A, c, h1, Kd.R_lower h2 hb⟩
/-- what is cut off a list may be longer than the list, as far as its memory goes. -/
theorem cut_wide {P : Program} (t e : TypeId) (kh : IntKind) {i : TypeInfo} (ht : P.underlying t = some (.slice e)) (hi : P.info? e = some i) (A : Option Addr) (n c : Nat) (j : Int) (h0 : 0 ≤ j) (hm : j ≤ c) :
  ∀ W : World, (Instr.slice t (.slice A n c) none (some (.int kh j)) none).run P W = .ok (.slice A j.toNat c) W := by
 intro W
 have hel : P.elem t = e := by simp [Program.elem, ht]
 have hu : P.underlying t = some (.slice (P.elem t)) := by rw [hel]; exact ht
 have ha : (A.map fun x => x.add 0) = A := by cases A <;> simp [Addr.add]
 rw [run_slice_h W t A n c hu kh j h0 (by omega), hel]
 simp [sizeOf, typeInfo, hi, sliced, Result.andThen, ha]
end Go.Proofs.Ytiaohbbafaaibab.P

/- What the Go functions named below come to, as plain functions, each with its proof; written by this session's prt.py over the kit's print. -/
namespace Go.Proofs.Ytiaohbbafaaibab.P
open Go.RowKit Go.Proofs.YtiaohbbafaaibabW.PrintWords Go.Proofs.YtiaohbbafaaibabW.PrintLast Go.Proofs.YtiaohbbafaaibabW.PrintMore
attribute [local go_sem] max2_int min2_int max_two min_two max_three min_three max_four min_four   -- for this text's walks alone
set_option linter.unusedVariables false
set_option linter.unusedSimpArgs false

theorem eqA54 (d : Nat) (w : World) (x0 y0 : Int) (x1 y1 : Int) :
    (Op.equalIn (d + 2) 54 (.agg #[.int .i64 x0, .int .i64 x1]) (.agg #[.int .i64 y0, .int .i64 y1])).run Try.prog w = .ok (x0 == y0 && (x1 == y1)) w := by
  refine eqA_of Try.underlying54 (by kernel_rfl) ?_
  refine eqf_cons (by rfl) (by go_simp; rfl) (by go_simp; rfl) (by go_simp) ?_
  exact eqf_last (by rfl) (by go_simp; rfl) (by go_simp; rfl) (by go_simp)
end Go.Proofs.Ytiaohbbafaaibab.P

/- OWN TEXT: symbol.Resolve, walked: the objects' own checks and names, the names gathered, each symbol bound. -/
namespace Go.Proofs.Ytiaohbbafaaibab.P
open Go.RowKit Go.Maps Go.Proofs.YtiaohbbafaaibabW.PrintWords Go.Proofs.YtiaohbbafaaibabW.PrintLast Go.Proofs.YtiaohbbafaaibabW.PrintMore Go.Proofs.Ytiaohbbafaaibab.Arr Go.Proofs.Ytiaohbbafaaibab.MapB Go.Proofs.Ytiaohbbafaaibab.SymM
set_option linter.unusedVariables false
set_option linter.unusedSimpArgs false
theorem chk_named {nm : ByteArray} {code : List Int} {dat : Int} {data : List Int} {syms : List Sym} {rels : List Rel} {n : Int} (h : object_Check.f nm code dat data syms rels = some (0, n)) : nameS nm = true := by
 unfold object_Check.f at h
 split at h
 ·
  have h := Option.some.inj h
  unfold chkO at h
  cases hn : nameS nm with
  | true => rfl
  | false =>
   have : sizeS nm code dat data syms.length rels.length = (20, -1) := by unfold sizeS; rw [hn, if_neg (by decide)]
   rw [this, if_neg (by decide)] at h
   injection h with h
   exact absurd h (by decide)
 ·
  cases h
theorem results_tmp4 {fn : Func} {t u v x : Tmp} (h : fn.results = #[.tmp t, .tmp u, .tmp v, .tmp x]) (tmps : Array Value) (P : Program) (w : World) :
  (results fn tmps).run P w = .ok (.tuple #[tmps.getD t undef, tmps.getD u undef, tmps.getD v undef, tmps.getD x undef]) w := by
 simp [results, h]
theorem info_def : (Try.prog.info? 54).map (fun i => (i.zero, i.size, i.bytes)) = some (some (.agg #[.int .i64 0, .int .i64 0]), 2, 16) := by kernel_rfl
theorem info_row : (Try.prog.info? 61).map (fun i => (i.zero, i.size, i.bytes)) = some (some (.slice none 0 0), 1, 24) := by kernel_rfl
set_option maxHeartbeats 8000000 in
set_option maxRecDepth 100000 in
theorem symRes.calls (A0 : Option Addr) (c0 : Nat) (l0 : List ObjT) (w : World) (d : List (List DefT)) (r2 r3 r4 : Int) (hr0 : Kd.C k27 w A0 l0.length l0) (hsy : ∀ i, i < l0.length → (ob l0 i).f4.length ≤ 1000000000) (h : resolveR l0 = some (d, r2, r3, r4)) :
  Calls Try.prog 16 #[.slice A0 l0.length c0] w fun e w' => ∃ v0_ : Value, e = .returned (.tuple #[v0_, .int .i64 r2, .int .i64 r3, .int .i64 r4]) ∧ RowsIs w' w.heap.size (fun _ => True) v0_ d ∧ Below w.heap.size w w' := by
 have hu1 := Try.underlying37
 have hu2 := Try.underlying27
 have hu3 := Try.underlying54
 have hu4 := Try.underlying80
 have HR := Aside0.mk hr0
 have HSY := Aside0.mk hsy
 clear hr0 hsy
 unfold resolveR at h
 by_cases c : (l0.length : Int) > 32
 ·
  rw [if_pos c] at h
  simp only [Option.some.injEq, Prod.mk.injEq] at h
  obtain ⟨rfl, rfl, rfl, rfl⟩ := h
  have cb : decide ((l0.length : Int) > 32) = true := decide_eq_true c
  clear c
  go_enter Try.func16, Try.ntmps16
  go_wp2_with (first | ((with_reducible refine gate_dst (N := 1) rfl ?_); refine box_event ?hg (N := 1) ?hd (cs := #[.slice A0 l0.length c0]) (t := 44) ?hr ?_; (case hd => rfl); (case hg => rfl); (case hr => first | (go_simp; done) | (go_simp; rfl)); intro gl hgl w1 BK1 hb1; have BL := Aside0.mk BK1; have hcl : w1.cell? ⟨gl, 0, none⟩ = some (.slice A0 l0.length c0) := (blk_cell BK1 0).trans rfl; have GL := Aside0.mk (show w.heap.size ≤ gl by rw [hgl]; exact Nat.le_refl _); have HB := Aside0.mk hb1; clear BK1 hb1 hgl))
  go_step3
  go_wp2
  (try rw [Exit.noGoto_ret])
  (try simp only [Exit.inBlock, Exit.then])
  refine bodyPost_ret (results_tmp4 rfl _ _ _) rfl ?_
  exact ⟨_, rfl, Kd.S_nil _ _ _ _ _, HB.out⟩
 ·
  rw [if_neg c] at h
  have HN := Aside0.mk (show chkR l0 l0.length ≠ none from fun e => by rw [e] at h; cases h)
  have HH := Aside0.mk h
  have H32 := Aside0.mk (show l0.length ≤ 32 by omega)
  have cb : decide ((l0.length : Int) > 32) = false := decide_eq_false c
  clear c h
  go_enter Try.func16, Try.ntmps16
  go_wp2_with (first | ((with_reducible refine gate_dst (N := 1) rfl ?_); refine box_event ?hg (N := 1) ?hd (cs := #[.slice A0 l0.length c0]) (t := 44) ?hr ?_; (case hd => rfl); (case hg => rfl); (case hr => first | (go_simp; done) | (go_simp; rfl)); intro gl hgl w1 BK1 hb1; have BL := Aside0.mk BK1; have hcl : w1.cell? ⟨gl, 0, none⟩ = some (.slice A0 l0.length c0) := (blk_cell BK1 0).trans rfl; have GL := Aside0.mk (show w.heap.size ≤ gl by rw [hgl]; exact Nat.le_refl _); have HB := Aside0.mk hb1; clear BK1 hb1 hgl))
  go_step3
  go_wp2_with (first | ((with_reducible refine gate_dst (N := 22) rfl ?_); refine wpList_make_map (P := Try.prog) (k := 9) (e := 4) (t := 79) ?hg (N := 22) ?hd ?ho ?hr ?_; (case hd => rfl); (case hg => rfl); (case ho => rfl); (case hr => first | (go_simp; done) | (go_simp; rfl)); intro b hgb w2 hs0 hb; have HO := Aside0.mk (show R1 w w2 gl b 0 (lCell A0 l0.length c0) (fun _ => false) from ⟨below_then HB.out HB.out.size hb, blk_below BL.out hb, hs0, by rw [hgb]; exact Nat.ne_of_lt (blk_lt BL.out), GL.out, by rw [hgb]; exact HB.out.size⟩); clear HB BL GL hcl hs0 hb hgb; have hcl : w2.cell? ⟨gl, 0, none⟩ = some (.slice A0 l0.length c0) := (blk_cell HO.out.hl 0).trans rfl))
  go_loopw [3, 25] (fun u3 u25 wr => u3 = .int .i64 0 ∧ ∃ i : Nat, u25 = .int .i64 (i : Int) ∧ i ≤ l0.length ∧ Aside0 (chkR l0 i = some none) ∧ Aside0 (R1 w wr gl b i (lCell A0 l0.length c0) (objSeen l0 i))) (fun u3 u25 _ => l0.length - (intOf u25).toNat)
  case atStart => exact ⟨rfl, 0, rfl, Nat.zero_le _, ⟨rfl⟩, HO⟩
  case round =>
   clear HO hcl
   obtain ⟨rfl, i, rfl, hile, HF, HO⟩ := hrel
   by_cases hlt : i < l0.length
   ·
    obtain ⟨e, n, hck, hways⟩ := chkR_round l0 i hlt HF.out HN.out
    have p0 : (0 : Int) ≤ (i : Int) := by omega
    have q0 : (i : Int) < (l0.length : Int) := by omega
    obtain ⟨ad, A1, c1, A3, c3, A4, c4, A5, c5, eA, hx0, hx1, hx2, hx3, hx4, hx5, hL1, hC1, hL3, hC3, hL4, hC4, hL5, hC5⟩ := at_T27 HR.out (i : Int) p0 q0
    subst eA
    rw [show ((i : Int)).toNat = i by omega] at hx0 hx1 hx2 hx3 hx4 hx5
    rw [show rd_T27 l0 (i : Int) = ob l0 i from rfl] at hx0 hx1 hx2 hx3 hx4 hx5 hL1 hC1 hL3 hC3 hL4 hC4 hL5 hC5
    have hy0 := pw_cell_below HO.out.low hx0
    have hy1 := pw_cell_below HO.out.low hx1
    have hy2 := pw_cell_below HO.out.low hx2
    have hy3 := pw_cell_below HO.out.low hx3
    have hy4 := pw_cell_below HO.out.low hx4
    have hy5 := pw_cell_below HO.out.low hx5
    clear hx0 hx1 hx2 hx3 hx4 hx5
    have hos : objSeen l0 (i + 1) = addS (objSeen l0 i) (keyN (ob l0 i).f0) := rfl
    obtain ⟨x, hx⟩ : ∃ x, ob l0 i = x := ⟨_, rfl⟩
    rw [hx] at hy0 hy1 hy2 hy3 hy4 hy5 hL1 hC1 hL3 hC3 hL4 hC4 hL5 hC5 hck hways hos
    obtain ⟨x0, x1, x2, x3, x4, x5⟩ := x
    simp only at hy0 hy1 hy2 hy3 hy4 hy5 hL1 hC1 hL3 hC3 hL4 hC4 hL5 hC5 hck hways hos
    clear hx
    have HOS := Aside0.mk hos
    have HCK := Aside0.mk hck
    have C1 := Aside0.mk (And.intro hL1 hC1)
    have C3 := Aside0.mk (And.intro hL3 hC3)
    have C4 := Aside0.mk (And.intro hL4 hC4)
    have C5 := Aside0.mk (And.intro hL5 hC5)
    clear hos hck hL1 hC1 hL3 hC3 hL4 hC4 hL5 hC5
    have HLT := Aside0.mk hlt
    have hltb : decide ((i : Int) < (l0.length : Int)) = true := decide_eq_true (by omega)
    have HWR := Aside0.mk (show wrap64 ((i : Int) + 1) = ((i + 1 : Nat) : Int) by rw [wrap64_id (by have := H32.out; omega) (by have := H32.out; omega)]; rfl)
    replace p0 := eq_true p0
    replace q0 := eq_true q0
    rcases hways with ⟨he, hfin⟩ | ⟨he, hm, hfin⟩ | ⟨he, hm, hnext⟩
    ·
     have cne : (e != 0) = true := bne_iff_ne.mpr he
     clear he
     have h := HH.out
     rw [hfin] at h
     simp only [Option.some.injEq, Prod.mk.injEq] at h
     obtain ⟨rfl, rfl, rfl, rfl⟩ := h
     clear hfin
     clear HH
     go_wp2_with (first | ((with_reducible refine gate_dst (N := 8) rfl ?_); refine box_event ?hg (N := 8) ?hd (cs := #[.string (⟨#[]⟩ : ByteArray), .slice none 0 0, .int .i64 0, .slice none 0 0, .slice none 0 0, .slice none 0 0]) (t := 27) ?hr ?_; (case hd => rfl); (case hg => rfl); (case hr => first | (go_simp; done) | (go_simp; rfl)); intro go hgo w3 BK3 hb3; have BO := Aside0.mk BK3; have GO := Aside0.mk (show w.heap.size ≤ go by rw [hgo]; exact HO.out.low.size); have NO := Aside0.mk (show gl < go ∧ b < go by rw [hgo]; exact ⟨blk_lt HO.out.hl, HO.out.seen.lt⟩); have HOn := Aside0.mk (HO.out.below hb3); clear HO BK3 hb3 hgo; have HO := HOn; clear HOn) | ((with_reducible refine gate_store (t := 27) rfl ?_); refine wpList_store_whole rfl rfl rfl go _ #[.string x0, .slice A1 x1.length c1, .int .i64 x2, .slice A3 x3.length c3, .slice A4 x4.length c4, .slice A5 x5.length c5] _ rfl rfl BO.out (by kernel_rfl) rfl (obj_oneS _ _ _ _ _ _ _ _ _ _ _ _ _ _) ?_; intro w4 hp; have HOn := Aside0.mk (HO.out.put hp GO.out (by have := NO.out; omega) (by have := NO.out; omega)); have BOn := Aside0.mk hp.blk; clear HO BO hp; have HO := HOn; have BO := BOn; clear HOn BOn; have ho0 := blk_cell BO.out 0; have ho1 := blk_cell BO.out 1; have ho2 := blk_cell BO.out 2; have ho3 := blk_cell BO.out 3; have ho4 := blk_cell BO.out 4; have ho5 := blk_cell BO.out 5) | (go_at_call 8; refine (object_Check.calls x0 A1 c1 x1 x2 A3 c3 x3 A4 c4 x4 A5 c5 x5 e n _ (Kd.C_below C1.out.2 HO.out.low) C1.out.1 (Kd.C_below C3.out.2 HO.out.low) C3.out.1 (Kd.C_below C4.out.2 HO.out.low) C4.out.1 (Kd.C_below C5.out.2 HO.out.low) C5.out.1 HCK.out).mono ?_; rintro e_ w7 ⟨rfl, hb⟩; have HOn := Aside0.mk (HO.out.below hb); have BOn := Aside0.mk (blk_below BO.out hb); clear HO BO hb ho0 ho1 ho2 ho3 ho4 ho5; have HO := HOn; have BO := BOn; clear HOn BOn; have ho0 := blk_cell BO.out 0; have ho1 := blk_cell BO.out 1; have ho2 := blk_cell BO.out 2; have ho3 := blk_cell BO.out 3; have ho4 := blk_cell BO.out 4; have ho5 := blk_cell BO.out 5))
     (try rw [Exit.noGoto_ret])
     (try simp only [Exit.inBlock, Exit.then])
     refine bodyPost_ret (results_tmp4 rfl _ _ _) rfl ?_
     exact ⟨_, rfl, Kd.S_nil _ _ _ _ _, HO.out.low⟩
    ·
     subst he
     have HM := Aside0.mk hm
     clear hm
     have h := HH.out
     rw [hfin] at h
     simp only [Option.some.injEq, Prod.mk.injEq] at h
     obtain ⟨rfl, rfl, rfl, rfl⟩ := h
     clear hfin
     clear HH
     have HKY := Aside0.mk (show keyOf Try.prog 9 (.string x0) = some (keyN x0) from Go.WideMaps.keyOf_string_mk Try.underlying9 (by have := nameS_len (chk_named HCK.out); unfold maxLen; omega))
     go_wp2_with (first | ((with_reducible refine gate_dst (N := 8) rfl ?_); refine box_event ?hg (N := 8) ?hd (cs := #[.string (⟨#[]⟩ : ByteArray), .slice none 0 0, .int .i64 0, .slice none 0 0, .slice none 0 0, .slice none 0 0]) (t := 27) ?hr ?_; (case hd => rfl); (case hg => rfl); (case hr => first | (go_simp; done) | (go_simp; rfl)); intro go hgo w3 BK3 hb3; have BO := Aside0.mk BK3; have GO := Aside0.mk (show w.heap.size ≤ go by rw [hgo]; exact HO.out.low.size); have NO := Aside0.mk (show gl < go ∧ b < go by rw [hgo]; exact ⟨blk_lt HO.out.hl, HO.out.seen.lt⟩); have HOn := Aside0.mk (HO.out.below hb3); clear HO BK3 hb3 hgo; have HO := HOn; clear HOn) | ((with_reducible refine gate_store (t := 27) rfl ?_); refine wpList_store_whole rfl rfl rfl go _ #[.string x0, .slice A1 x1.length c1, .int .i64 x2, .slice A3 x3.length c3, .slice A4 x4.length c4, .slice A5 x5.length c5] _ rfl rfl BO.out (by kernel_rfl) rfl (obj_oneS _ _ _ _ _ _ _ _ _ _ _ _ _ _) ?_; intro w4 hp; have HOn := Aside0.mk (HO.out.put hp GO.out (by have := NO.out; omega) (by have := NO.out; omega)); have BOn := Aside0.mk hp.blk; clear HO BO hp; have HO := HOn; have BO := BOn; clear HOn BOn; have ho0 := blk_cell BO.out 0; have ho1 := blk_cell BO.out 1; have ho2 := blk_cell BO.out 2; have ho3 := blk_cell BO.out 3; have ho4 := blk_cell BO.out 4; have ho5 := blk_cell BO.out 5) | (go_at_call 8; refine (object_Check.calls x0 A1 c1 x1 x2 A3 c3 x3 A4 c4 x4 A5 c5 x5 0 n _ (Kd.C_below C1.out.2 HO.out.low) C1.out.1 (Kd.C_below C3.out.2 HO.out.low) C3.out.1 (Kd.C_below C4.out.2 HO.out.low) C4.out.1 (Kd.C_below C5.out.2 HO.out.low) C5.out.1 HCK.out).mono ?_; rintro e_ w7 ⟨rfl, hb⟩; have HOn := Aside0.mk (HO.out.below hb); have BOn := Aside0.mk (blk_below BO.out hb); clear HO BO hb ho0 ho1 ho2 ho3 ho4 ho5; have HO := HOn; have BO := BOn; clear HOn BOn; have ho0 := blk_cell BO.out 0; have ho1 := blk_cell BO.out 1; have ho2 := blk_cell BO.out 2; have ho3 := blk_cell BO.out 3; have ho4 := blk_cell BO.out 4; have ho5 := blk_cell BO.out 5) | (at_lookup; refine wpList_lookup_seen rfl _ _ 79 rfl 9 4 lawN Try.underlying79 Try.underlying4 (zeroBN _) b _ _ rfl HO.out.seen _ _ rfl HKY.out trivial ?_; rw [HM.out]))
     (try rw [Exit.noGoto_ret])
     (try simp only [Exit.inBlock, Exit.then])
     refine bodyPost_ret (results_tmp4 rfl _ _ _) rfl ?_
     exact ⟨_, rfl, Kd.S_nil _ _ _ _ _, HO.out.low⟩
    ·
     subst he
     have HM := Aside0.mk hm
     have HNX := Aside0.mk hnext
     clear hm hnext
     have HKY := Aside0.mk (show keyOf Try.prog 9 (.string x0) = some (keyN x0) from Go.WideMaps.keyOf_string_mk Try.underlying9 (by have := nameS_len (chk_named HCK.out); unfold maxLen; omega))
     go_wp2_with (first | ((with_reducible refine gate_dst (N := 8) rfl ?_); refine box_event ?hg (N := 8) ?hd (cs := #[.string (⟨#[]⟩ : ByteArray), .slice none 0 0, .int .i64 0, .slice none 0 0, .slice none 0 0, .slice none 0 0]) (t := 27) ?hr ?_; (case hd => rfl); (case hg => rfl); (case hr => first | (go_simp; done) | (go_simp; rfl)); intro go hgo w3 BK3 hb3; have BO := Aside0.mk BK3; have GO := Aside0.mk (show w.heap.size ≤ go by rw [hgo]; exact HO.out.low.size); have NO := Aside0.mk (show gl < go ∧ b < go by rw [hgo]; exact ⟨blk_lt HO.out.hl, HO.out.seen.lt⟩); have HOn := Aside0.mk (HO.out.below hb3); clear HO BK3 hb3 hgo; have HO := HOn; clear HOn) | ((with_reducible refine gate_store (t := 27) rfl ?_); refine wpList_store_whole rfl rfl rfl go _ #[.string x0, .slice A1 x1.length c1, .int .i64 x2, .slice A3 x3.length c3, .slice A4 x4.length c4, .slice A5 x5.length c5] _ rfl rfl BO.out (by kernel_rfl) rfl (obj_oneS _ _ _ _ _ _ _ _ _ _ _ _ _ _) ?_; intro w4 hp; have HOn := Aside0.mk (HO.out.put hp GO.out (by have := NO.out; omega) (by have := NO.out; omega)); have BOn := Aside0.mk hp.blk; clear HO BO hp; have HO := HOn; have BO := BOn; clear HOn BOn; have ho0 := blk_cell BO.out 0; have ho1 := blk_cell BO.out 1; have ho2 := blk_cell BO.out 2; have ho3 := blk_cell BO.out 3; have ho4 := blk_cell BO.out 4; have ho5 := blk_cell BO.out 5) | (go_at_call 8; refine (object_Check.calls x0 A1 c1 x1 x2 A3 c3 x3 A4 c4 x4 A5 c5 x5 0 n _ (Kd.C_below C1.out.2 HO.out.low) C1.out.1 (Kd.C_below C3.out.2 HO.out.low) C3.out.1 (Kd.C_below C4.out.2 HO.out.low) C4.out.1 (Kd.C_below C5.out.2 HO.out.low) C5.out.1 HCK.out).mono ?_; rintro e_ w7 ⟨rfl, hb⟩; have HOn := Aside0.mk (HO.out.below hb); have BOn := Aside0.mk (blk_below BO.out hb); clear HO BO hb ho0 ho1 ho2 ho3 ho4 ho5; have HO := HOn; have BO := BOn; clear HOn BOn; have ho0 := blk_cell BO.out 0; have ho1 := blk_cell BO.out 1; have ho2 := blk_cell BO.out 2; have ho3 := blk_cell BO.out 3; have ho4 := blk_cell BO.out 4; have ho5 := blk_cell BO.out 5) | (at_lookup; refine wpList_lookup_seen rfl _ _ 79 rfl 9 4 lawN Try.underlying79 Try.underlying4 (zeroBN _) b _ _ rfl HO.out.seen _ _ rfl HKY.out trivial ?_; rw [HM.out]) | (at_mapUpdate; refine wpList_update_seen rfl _ _ _ 79 rfl 9 4 lawN Try.underlying79 Try.underlying4 b _ _ rfl HO.out.seen (by have := H32.out; have := HLT.out; unfold maxLen; omega) _ _ rfl rfl HKY.out trivial ?_; intro w8 hs8 hg8; have HOn := Aside0.mk (HO.out.add hg8 hs8); clear HO hs8 hg8; have HO := HOn; clear HOn))
     go_roundw
     case measure => have hq := HLT.out; (try rw [HWR.out]); simp only [intOf]; omega
     case rel => exact ⟨rfl, i + 1, by first | rfl | (rw [HWR.out]; done), by have := HLT.out; omega, HNX, ⟨by rw [HOS.out]; exact HO.out⟩⟩
   ·
    have hi0 : i = l0.length := by omega
    subst hi0
    have h := HH.out
    rw [HF.out] at h
    simp only at h
    clear HH
    have HH := Aside0.mk h
    clear h HF HN hlt hile
    have hltb : decide ((l0.length : Int) < (l0.length : Int)) = false := by simp
    have hcl : wr.cell? ⟨gl, 0, none⟩ = some (.slice A0 l0.length c0) := (blk_cell HO.out.hl 0).trans rfl
    obtain ⟨at_, hat_⟩ : ∃ at_, aObj l0 l0.length = at_ := ⟨_, rfl⟩
    have h := HH.out
    rw [hat_] at h
    clear HH
    have HAT := Aside0.mk hat_
    clear hat_
    obtain ⟨a0, a1⟩ := at_
    simp only at h
    by_cases ca : 0 ≤ a0
    ·
     have cab : decide (a0 ≥ 0) = true := decide_eq_true ca
     rw [if_pos ca] at h
     simp only [Option.some.injEq, Prod.mk.injEq] at h
     obtain ⟨rfl, rfl, rfl, rfl⟩ := h
     clear ca
     go_wp2_with (first | ((with_reducible refine gate_dst (N := 11) rfl ?_); refine box_event ?hg (N := 11) ?hd (cs := #[.int .i64 0, .int .i64 0]) (t := 80) ?hr ?_; (case hd => rfl); (case hg => rfl); (case hr => first | (go_simp; done) | (go_simp; rfl)); intro ga hga w9 BK9 hb9; have BA := Aside0.mk BK9; have GA := Aside0.mk (show w.heap.size ≤ ga by rw [hga]; exact HO.out.low.size); have NA := Aside0.mk (show gl < ga ∧ b < ga by rw [hga]; exact ⟨blk_lt HO.out.hl, HO.out.seen.lt⟩); have HOn := Aside0.mk (HO.out.below hb9); clear HO BK9 hb9 hga hcl; have HO := HOn; clear HOn; have hcl : w9.cell? ⟨gl, 0, none⟩ = some (.slice A0 l0.length c0) := (blk_cell HO.out.hl 0).trans rfl) | ((with_reducible refine gate_store (t := 80) rfl ?_); refine wpList_store_whole rfl rfl rfl ga _ #[.int .i64 (-1), .int .i64 (-1)] _ rfl rfl BA.out (by kernel_rfl) rfl (at_one _ _) ?_; intro w10 hp; have HOn := Aside0.mk (HO.out.put hp GA.out (by have := NA.out; omega) (by have := NA.out; omega)); have BAn := Aside0.mk (show w10.heap[ga]? = some (atCell (-1) (-1)) from hp.blk); clear HO BA hp hcl; have HO := HOn; have BA := BAn; clear HOn BAn; have hcl : w10.cell? ⟨gl, 0, none⟩ = some (.slice A0 l0.length c0) := (blk_cell HO.out.hl 0).trans rfl) | (go_at_call 40; refine (gatherB.calls w ga gl A0 c0 l0 _ HR.out HO.out.low BA.out HO.out.hl GA.out (by have := NA.out; omega) (by have := H32.out; omega) HSY.out).mono ?_; rintro e_ w11 ⟨bm, rfl, hgb⟩; rw [HAT.out] at hgb; have HG := Aside0.mk hgb; clear HO BA hgb hcl; have hcl : w11.cell? ⟨gl, 0, none⟩ = some (.slice A0 l0.length c0) := (blk_cell HG.out.hl 0).trans rfl; have hat0 := blk_cell HG.out.hat 0; have hat1 := blk_cell HG.out.hat 1))
     repeat (go_quiet (fail); try go_wp2)
     (try rw [Exit.noGoto_ret])
     (try simp only [Exit.inBlock, Exit.then])
     refine bodyPost_ret (results_tmp4 rfl _ _ _) rfl ?_
     exact ⟨_, rfl, Kd.S_nil _ _ _ _ _, pw_below_drewN HG.out.low _⟩
    ·
     have cab : decide (a0 ≥ 0) = false := decide_eq_false ca
     rw [if_neg ca] at h
     have HH := Aside0.mk h
     have HCA := Aside0.mk ca
     clear h ca
     go_wp2_with (first | ((with_reducible refine gate_dst (N := 11) rfl ?_); refine box_event ?hg (N := 11) ?hd (cs := #[.int .i64 0, .int .i64 0]) (t := 80) ?hr ?_; (case hd => rfl); (case hg => rfl); (case hr => first | (go_simp; done) | (go_simp; rfl)); intro ga hga w9 BK9 hb9; have BA := Aside0.mk BK9; have GA := Aside0.mk (show w.heap.size ≤ ga by rw [hga]; exact HO.out.low.size); have NA := Aside0.mk (show gl < ga ∧ b < ga by rw [hga]; exact ⟨blk_lt HO.out.hl, HO.out.seen.lt⟩); have HOn := Aside0.mk (HO.out.below hb9); clear HO BK9 hb9 hga hcl; have HO := HOn; clear HOn; have hcl : w9.cell? ⟨gl, 0, none⟩ = some (.slice A0 l0.length c0) := (blk_cell HO.out.hl 0).trans rfl) | ((with_reducible refine gate_store (t := 80) rfl ?_); refine wpList_store_whole rfl rfl rfl ga _ #[.int .i64 (-1), .int .i64 (-1)] _ rfl rfl BA.out (by kernel_rfl) rfl (at_one _ _) ?_; intro w10 hp; have HOn := Aside0.mk (HO.out.put hp GA.out (by have := NA.out; omega) (by have := NA.out; omega)); have BAn := Aside0.mk (show w10.heap[ga]? = some (atCell (-1) (-1)) from hp.blk); clear HO BA hp hcl; have HO := HOn; have BA := BAn; clear HOn BAn; have hcl : w10.cell? ⟨gl, 0, none⟩ = some (.slice A0 l0.length c0) := (blk_cell HO.out.hl 0).trans rfl) | (go_at_call 40; refine (gatherB.calls w ga gl A0 c0 l0 _ HR.out HO.out.low BA.out HO.out.hl GA.out (by have := NA.out; omega) (by have := H32.out; omega) HSY.out).mono ?_; rintro e_ w11 ⟨bm, rfl, hgb⟩; rw [HAT.out] at hgb; have HG := Aside0.mk hgb; clear HO BA hgb hcl; have hcl : w11.cell? ⟨gl, 0, none⟩ = some (.slice A0 l0.length c0) := (blk_cell HG.out.hl 0).trans rfl; have hat0 := blk_cell HG.out.hat 0; have hat1 := blk_cell HG.out.hat 1) | ((with_reducible refine gate_dst (N := 62) rfl ?_); refine Kd.S_make (Kd.slice 54 k54) _ 61 rfl (N := 62) rfl 47 _ _ rfl (l0.length : Int) rfl rfl Try.underlying47 (.slice none 0 0) 24 info_row rfl (by decide) (by omega) [] (ok := fun _ => True) (okp := fun _ => True) (Kd.M_row (Kd.R_nil _ _ _ _ _)) (fun _ hk => hk) trivial (by omega) (by have := H32.out; omega) (Below.refl _ _) (Nat.le_refl _) ?_; intro v1 w12 ho6 hb hg_ hnew_; clear hg_; rw [show ((l0.length : Int)).toNat = l0.length by omega] at ho6; obtain ⟨A2, c2, ev⟩ := Kd.S_slice ho6; obtain ⟨gd, hgd, _⟩ := hnew_; subst ev; obtain ⟨g2, rfl⟩ : ∃ g2, A2 = some g2 := (by cases A2 with | none => (simp [Value.ownBlock] at hgd) | some g2 => exact ⟨g2, rfl⟩); obtain ⟨g3, rfl⟩ := Kd.R_head (Kd.S_R ho6); rw [List.length_replicate] at ho6; have H2 := Aside0.mk (show R2 w w12 ga gl bm (a0, a1) (lCell A0 l0.length c0) (gObj l0 l0.length) (fun _ => True) (.slice (some ⟨g3, 0, none⟩) l0.length c2) (List.replicate l0.length []) from ⟨below_then HG.out.low HG.out.low.size hb, HG.out.nm.below hb, blk_below HG.out.hat hb, blk_below HG.out.hl hb, Kd.S_lower ho6 HG.out.low.size, HG.out.oa⟩); clear HG hb ho6 hgd hcl hat0 hat1; have hcl : w12.cell? ⟨gl, 0, none⟩ = some (.slice A0 l0.length c0) := (blk_cell H2.out.hl 0).trans rfl))
     go_step3
     go_wp2
     obtain ⟨L, hL⟩ : ∃ L, gObj l0 l0.length = L := ⟨_, rfl⟩
     have h2 := H2.out
     have h := HH.out
     rw [hL] at h2 h
     clear H2 HH
     have H2 := Aside0.mk h2
     have HH := Aside0.mk h
     clear h2 h hL cb hltb
     go_loopw [3, 65] (fun u3 u65 wr => u3 = .int .i64 0 ∧ ∃ i : Nat, u65 = .int .i64 (i : Int) ∧ i ≤ l0.length ∧ Aside0 ((rowsX L l0 i).2 = none) ∧ Aside0 (R2 w wr ga gl bm (a0, a1) (lCell A0 l0.length c0) L (fun _ => True) (.slice (some ⟨g3, 0, none⟩) l0.length c2) ((rowsX L l0 i).1 ++ List.replicate (l0.length - i) []))) (fun u3 u65 _ => l0.length - (intOf u65).toNat)
     case atStart => exact ⟨rfl, 0, rfl, Nat.zero_le _, ⟨rfl⟩, H2⟩
     case round =>
      clear H2 hcl
      obtain ⟨rfl, i, rfl, hile, HF, H2⟩ := hrel
      by_cases hlt : i < l0.length
      ·
       have hsl := HSY.out i hlt
       have p0 : (0 : Int) ≤ (i : Int) := by omega
       have q0 : (i : Int) < (l0.length : Int) := by omega
       obtain ⟨ad, A1, c1, A3, c3, A4, c4, A5, c5, eA, hx0, hx1, hx2, hx3, hx4, hx5, hL1, hC1, hL3, hC3, hL4, hC4, hL5, hC5⟩ := at_T27 HR.out (i : Int) p0 q0
       subst eA
       rw [show ((i : Int)).toNat = i by omega] at hx0 hx1 hx2 hx3 hx4 hx5
       rw [show rd_T27 l0 (i : Int) = ob l0 i from rfl] at hx0 hx1 hx2 hx3 hx4 hx5 hL1 hC1 hL3 hC3 hL4 hC4 hL5 hC5
       have hy0 := pw_cell_below H2.out.low hx0
       have hy1 := pw_cell_below H2.out.low hx1
       have hy2 := pw_cell_below H2.out.low hx2
       have hy3 := pw_cell_below H2.out.low hx3
       have hy4 := pw_cell_below H2.out.low hx4
       have hy5 := pw_cell_below H2.out.low hx5
       clear hx0 hx1 hx2 hx3 hx4 hx5
       have h2 := H2.out
       rw [rep_step _ _ _ hlt] at h2
       clear H2
       have H2 := Aside0.mk h2
       clear h2
       have HST := Aside0.mk (fun (h : (rowX L (ob l0 i).f4 (i : Int) (ob l0 i).f4.length).2 = none) => rowsX_step HF.out h)
       have HSP := Aside0.mk (fun (j : Nat) (h2 : (rowX L (ob l0 i).f4 (i : Int) j).2 = none) (h3 : symX L (i : Int) (sy (ob l0 i).f4 j) = none) (hj : j < (ob l0 i).f4.length) => rowsX_stop HF.out h2 h3 hlt hj)
       have HRL := Aside0.mk (rowsX_length L l0 i HF.out)
       obtain ⟨x, hx⟩ : ∃ x, ob l0 i = x := ⟨_, rfl⟩
       rw [hx] at hy0 hy1 hy2 hy3 hy4 hy5 hC4 hsl HST HSP
       clear hL1 hC1 hL3 hC3 hL4 hL5 hC5 hx
       obtain ⟨x0, x1, x2, x3, x4, x5⟩ := x
       simp only at hy0 hy1 hy2 hy3 hy4 hy5 hC4 hsl HST HSP
       have HSL := Aside0.mk hsl
       have HC4 := Aside0.mk hC4
       clear hsl hC4
       have HLT := Aside0.mk hlt
       have hltb : decide ((i : Int) < (l0.length : Int)) = true := decide_eq_true (by omega)
       have HWR := Aside0.mk (show wrap64 ((i : Int) + 1) = ((i + 1 : Nat) : Int) by rw [wrap64_id (by have := H32.out; omega) (by have := H32.out; omega)]; rfl)
       replace p0 := eq_true p0
       replace q0 := eq_true q0
       go_wp2_with (first | ((with_reducible refine gate_dst (N := 14) rfl ?_); refine box_event ?hg (N := 14) ?hd (cs := #[.string (⟨#[]⟩ : ByteArray), .slice none 0 0, .int .i64 0, .slice none 0 0, .slice none 0 0, .slice none 0 0]) (t := 27) ?hr ?_; (case hd => rfl); (case hg => rfl); (case hr => first | (go_simp; done) | (go_simp; rfl)); intro go hgo w13 BK3 hb3; have BO := Aside0.mk BK3; have GO := Aside0.mk (show w.heap.size ≤ go by rw [hgo]; exact H2.out.low.size); have NO := Aside0.mk (show ga < go ∧ gl < go ∧ bm < go by rw [hgo]; exact ⟨blk_lt H2.out.hat, blk_lt H2.out.hl, H2.out.nm.lt⟩); have H2n := Aside0.mk (H2.out.box hb3 (show _ ≤ go by rw [hgo]; exact Nat.le_refl _)); clear H2 BK3 hb3 hgo; have H2 := H2n; clear H2n) | ((with_reducible refine gate_store (t := 27) rfl ?_); refine wpList_store_whole rfl rfl rfl go _ #[.string x0, .slice A1 x1.length c1, .int .i64 x2, .slice A3 x3.length c3, .slice A4 x4.length c4, .slice A5 x5.length c5] _ rfl rfl BO.out (by kernel_rfl) rfl (obj_oneS _ _ _ _ _ _ _ _ _ _ _ _ _ _) ?_; intro w14 hp; have H2n := Aside0.mk (H2.out.put hp GO.out (by have := NO.out; omega) (by have := NO.out; omega) (by have := NO.out; omega) (fun k hk => hk.2)); have BOn := Aside0.mk hp.blk; clear H2 BO hp; have H2 := H2n; have BO := BOn; clear H2n BOn; have ho0 := blk_cell BO.out 0; have ho4 := blk_cell BO.out 4))
       have h2 := H2.out.mono (ok' := fun _ => True) (fun _ _ => trivial)
       clear H2
       have H2 := Aside0.mk h2
       clear h2
       go_loopw [3, 73] (fun u3 u73 wr => u3 = .int .i64 0 ∧ ∃ j : Nat, u73 = .int .i64 (j : Int) ∧ j ≤ x4.length ∧ Aside0 ((rowX L x4 (i : Int) j).2 = none) ∧ Aside0 (R2 w wr ga gl bm (a0, a1) (lCell (some ad) l0.length c0) L (fun _ => True) (.slice (some ⟨g3, 0, none⟩) l0.length c2) ((rowsX L l0 i).1 ++ (rowX L x4 (i : Int) j).1 :: List.replicate (l0.length - (i + 1)) []))) (fun u3 u73 _ => x4.length - (intOf u73).toNat)
       case atStart => exact ⟨rfl, 0, rfl, Nat.zero_le _, ⟨rfl⟩, H2⟩
       case round =>
        clear H2 ho0 ho4 BO GO NO hy0 hy1 hy2 hy3 hy4 hy5
        obtain ⟨rfl, j, rfl, hjle, HFR, H2⟩ := hrel
        by_cases hlt2 : j < x4.length
        ·
         have p1 : (0 : Int) ≤ (j : Int) := by omega
         have q1 : (j : Int) < (x4.length : Int) := by omega
         obtain ⟨as_, eS, hz0, hz1, hz2⟩ := at_T37 HC4.out (j : Int) p1 q1
         subst eS
         rw [show ((j : Int)).toNat = j by omega] at hz0 hz1 hz2
         rw [show rd_T37 x4 (j : Int) = sy x4 j from rfl] at hz0 hz1 hz2
         have hw0 := pw_cell_below H2.out.low hz0
         have hw1 := pw_cell_below H2.out.low hz1
         have hw2 := pw_cell_below H2.out.low hz2
         clear hz0 hz1 hz2
         have HXS := Aside0.mk (fun (x : DefT) (hx : symX L (i : Int) (sy x4 j) = some x) => rowX_step HFR.out hx)
         have HXP := Aside0.mk (fun (hx : symX L (i : Int) (sy x4 j) = none) => HSP.out j HFR.out hx hlt2)
         have HRN := Aside0.mk (rowX_length L x4 (i : Int) j HFR.out)
         obtain ⟨sv, hsv⟩ : ∃ sv, sy x4 j = sv := ⟨_, rfl⟩
         rw [hsv] at hw0 hw1 hw2 HXS HXP
         clear hsv
         obtain ⟨sn, sk, sa⟩ := sv
         simp only at hw0 hw1 hw2
         obtain ⟨fr, hfr⟩ : ∃ fr, findR L sn = fr := ⟨_, rfl⟩
         obtain ⟨f0, f1, f2⟩ := fr
         have HFD := Aside0.mk hfr
         clear hfr
         have hltb2 : decide ((j : Int) < (x4.length : Int)) = true := decide_eq_true (by omega)
         have HWR2 := Aside0.mk (show wrap64 ((j : Int) + 1) = ((j + 1 : Nat) : Int) by rw [wrap64_id (by have := HSL.out; omega) (by have := HSL.out; omega)]; rfl)
         replace p1 := eq_true p1
         replace q1 := eq_true q1
         have HL2 := Aside0.mk hlt2
         obtain ⟨RW, hrw⟩ : ∃ RW, (rowX L x4 (i : Int) j).1 = RW := ⟨_, rfl⟩
         obtain ⟨RS, hrs⟩ : ∃ RS, (rowsX L l0 i).1 = RS := ⟨_, rfl⟩
         have h2 := H2.out
         have hrn := HRN.out
         have hrl := HRL.out
         rw [hrw] at h2 hrn HXS
         rw [hrs] at h2 hrl
         have HRS := Aside0.mk hrs
         clear H2 HRN hrs hrw
         have H2 := Aside0.mk h2
         have HRN := Aside0.mk hrn
         have HRL2 := Aside0.mk hrl
         clear h2 hrn hrl
         by_cases ck : sk = 0
         ·
          subst ck
          have HXE := Aside0.mk (HXS.out ⟨(i : Int), sa⟩ (by unfold symX; rw [if_pos rfl]))
          clear HXS HXP
          go_wp2_with (first | ((with_reducible refine gate_dst (N := 16) rfl ?_); refine box_event ?hg (N := 16) ?hd (cs := #[.string (⟨#[]⟩ : ByteArray), .int .i8 0, .int .i64 0]) (t := 37) ?hr ?_; (case hd => rfl); (case hg => rfl); (case hr => first | (go_simp; done) | (go_simp; rfl)); intro gs hgs w15 BK4 hb4; have BS := Aside0.mk BK4; have GS := Aside0.mk (show w.heap.size ≤ gs by rw [hgs]; exact H2.out.low.size); have NS := Aside0.mk (show ga < gs ∧ gl < gs ∧ bm < gs by rw [hgs]; exact ⟨blk_lt H2.out.hat, blk_lt H2.out.hl, H2.out.nm.lt⟩); have H2n := Aside0.mk (H2.out.box hb4 (show _ ≤ gs by rw [hgs]; exact Nat.le_refl _)); clear H2 BK4 hb4 hgs; have H2 := H2n; clear H2n) | ((with_reducible refine gate_store (t := 37) rfl ?_); refine wpList_store_whole rfl rfl rfl gs _ #[.string sn, .int .i8 0, .int .i64 sa] _ rfl rfl BS.out (by kernel_rfl) rfl (sym_one _ _ _) ?_; intro w16 hp; have H2n := Aside0.mk (H2.out.put hp GS.out (by have := NS.out; omega) (by have := NS.out; omega) (by have := NS.out; omega) (fun k hk => hk.2)); have BSn := Aside0.mk hp.blk; clear H2 BS hp; have H2 := H2n; have BS := BSn; clear H2n BSn; have hs0 := blk_cell BS.out 0; have hs1 := blk_cell BS.out 1; have hs2 := blk_cell BS.out 2) | (go_at_call 42; refine (find.calls sn _ bm L H2.out.nm).mono ?_; rw [HFD.out]; rintro e_ w17 ⟨rfl, hb5⟩; have H2n := Aside0.mk (H2.out.below hb5); have BSn := Aside0.mk (blk_below BS.out hb5); clear H2 BS hb5 hs0 hs1 hs2; have H2 := H2n; have BS := BSn; clear H2n BSn; have hs0 := blk_cell BS.out 0; have hs1 := blk_cell BS.out 1; have hs2 := blk_cell BS.out 2) | ((with_reducible refine gate_dst (N := 17) rfl ?_); refine box_event ?hg (N := 17) ?hd (cs := #[.int .i64 0, .int .i64 0]) (t := 54) ?hr ?_; (case hd => rfl); (case hg => rfl); (case hr => first | (go_simp; done) | (go_simp; rfl)); intro gx hgx w18 BK6 hb6; have BX := Aside0.mk BK6; have GX := Aside0.mk (show w.heap.size ≤ gx by rw [hgx]; exact H2.out.low.size); have NX := Aside0.mk (show ga < gx ∧ gl < gx ∧ bm < gx ∧ gs < gx by rw [hgx]; exact ⟨blk_lt H2.out.hat, blk_lt H2.out.hl, H2.out.nm.lt, blk_lt BS.out⟩); have H2n := Aside0.mk (H2.out.box hb6 (show _ ≤ gx by rw [hgx]; exact Nat.le_refl _)); have BSn := Aside0.mk (blk_below BS.out hb6); clear H2 BS BK6 hb6 hgx hs0 hs1 hs2; have H2 := H2n; have BS := BSn; clear H2n BSn; have hs0 := blk_cell BS.out 0; have hs1 := blk_cell BS.out 1; have hs2 := blk_cell BS.out 2) | ((with_reducible refine gate_store (t := 54) rfl ?_); refine wpList_store_whole rfl rfl rfl gx _ #[.int .i64 f0, .int .i64 f1] _ rfl rfl BX.out (by kernel_rfl) rfl (def_one _ _) ?_; intro w20 hp; have H2n := Aside0.mk (H2.out.put hp GX.out (by have := NX.out; omega) (by have := NX.out; omega) (by have := NX.out; omega) (fun k hk => hk.2)); have BSn := Aside0.mk (blk_grown BS.out (put_grownN hp) (fun e => by have := NX.out; have := Option.some.inj e; omega)); have BXn := Aside0.mk hp.blk; clear H2 BS BX hp; (try clear hs0 hs1 hs2); (try clear hk0 hk1); have H2 := H2n; have BS := BSn; have BX := BXn; clear H2n BSn BXn; have hs0 := blk_cell BS.out 0; have hs1 := blk_cell BS.out 1; have hs2 := blk_cell BS.out 2; have hk0 := blk_cell BX.out 0; have hk1 := blk_cell BX.out 1) | ((with_reducible refine gate_store (t := 54) rfl ?_); refine wpList_store_whole rfl rfl rfl gx _ #[.int .i64 (i : Int), .int .i64 sa] _ rfl rfl BX.out (by kernel_rfl) rfl (def_one _ _) ?_; intro w21 hp; have H2n := Aside0.mk (H2.out.put hp GX.out (by have := NX.out; omega) (by have := NX.out; omega) (by have := NX.out; omega) (fun k hk => hk.2)); have BSn := Aside0.mk (blk_grown BS.out (put_grownN hp) (fun e => by have := NX.out; have := Option.some.inj e; omega)); have BXn := Aside0.mk hp.blk; clear H2 BS BX hp; (try clear hs0 hs1 hs2); (try clear hk0 hk1); have H2 := H2n; have BS := BSn; have BX := BXn; clear H2n BSn BXn; have hs0 := blk_cell BS.out 0; have hs1 := blk_cell BS.out 1; have hs2 := blk_cell BS.out 2; have hk0 := blk_cell BX.out 0; have hk1 := blk_cell BX.out 1))
          have h2 := H2.out.below (below_drew (Below.refl _ _))
          have bs := blk_below BS.out (below_drew (Below.refl _ _))
          have bx := blk_below BX.out (below_drew (Below.refl _ _))
          have bsl := blk_lt bs
          have bxl := blk_lt bx
          have hgm := (set_mid RS RW (RW ++ [(⟨(i : Int), sa⟩ : DefT)]) [] (List.replicate (l0.length - (i + 1)) []) i HRL2.out)
          obtain ⟨vi, okA, hci, hgd, hrow, hfr, hoka, hback⟩ := h2.row (i := i) HLT.out (fun k hk => ⟨⟨trivial, by omega⟩, by omega⟩) (⟨(i : Int), sa⟩ : DefT)
          rw [hgm.2] at hrow hback
          rw [hgm.1] at hback
          have HBK := Aside0.mk hback
          have HROW := Aside0.mk hrow
          have HFRS := Aside0.mk hfr
          have HOKA := Aside0.mk hoka
          have HLOW := Aside0.mk h2.low
          have BX2 := Aside0.mk bx
          have hcx0 := blk_cell BX2.out 0
          have hcx1 := blk_cell BX2.out 1
          obtain ⟨Av, cv, ev⟩ := Kd.R_slice HROW.out
          subst ev
          clear hback hrow hfr hoka h2 bs bx bsl bxl hgm hs0 hs1 hs2 hk0 hk1 BS BX H2 hw0 hw1 hw2
          refine start_ (n := 11) (S := fun w' => w'.cell? ⟨g3, i, none⟩ = some (.slice Av RW.length cv) ∧ w'.cell? ⟨gx, 0, none⟩ = some (.int .i64 (i : Int)) ∧ w'.cell? ⟨gx, 1, none⟩ = some (.int .i64 sa)) (ds := [10]) #[false, false, false, false, false, false, false, false, false, false, false] (by kernel_rfl) rfl rfl ⟨hci, hcx0, hcx1⟩ (fun hHeld => ?_)
          generalize w21.drew = wd at HBK HROW HFRS HLOW BX2 hci hgd hcx0 hcx1 hHeld ⊢
          refine pure_ (i := 0) (N := some 99) (v := ?_) (a' := ?_) #[true, false, false, false, false, false, false, false, false, false, false] rfl rfl (by kernel_rfl) (fun _ _ _ h => h) (Or.inl ⟨by rfl, ?_⟩) ?_ ?_
          rotate_left
          ·
           intro w'
           go_simp
           with_reducible rfl
          rotate_left
          ·
           simp only [Act.put, List.setIfInBounds_toArray, List.set_cons_zero, List.set_cons_succ, i64_w, i32_w]
           rfl
          refine pure_ (i := 1) (N := some 100) (v := ?_) (a' := ?_) #[true, true, false, false, false, false, false, false, false, false, false] rfl rfl (by kernel_rfl) (fun _ _ _ h => h) (Or.inl ⟨by rfl, ?_⟩) ?_ ?_
          rotate_left
          ·
           intro w'
           go_simp
           with_reducible rfl
          rotate_left
          ·
           simp only [Act.put, List.setIfInBounds_toArray, List.set_cons_zero, List.set_cons_succ, i64_w, i32_w]
           rfl
          refine pure_ (i := 2) (N := some 101) (v := ?_) (a' := ?_) #[true, true, true, false, false, false, false, false, false, false, false] rfl rfl (by kernel_rfl) (fun _ _ _ h => h) (Or.inl ⟨by rfl, ?_⟩) ?_ ?_
          rotate_left
          ·
           intro w'
           go_simp
           with_reducible rfl
          rotate_left
          ·
           simp only [Act.put, List.setIfInBounds_toArray, List.set_cons_zero, List.set_cons_succ, i64_w, i32_w]
           rfl
          refine pure_ (i := 3) (N := some 102) (v := ?_) (a' := ?_) #[true, true, true, true, false, false, false, false, false, false, false] rfl rfl (by kernel_rfl) (fun _ _ _ h => h) (Or.inl ⟨by rfl, ?_⟩) ?_ ?_
          rotate_left
          ·
           intro w'
           go_simp
           with_reducible rfl
          rotate_left
          ·
           simp only [Act.put, List.setIfInBounds_toArray, List.set_cons_zero, List.set_cons_succ, i64_w, i32_w]
           rfl
          refine pure_ (i := 4) (N := some 103) (v := ?_) (a' := ?_) #[true, true, true, true, true, false, false, false, false, false, false] rfl rfl (by kernel_rfl) (fun _ _ _ h => h) (Or.inl ⟨by rfl, ?_⟩) ?_ ?_
          rotate_left
          ·
           intro w'
           go_simp
           with_reducible rfl
          rotate_left
          ·
           simp only [Act.put, List.setIfInBounds_toArray, List.set_cons_zero, List.set_cons_succ, i64_w, i32_w]
           rfl
          refine take_ (i := 5) (N := some 104) (v := ?_) (a' := ?_) #[true, true, true, true, true, true, false, false, false, false, false] rfl rfl (by kernel_rfl) (fun _ _ _ h => h) (Or.inl ⟨by rfl, ?_⟩) hHeld ?_ ?_
          rotate_left
          ·
           rintro w' ⟨s0, s1, s2⟩
           go_simp
           with_reducible rfl
          rotate_left
          ·
           simp only [Act.put, List.setIfInBounds_toArray, List.set_cons_zero, List.set_cons_succ, i64_w, i32_w]
           rfl
          refine take_ (i := 6) (N := some 105) (v := ?_) (a' := ?_) #[true, true, true, true, true, true, true, false, false, false, false] rfl rfl (by kernel_rfl) (fun _ _ _ h => h) (Or.inl ⟨by rfl, ?_⟩) hHeld ?_ ?_
          rotate_left
          ·
           rintro w' ⟨s0, s1, s2⟩
           go_simp
           with_reducible rfl
          rotate_left
          ·
           simp only [Act.put, List.setIfInBounds_toArray, List.set_cons_zero, List.set_cons_succ, i64_w, i32_w]
           rfl
          refine one_ (i := 7) (N := some 106) #[true, true, true, true, true, true, true, true, false, false, false] rfl rfl (by kernel_rfl) (by decide) (fun K hK => ?_)
          refine value_ (w1 := ?_) (v := ?_) (by rfl) rfl ?_ ?_
          rotate_left 2
          ·
           go_simp
           constructor
           ·
            rfl
           ·
            rfl
          refine hK.out _ _ ⟨(World.cell?_alloc_lt _ _ _ (World.block_lt_of_cell? _ _ hci)).trans hci, (World.cell?_alloc_lt _ _ _ (World.block_lt_of_cell? _ _ hcx0)).trans hcx0, (World.cell?_alloc_lt _ _ _ (World.block_lt_of_cell? _ _ hcx1)).trans hcx1⟩ (fun hHeld => ?_)
          clear hK K
          refine norm_ (a' := ?_) ?_ ?_
          rotate_left
          ·
           show Act.put _ (some 106) _ = _
           simp only [Act.put, List.setIfInBounds_toArray, List.set_cons_zero, List.set_cons_succ, i64_w, i32_w]
           rfl
          refine one_ (i := 8) (N := some 107) #[true, true, true, true, true, true, true, true, true, false, false] rfl rfl (by kernel_rfl) (by decide) (fun K hK => ?_)
          refine Kd.R_append_step k54 (w0 := w) w.heap.size (by rfl) (.tmp 104) (.tmp 106) 61 54 (.agg #[.int .i64 0, .int .i64 0]) 16 rfl Try.underlying61 info_def rfl (by decide) (by omega) (.slice Av RW.length cv) RW (⟨(i : Int), sa⟩ : DefT) [.int .i64 (i : Int), .int .i64 sa] okA (fun _ => False) rfl rfl ?aP (fun _ hk => hk.elim) ?aF ?aO ?aB ?aS ?aL ?_
          (case aP => exact k54_mkM _ _ _ (⟨(i : Int), sa⟩ : DefT))
          (case aB => exact HLOW.out)
          (case aF => exact HFRS.out)
          (case aO => exact HROW.out)
          (case aS => exact HLOW.out.size)
          (case aL => have := HRN.out; have := HL2.out; have := HSL.out; omega)
          intro v19 w19 ho19 hb19 hg19 hat19
          obtain ⟨hc19, hf19, hr19⟩ := HBK.out v19 w19 ho19 hb19 hg19
          have hne : some gx ≠ (Value.slice Av RW.length cv).ownBlock := fun e => (HOKA.out gx (HROW.out.1 gx e.symm)).2 rfl
          have bx19 := blk_grown BX2.out hg19 hne
          have HR19 := Aside0.mk hr19
          obtain ⟨Ao, co, eo⟩ := Kd.R_slice ho19
          subst eo
          refine hK.out _ _ ⟨hc19, blk_cell bx19 0, blk_cell bx19 1⟩ (fun hHeld => ?_)
          clear hr19 hci hcx0 hcx1
          clear hK K
          refine norm_ (a' := ?_) ?_ ?_
          rotate_left
          ·
           show Act.put _ (some 107) _ = _
           simp only [Act.put, List.setIfInBounds_toArray, List.set_cons_zero, List.set_cons_succ, i64_w, i32_w]
           rfl
          refine pure_ (i := 9) (N := some 108) (v := ?_) (a' := ?_) #[true, true, true, true, true, true, true, true, true, true, false] rfl rfl (by kernel_rfl) (fun _ _ _ h => h) (Or.inl ⟨by rfl, ?_⟩) ?_ ?_
          rotate_left
          ·
           intro w'
           go_simp
           with_reducible rfl
          rotate_left
          ·
           simp only [Act.put, List.setIfInBounds_toArray, List.set_cons_zero, List.set_cons_succ, i64_w, i32_w]
           rfl
          refine last_ (i := 10) (N := none) #[true, true, true, true, true, true, true, true, true, true, true] rfl rfl (by kernel_rfl) (by decide) (fun K hK => ?_)
          refine skip_ (w1 := ?_) (by rfl) rfl ?_ ?_
          rotate_left
          ·
           go_simp
           rfl
          refine hK.out _ _ ?_
          clear hK K
          refine done_ (by kernel_rfl) ?_
          have h2 := HR19.out.mono (ok' := fun _ => True) (fun _ _ => trivial)
          rw [show (RW ++ [(⟨(i : Int), sa⟩ : DefT)]).length = RW.length + 1 from (by rw [List.length_append]; rfl)] at h2
          clear HR19 ho19 hb19 hg19 hat19 hHeld hne bx19
          have H2 := Aside0.mk h2
          clear h2 hc19 hf19
          go_wp2
          go_roundw
          case measure => have hq := HL2.out; (try rw [HWR2.out]); simp only [intOf]; omega
          case rel => exact ⟨rfl, j + 1, by first | rfl | (rw [HWR2.out]; done), by have := HL2.out; omega, ⟨by rw [HXE.out]⟩, ⟨by rw [HXE.out, HRS.out]; exact H2.out⟩⟩
         ·
          have ckb : (sk == 0) = false := beq_eq_false_iff_ne.mpr ck
          cases f2 with
          | true =>
           have HXE := Aside0.mk (HXS.out ⟨f0, f1⟩ (by unfold symX; rw [if_neg ck, HFD.out, if_pos rfl]))
           clear ck HXS HXP
           go_wp2_with (first | ((with_reducible refine gate_dst (N := 16) rfl ?_); refine box_event ?hg (N := 16) ?hd (cs := #[.string (⟨#[]⟩ : ByteArray), .int .i8 0, .int .i64 0]) (t := 37) ?hr ?_; (case hd => rfl); (case hg => rfl); (case hr => first | (go_simp; done) | (go_simp; rfl)); intro gs hgs w15 BK4 hb4; have BS := Aside0.mk BK4; have GS := Aside0.mk (show w.heap.size ≤ gs by rw [hgs]; exact H2.out.low.size); have NS := Aside0.mk (show ga < gs ∧ gl < gs ∧ bm < gs by rw [hgs]; exact ⟨blk_lt H2.out.hat, blk_lt H2.out.hl, H2.out.nm.lt⟩); have H2n := Aside0.mk (H2.out.box hb4 (show _ ≤ gs by rw [hgs]; exact Nat.le_refl _)); clear H2 BK4 hb4 hgs; have H2 := H2n; clear H2n) | ((with_reducible refine gate_store (t := 37) rfl ?_); refine wpList_store_whole rfl rfl rfl gs _ #[.string sn, .int .i8 sk, .int .i64 sa] _ rfl rfl BS.out (by kernel_rfl) rfl (sym_one _ _ _) ?_; intro w16 hp; have H2n := Aside0.mk (H2.out.put hp GS.out (by have := NS.out; omega) (by have := NS.out; omega) (by have := NS.out; omega) (fun k hk => hk.2)); have BSn := Aside0.mk hp.blk; clear H2 BS hp; have H2 := H2n; have BS := BSn; clear H2n BSn; have hs0 := blk_cell BS.out 0; have hs1 := blk_cell BS.out 1; have hs2 := blk_cell BS.out 2) | (go_at_call 42; refine (find.calls sn _ bm L H2.out.nm).mono ?_; rw [HFD.out]; rintro e_ w17 ⟨rfl, hb5⟩; have H2n := Aside0.mk (H2.out.below hb5); have BSn := Aside0.mk (blk_below BS.out hb5); clear H2 BS hb5 hs0 hs1 hs2; have H2 := H2n; have BS := BSn; clear H2n BSn; have hs0 := blk_cell BS.out 0; have hs1 := blk_cell BS.out 1; have hs2 := blk_cell BS.out 2) | ((with_reducible refine gate_dst (N := 17) rfl ?_); refine box_event ?hg (N := 17) ?hd (cs := #[.int .i64 0, .int .i64 0]) (t := 54) ?hr ?_; (case hd => rfl); (case hg => rfl); (case hr => first | (go_simp; done) | (go_simp; rfl)); intro gx hgx w18 BK6 hb6; have BX := Aside0.mk BK6; have GX := Aside0.mk (show w.heap.size ≤ gx by rw [hgx]; exact H2.out.low.size); have NX := Aside0.mk (show ga < gx ∧ gl < gx ∧ bm < gx ∧ gs < gx by rw [hgx]; exact ⟨blk_lt H2.out.hat, blk_lt H2.out.hl, H2.out.nm.lt, blk_lt BS.out⟩); have H2n := Aside0.mk (H2.out.box hb6 (show _ ≤ gx by rw [hgx]; exact Nat.le_refl _)); have BSn := Aside0.mk (blk_below BS.out hb6); clear H2 BS BK6 hb6 hgx hs0 hs1 hs2; have H2 := H2n; have BS := BSn; clear H2n BSn; have hs0 := blk_cell BS.out 0; have hs1 := blk_cell BS.out 1; have hs2 := blk_cell BS.out 2) | ((with_reducible refine gate_store (t := 54) rfl ?_); refine wpList_store_whole rfl rfl rfl gx _ #[.int .i64 f0, .int .i64 f1] _ rfl rfl BX.out (by kernel_rfl) rfl (def_one _ _) ?_; intro w20 hp; have H2n := Aside0.mk (H2.out.put hp GX.out (by have := NX.out; omega) (by have := NX.out; omega) (by have := NX.out; omega) (fun k hk => hk.2)); have BSn := Aside0.mk (blk_grown BS.out (put_grownN hp) (fun e => by have := NX.out; have := Option.some.inj e; omega)); have BXn := Aside0.mk hp.blk; clear H2 BS BX hp; (try clear hs0 hs1 hs2); (try clear hk0 hk1); have H2 := H2n; have BS := BSn; have BX := BXn; clear H2n BSn BXn; have hs0 := blk_cell BS.out 0; have hs1 := blk_cell BS.out 1; have hs2 := blk_cell BS.out 2; have hk0 := blk_cell BX.out 0; have hk1 := blk_cell BX.out 1))
           have h2 := H2.out.below (below_drew (Below.refl _ _))
           have bs := blk_below BS.out (below_drew (Below.refl _ _))
           have bx := blk_below BX.out (below_drew (Below.refl _ _))
           have bsl := blk_lt bs
           have bxl := blk_lt bx
           have hgm := (set_mid RS RW (RW ++ [(⟨f0, f1⟩ : DefT)]) [] (List.replicate (l0.length - (i + 1)) []) i HRL2.out)
           obtain ⟨vi, okA, hci, hgd, hrow, hfr, hoka, hback⟩ := h2.row (i := i) HLT.out (fun k hk => ⟨⟨trivial, by omega⟩, by omega⟩) (⟨f0, f1⟩ : DefT)
           rw [hgm.2] at hrow hback
           rw [hgm.1] at hback
           have HBK := Aside0.mk hback
           have HROW := Aside0.mk hrow
           have HFRS := Aside0.mk hfr
           have HOKA := Aside0.mk hoka
           have HLOW := Aside0.mk h2.low
           have BX2 := Aside0.mk bx
           have hcx0 := blk_cell BX2.out 0
           have hcx1 := blk_cell BX2.out 1
           obtain ⟨Av, cv, ev⟩ := Kd.R_slice HROW.out
           subst ev
           clear hback hrow hfr hoka h2 bs bx bsl bxl hgm hs0 hs1 hs2 hk0 hk1 BS BX H2 hw0 hw1 hw2
           refine start_ (n := 11) (S := fun w' => w'.cell? ⟨g3, i, none⟩ = some (.slice Av RW.length cv) ∧ w'.cell? ⟨gx, 0, none⟩ = some (.int .i64 f0) ∧ w'.cell? ⟨gx, 1, none⟩ = some (.int .i64 f1)) (ds := [10]) #[false, false, false, false, false, false, false, false, false, false, false] (by kernel_rfl) rfl rfl ⟨hci, hcx0, hcx1⟩ (fun hHeld => ?_)
           generalize w20.drew = wd at HBK HROW HFRS HLOW BX2 hci hgd hcx0 hcx1 hHeld ⊢
           refine pure_ (i := 0) (N := some 99) (v := ?_) (a' := ?_) #[true, false, false, false, false, false, false, false, false, false, false] rfl rfl (by kernel_rfl) (fun _ _ _ h => h) (Or.inl ⟨by rfl, ?_⟩) ?_ ?_
           rotate_left
           ·
            intro w'
            go_simp
            with_reducible rfl
           rotate_left
           ·
            simp only [Act.put, List.setIfInBounds_toArray, List.set_cons_zero, List.set_cons_succ, i64_w, i32_w]
            rfl
           refine pure_ (i := 1) (N := some 100) (v := ?_) (a' := ?_) #[true, true, false, false, false, false, false, false, false, false, false] rfl rfl (by kernel_rfl) (fun _ _ _ h => h) (Or.inl ⟨by rfl, ?_⟩) ?_ ?_
           rotate_left
           ·
            intro w'
            go_simp
            with_reducible rfl
           rotate_left
           ·
            simp only [Act.put, List.setIfInBounds_toArray, List.set_cons_zero, List.set_cons_succ, i64_w, i32_w]
            rfl
           refine pure_ (i := 2) (N := some 101) (v := ?_) (a' := ?_) #[true, true, true, false, false, false, false, false, false, false, false] rfl rfl (by kernel_rfl) (fun _ _ _ h => h) (Or.inl ⟨by rfl, ?_⟩) ?_ ?_
           rotate_left
           ·
            intro w'
            go_simp
            with_reducible rfl
           rotate_left
           ·
            simp only [Act.put, List.setIfInBounds_toArray, List.set_cons_zero, List.set_cons_succ, i64_w, i32_w]
            rfl
           refine pure_ (i := 3) (N := some 102) (v := ?_) (a' := ?_) #[true, true, true, true, false, false, false, false, false, false, false] rfl rfl (by kernel_rfl) (fun _ _ _ h => h) (Or.inl ⟨by rfl, ?_⟩) ?_ ?_
           rotate_left
           ·
            intro w'
            go_simp
            with_reducible rfl
           rotate_left
           ·
            simp only [Act.put, List.setIfInBounds_toArray, List.set_cons_zero, List.set_cons_succ, i64_w, i32_w]
            rfl
           refine pure_ (i := 4) (N := some 103) (v := ?_) (a' := ?_) #[true, true, true, true, true, false, false, false, false, false, false] rfl rfl (by kernel_rfl) (fun _ _ _ h => h) (Or.inl ⟨by rfl, ?_⟩) ?_ ?_
           rotate_left
           ·
            intro w'
            go_simp
            with_reducible rfl
           rotate_left
           ·
            simp only [Act.put, List.setIfInBounds_toArray, List.set_cons_zero, List.set_cons_succ, i64_w, i32_w]
            rfl
           refine take_ (i := 5) (N := some 104) (v := ?_) (a' := ?_) #[true, true, true, true, true, true, false, false, false, false, false] rfl rfl (by kernel_rfl) (fun _ _ _ h => h) (Or.inl ⟨by rfl, ?_⟩) hHeld ?_ ?_
           rotate_left
           ·
            rintro w' ⟨s0, s1, s2⟩
            go_simp
            with_reducible rfl
           rotate_left
           ·
            simp only [Act.put, List.setIfInBounds_toArray, List.set_cons_zero, List.set_cons_succ, i64_w, i32_w]
            rfl
           refine take_ (i := 6) (N := some 105) (v := ?_) (a' := ?_) #[true, true, true, true, true, true, true, false, false, false, false] rfl rfl (by kernel_rfl) (fun _ _ _ h => h) (Or.inl ⟨by rfl, ?_⟩) hHeld ?_ ?_
           rotate_left
           ·
            rintro w' ⟨s0, s1, s2⟩
            go_simp
            with_reducible rfl
           rotate_left
           ·
            simp only [Act.put, List.setIfInBounds_toArray, List.set_cons_zero, List.set_cons_succ, i64_w, i32_w]
            rfl
           refine one_ (i := 7) (N := some 106) #[true, true, true, true, true, true, true, true, false, false, false] rfl rfl (by kernel_rfl) (by decide) (fun K hK => ?_)
           refine value_ (w1 := ?_) (v := ?_) (by rfl) rfl ?_ ?_
           rotate_left 2
           ·
            go_simp
            constructor
            ·
             rfl
            ·
             rfl
           refine hK.out _ _ ⟨(World.cell?_alloc_lt _ _ _ (World.block_lt_of_cell? _ _ hci)).trans hci, (World.cell?_alloc_lt _ _ _ (World.block_lt_of_cell? _ _ hcx0)).trans hcx0, (World.cell?_alloc_lt _ _ _ (World.block_lt_of_cell? _ _ hcx1)).trans hcx1⟩ (fun hHeld => ?_)
           clear hK K
           refine norm_ (a' := ?_) ?_ ?_
           rotate_left
           ·
            show Act.put _ (some 106) _ = _
            simp only [Act.put, List.setIfInBounds_toArray, List.set_cons_zero, List.set_cons_succ, i64_w, i32_w]
            rfl
           refine one_ (i := 8) (N := some 107) #[true, true, true, true, true, true, true, true, true, false, false] rfl rfl (by kernel_rfl) (by decide) (fun K hK => ?_)
           refine Kd.R_append_step k54 (w0 := w) w.heap.size (by rfl) (.tmp 104) (.tmp 106) 61 54 (.agg #[.int .i64 0, .int .i64 0]) 16 rfl Try.underlying61 info_def rfl (by decide) (by omega) (.slice Av RW.length cv) RW (⟨f0, f1⟩ : DefT) [.int .i64 f0, .int .i64 f1] okA (fun _ => False) rfl rfl ?aP (fun _ hk => hk.elim) ?aF ?aO ?aB ?aS ?aL ?_
           (case aP => exact k54_mkM _ _ _ (⟨f0, f1⟩ : DefT))
           (case aB => exact HLOW.out)
           (case aF => exact HFRS.out)
           (case aO => exact HROW.out)
           (case aS => exact HLOW.out.size)
           (case aL => have := HRN.out; have := HL2.out; have := HSL.out; omega)
           intro v19 w19 ho19 hb19 hg19 hat19
           obtain ⟨hc19, hf19, hr19⟩ := HBK.out v19 w19 ho19 hb19 hg19
           have hne : some gx ≠ (Value.slice Av RW.length cv).ownBlock := fun e => (HOKA.out gx (HROW.out.1 gx e.symm)).2 rfl
           have bx19 := blk_grown BX2.out hg19 hne
           have HR19 := Aside0.mk hr19
           obtain ⟨Ao, co, eo⟩ := Kd.R_slice ho19
           subst eo
           refine hK.out _ _ ⟨hc19, blk_cell bx19 0, blk_cell bx19 1⟩ (fun hHeld => ?_)
           clear hr19 hci hcx0 hcx1
           clear hK K
           refine norm_ (a' := ?_) ?_ ?_
           rotate_left
           ·
            show Act.put _ (some 107) _ = _
            simp only [Act.put, List.setIfInBounds_toArray, List.set_cons_zero, List.set_cons_succ, i64_w, i32_w]
            rfl
           refine pure_ (i := 9) (N := some 108) (v := ?_) (a' := ?_) #[true, true, true, true, true, true, true, true, true, true, false] rfl rfl (by kernel_rfl) (fun _ _ _ h => h) (Or.inl ⟨by rfl, ?_⟩) ?_ ?_
           rotate_left
           ·
            intro w'
            go_simp
            with_reducible rfl
           rotate_left
           ·
            simp only [Act.put, List.setIfInBounds_toArray, List.set_cons_zero, List.set_cons_succ, i64_w, i32_w]
            rfl
           refine last_ (i := 10) (N := none) #[true, true, true, true, true, true, true, true, true, true, true] rfl rfl (by kernel_rfl) (by decide) (fun K hK => ?_)
           refine skip_ (w1 := ?_) (by rfl) rfl ?_ ?_
           rotate_left
           ·
            go_simp
            rfl
           refine hK.out _ _ ?_
           clear hK K
           refine done_ (by kernel_rfl) ?_
           have h2 := HR19.out.mono (ok' := fun _ => True) (fun _ _ => trivial)
           rw [show (RW ++ [(⟨f0, f1⟩ : DefT)]).length = RW.length + 1 from (by rw [List.length_append]; rfl)] at h2
           clear HR19 ho19 hb19 hg19 hat19 hHeld hne bx19
           have H2 := Aside0.mk h2
           clear h2 hc19 hf19
           go_wp2
           go_roundw
           case measure => have hq := HL2.out; (try rw [HWR2.out]); simp only [intOf]; omega
           case rel => exact ⟨rfl, j + 1, by first | rfl | (rw [HWR2.out]; done), by have := HL2.out; omega, ⟨by rw [HXE.out]⟩, ⟨by rw [HXE.out, HRS.out]; exact H2.out⟩⟩
          | false =>
           obtain ⟨dd, hdd⟩ := HXP.out (by unfold symX; rw [if_neg ck, HFD.out]; exact if_neg (show ¬ (false = true) by decide))
           clear ck HXS HXP
           have h := HH.out
           rw [hdd] at h
           simp only [Option.some.injEq, Prod.mk.injEq] at h
           obtain ⟨rfl, rfl, rfl, rfl⟩ := h
           clear hdd HH
           go_wp2_with (first | ((with_reducible refine gate_dst (N := 16) rfl ?_); refine box_event ?hg (N := 16) ?hd (cs := #[.string (⟨#[]⟩ : ByteArray), .int .i8 0, .int .i64 0]) (t := 37) ?hr ?_; (case hd => rfl); (case hg => rfl); (case hr => first | (go_simp; done) | (go_simp; rfl)); intro gs hgs w15 BK4 hb4; have BS := Aside0.mk BK4; have GS := Aside0.mk (show w.heap.size ≤ gs by rw [hgs]; exact H2.out.low.size); have NS := Aside0.mk (show ga < gs ∧ gl < gs ∧ bm < gs by rw [hgs]; exact ⟨blk_lt H2.out.hat, blk_lt H2.out.hl, H2.out.nm.lt⟩); have H2n := Aside0.mk (H2.out.box hb4 (show _ ≤ gs by rw [hgs]; exact Nat.le_refl _)); clear H2 BK4 hb4 hgs; have H2 := H2n; clear H2n) | ((with_reducible refine gate_store (t := 37) rfl ?_); refine wpList_store_whole rfl rfl rfl gs _ #[.string sn, .int .i8 sk, .int .i64 sa] _ rfl rfl BS.out (by kernel_rfl) rfl (sym_one _ _ _) ?_; intro w16 hp; have H2n := Aside0.mk (H2.out.put hp GS.out (by have := NS.out; omega) (by have := NS.out; omega) (by have := NS.out; omega) (fun k hk => hk.2)); have BSn := Aside0.mk hp.blk; clear H2 BS hp; have H2 := H2n; have BS := BSn; clear H2n BSn; have hs0 := blk_cell BS.out 0; have hs1 := blk_cell BS.out 1; have hs2 := blk_cell BS.out 2) | (go_at_call 42; refine (find.calls sn _ bm L H2.out.nm).mono ?_; rw [HFD.out]; rintro e_ w17 ⟨rfl, hb5⟩; have H2n := Aside0.mk (H2.out.below hb5); have BSn := Aside0.mk (blk_below BS.out hb5); clear H2 BS hb5 hs0 hs1 hs2; have H2 := H2n; have BS := BSn; clear H2n BSn; have hs0 := blk_cell BS.out 0; have hs1 := blk_cell BS.out 1; have hs2 := blk_cell BS.out 2) | ((with_reducible refine gate_dst (N := 17) rfl ?_); refine box_event ?hg (N := 17) ?hd (cs := #[.int .i64 0, .int .i64 0]) (t := 54) ?hr ?_; (case hd => rfl); (case hg => rfl); (case hr => first | (go_simp; done) | (go_simp; rfl)); intro gx hgx w18 BK6 hb6; have BX := Aside0.mk BK6; have GX := Aside0.mk (show w.heap.size ≤ gx by rw [hgx]; exact H2.out.low.size); have NX := Aside0.mk (show ga < gx ∧ gl < gx ∧ bm < gx ∧ gs < gx by rw [hgx]; exact ⟨blk_lt H2.out.hat, blk_lt H2.out.hl, H2.out.nm.lt, blk_lt BS.out⟩); have H2n := Aside0.mk (H2.out.box hb6 (show _ ≤ gx by rw [hgx]; exact Nat.le_refl _)); have BSn := Aside0.mk (blk_below BS.out hb6); clear H2 BS BK6 hb6 hgx hs0 hs1 hs2; have H2 := H2n; have BS := BSn; clear H2n BSn; have hs0 := blk_cell BS.out 0; have hs1 := blk_cell BS.out 1; have hs2 := blk_cell BS.out 2) | ((with_reducible refine gate_store (t := 54) rfl ?_); refine wpList_store_whole rfl rfl rfl gx _ #[.int .i64 f0, .int .i64 f1] _ rfl rfl BX.out (by kernel_rfl) rfl (def_one _ _) ?_; intro w20 hp; have H2n := Aside0.mk (H2.out.put hp GX.out (by have := NX.out; omega) (by have := NX.out; omega) (by have := NX.out; omega) (fun k hk => hk.2)); have BSn := Aside0.mk (blk_grown BS.out (put_grownN hp) (fun e => by have := NX.out; have := Option.some.inj e; omega)); have BXn := Aside0.mk hp.blk; clear H2 BS BX hp; (try clear hs0 hs1 hs2); (try clear hk0 hk1); have H2 := H2n; have BS := BSn; have BX := BXn; clear H2n BSn BXn; have hs0 := blk_cell BS.out 0; have hs1 := blk_cell BS.out 1; have hs2 := blk_cell BS.out 2; have hk0 := blk_cell BX.out 0; have hk1 := blk_cell BX.out 1) | ((with_reducible refine gate_store (t := 80) rfl ?_); refine wpList_store_whole rfl rfl rfl ga _ #[.int .i64 (i : Int), .int .i64 (j : Int)] _ rfl rfl H2.out.hat (by kernel_rfl) rfl (at_one _ _) ?_; intro w22 hp; have HE := Aside0.mk (hp.below H2.out.low H2.out.ba); have BA := Aside0.mk hp.blk; clear hp H2 BS BX hs0 hs1 hs2 hk0 hk1; have hat0 := blk_cell BA.out 0; have hat1 := blk_cell BA.out 1))
           repeat (go_quiet (fail); try go_wp2)
           (try rw [Exit.noGoto_ret])
           (try simp only [Exit.inBlock, Exit.then])
           refine bodyPost_ret (results_tmp4 rfl _ _ _) rfl ?_
           exact ⟨_, rfl, Kd.S_nil _ _ _ _ _, pw_below_drewN HE.out _⟩
        ·
         have hj0 : j = x4.length := by omega
         subst hj0
         have hltb2 : decide ((x4.length : Int) < (x4.length : Int)) = false := by simp
         have h2 := H2.out
         have hst := HST.out HFR.out
         rw [show ∀ (A : List (List DefT)) (r : List DefT) (B : List (List DefT)), A ++ r :: B = (A ++ [r]) ++ B from fun A r B => by simp] at h2
         clear H2 hlt2 hjle
         have H2 := Aside0.mk h2
         have HS2 := Aside0.mk hst
         clear h2 hst
         go_wp2
         go_roundw
         case measure => have hq := HLT.out; (try rw [HWR.out]); simp only [intOf]; omega
         case rel => exact ⟨rfl, i + 1, by first | rfl | (rw [HWR.out]; done), by have := HLT.out; omega, ⟨by rw [HS2.out]⟩, ⟨by rw [HS2.out]; exact H2.out⟩⟩
      ·
       have hi0 : i = l0.length := by omega
       subst hi0
       have hltb : decide ((l0.length : Int) < (l0.length : Int)) = false := by simp
       have h := HH.out
       have h2 := H2.out
       have hf := HF.out
       obtain ⟨dd, oo, hdd⟩ : ∃ dd oo, rowsX L l0 l0.length = (dd, oo) := ⟨_, _, rfl⟩
       rw [hdd] at h h2 hf
       simp only at hf h2
       subst hf
       simp only [Option.some.injEq, Prod.mk.injEq] at h
       obtain ⟨rfl, rfl, rfl, rfl⟩ := h
       rw [Nat.sub_self, List.replicate_zero, List.append_nil] at h2
       clear HH H2 HF hdd hlt hile
       have H2 := Aside0.mk h2
       clear h2
       go_wp2
       (try rw [Exit.noGoto_ret])
       (try simp only [Exit.inBlock, Exit.then])
       refine bodyPost_ret (results_tmp4 rfl _ _ _) rfl ?_
       exact ⟨_, rfl, H2.out.own, H2.out.low⟩
theorem symbol_Resolve.calls (A0 : Option Addr) (c0 : Nat) (l0 : List ObjT) (r1 : List (List DefT)) (r2 : Int) (r3 : Int) (r4 : Int) (w : World) (hr0 : Kd.C k27 w A0 l0.length l0) (hc0 : l0.length ≤ c0) (h : symbol_Resolve.f l0 = some (r1, r2, r3, r4)) :
  Calls Try.prog 16 #[.slice A0 l0.length c0] w fun e w' => ∃ v0_ : Value, e = .returned (.tuple #[v0_, .int .i64 r2, .int .i64 r3, .int .i64 r4]) ∧ Kd.S (Kd.slice 54 k54) 61 w' w.heap.size (fun _ => True) v0_ r1 ∧ Below w.heap.size w w' := by
 unfold symbol_Resolve.f at h
 split at h
 ·
  next hb =>
  rw [Bool.and_eq_true, decide_eq_true_eq, List.all_eq_true] at hb
  exact symRes.calls A0 c0 l0 w r1 r2 r3 r4 hr0 (fun i hi => of_decide_eq_true (hb.2 i (List.mem_range.mpr hi))) h
 ·
  cases h
end Go.Proofs.Ytiaohbbafaaibab.P
