/- OWN TEXT and printed parts of this claim, laid together: ObjM, WireF, HRefB, HWrites, Opn, OpnW. -/
import Derived.Test.YtiaohbbafaaibabGreatDoorZxM10
import Derived.Test.YtiaohbbafaaibabGreatDoorZxM8
import Derived.Test.YtiaohbbafaaibabGreatDoorZxM9
import Derived.Test.YtiaohbbafaaibabGreatDoorZxM5
import Derived.Test.YtiaohbbafaaibabGreatDoorZxM0
import Derived.Test.YtiaohbbafaaibabGreatDoorZxM1
import Derived.Test.YtiaohbbafaaibabGreatDoorZxM7
import Derived.Test.YtiaohbbafaaibabGreatDoorZxM6
import Derived.Test.YtiaohbbafaaibabGreatDoorZxWWords
import Derived.SizedLaws
import Derived.Deep.Slices
import Derived.Deep.Fields
import Derived.ChangeSame
import Derived.OpenShut
/- OWN TEXT: the reference's check of an object comes to the same as the program's. -/
set_option linter.unusedVariables false
set_option linter.unusedSimpArgs false
namespace Go.Proofs.YtiaohbbafaaibabGreatDoor.P
open Go.RowKit Go.Maps Go.Proofs.YtiaohbbafaaibabGreatDoorW.PrintWords Go.Proofs.YtiaohbbafaaibabGreatDoorW.PrintLast Go.Proofs.YtiaohbbafaaibabGreatDoorW.PrintMore Go.Proofs.YtiaohbbafaaibabGreatDoor.MapB

theorem ofo2 (l : List Sym) (hl : l.length ≤ 1000000000) (a : ByteArray) (c : List Int) (dd : Int) (e : List Int) (f : List Rel) (nm : ByteArray) : Ev (fun k => pleatref03_Of.f k a c dd e l f nm) (ofN nm l 0) := by
 unfold pleatref03_Of.f
 have : ∀ d i : Nat, i + d = l.length → Ev (fun k => pleatref03_Of.l0 k nm (i : Int) a c dd e l f) (ofN nm (l.drop i) i) := by
  intro d
  induction d with
  | zero =>
   intro i hi
   rw [List.drop_eq_nil_of_le (by omega)]
   exact Ev.succ (Ev.iteF (by omega) (Ev.val rfl))
  | succ d ih =>
   intro i hi
   have hlt : i < l.length := by omega
   rw [drop_get hlt]
   unfold ofN
   refine Ev.succ (Ev.iteT (by omega) (Ev.iteT (by omega) ?_))
   simp only [sy_get hlt, wrapS hlt hl]
   refine Ev.ite2 (fun h => Ev.val (by rw [if_pos h])) (fun h => ?_)
   rw [if_neg h]
   exact ih (i + 1) (by omega)
 exact this l.length 0 (by omega)
def LetC (c : Int) : Prop := (97 ≤ c ∧ c ≤ 122) ∨ (65 ≤ c ∧ c ≤ 90) ∨ c = 95
instance (c : Int) : Decidable (LetC c) := by unfold LetC; infer_instance
theorem letter1 (c : Int) : pleatref03_letter.f c = some (decide (LetC c)) := by
 by_cases h : LetC c
 ·
  rw [decide_eq_true h]
  unfold LetC at h
  unfold pleatref03_letter.f
  repeat' split
  all_goals first
   | rfl
   | exact congrArg some (beq_iff_eq.mpr (by omega))
 ·
  rw [decide_eq_false h]
  unfold LetC at h
  unfold pleatref03_letter.f
  repeat' split
  all_goals first
   | (exfalso; omega)
   | exact congrArg some (beq_eq_false_iff_ne.mpr (by omega))
def restS (s : ByteArray) : Nat → Nat → Bool
 | 0, _ => true
 | d + 1, i => decide (OkC i (bt s (i : Int))) && restS s d (i + 1)
theorem restS_iff (s : ByteArray) : ∀ d i, restS s d i = true ↔ ∀ j, i ≤ j → j < i + d → OkC j (bt s (j : Int))
  | 0, i => by simp [restS]; intro j h1 h2; omega
  | d + 1, i => by
    unfold restS
    rw [Bool.and_eq_true, restS_iff s d (i + 1), decide_eq_true_eq]
    constructor
    · rintro ⟨h1, h2⟩ j hj hk
      by_cases e : j = i
      · subst e; exact h1
      · exact h2 j (by omega) (by omega)
    · intro h
      exact ⟨h i (by omega) (by omega), fun j hj hk => h j (by omega) (by omega)⟩
theorem name3 (s : ByteArray) : Ev (fun k => pleatref03_Name.f k s) (nameS s) := by
 unfold pleatref03_Name.f
 refine Ev.ite2 (fun h => ?_) (fun h => ?_)
 ·
  refine Ev.succ ?_
  simp only [pleatref03_Name.j0, if_true]
  refine Ev.val ?_
  unfold nameS
  exact (decide_eq_false (by omega)).symm
 refine Ev.ite2 (fun h2 => ?_) (fun h2 => ?_)
 ·
  refine Ev.succ ?_
  simp only [pleatref03_Name.j0, if_true]
  refine Ev.val ?_
  unfold nameS
  exact (decide_eq_false (by omega)).symm
 refine Ev.iteT (by omega) (Ev.bind0 (letter1 _) ?_)
 by_cases c : LetC (bt s 0)
 ·
  rw [decide_eq_true c]
  have hl : ∀ d i : Nat, 0 < i → i + d = s.size → Ev (fun k => pleatref03_Name.l0 k s (i : Int)) (restS s d i) := by
   intro d
   induction d with
   | zero => intro i hp hi; exact Ev.succ (Ev.iteF (by omega) (Ev.val rfl))
   | succ d ih =>
    intro i hp hi
    have IH := ih (i + 1) (by omega) (by omega)
    have hw := wrapS (i := i) (n := s.size) (by omega) (by omega)
    refine Ev.succ (Ev.iteT (by omega) (Ev.iteT (by omega) (Ev.bind0 (letter1 _) ?_)))
    simp only [hw]
    unfold restS
    refine Ev.ite2 (fun h => ?_) (fun h => ?_)
    ·
     rw [decide_eq_true_eq] at h
     unfold LetC at h
     rw [decide_eq_true (show OkC i (bt s (i : Int)) by unfold OkC; omega), Bool.true_and]
     exact IH
    ·
     rw [decide_eq_true_eq] at h
     unfold LetC at h
     refine Ev.ite2 (fun h3 => Ev.ite2 (fun h4 => ?_) (fun h4 => Ev.ite2 (fun h5 => ?_) (fun h5 => Ev.val ?_))) (fun h3 => Ev.ite2 (fun h5 => ?_) (fun h5 => Ev.val ?_))
     ·
      rw [decide_eq_true (show OkC i (bt s (i : Int)) by unfold OkC; omega), Bool.true_and]
      exact IH
     ·
      rw [decide_eq_true (show OkC i (bt s (i : Int)) by unfold OkC; omega), Bool.true_and]
      exact IH
     ·
      rw [decide_eq_false (show ¬ OkC i (bt s (i : Int)) by unfold OkC; omega), Bool.false_and]
     ·
      rw [decide_eq_true (show OkC i (bt s (i : Int)) by unfold OkC; omega), Bool.true_and]
      exact IH
     ·
      rw [decide_eq_false (show ¬ OkC i (bt s (i : Int)) by unfold OkC; omega), Bool.false_and]
  refine Ev.succ ?_
  simp only [pleatref03_Name.j0, Bool.not_true, Bool.false_eq_true, if_false]
  refine (hl (s.size - 1) 1 (by omega) (by omega)).to ?_
  unfold nameS
  rw [Bool.eq_iff_iff, restS_iff, decide_eq_true_eq]
  constructor
  ·
   intro hr
   refine ⟨by omega, by omega, fun j hj => ?_⟩
   by_cases e : j = 0
   ·
    subst e
    unfold LetC at c
    unfold OkC
    simp only [Int.natCast_zero]
    omega
   ·
    exact hr j (by omega) (by omega)
  ·
   rintro ⟨_, _, hr⟩ j h1 h2
   exact hr j (by omega)
 ·
  rw [decide_eq_false c]
  refine Ev.succ ?_
  simp only [pleatref03_Name.j0, Bool.not_false, if_true]
  refine Ev.val ?_
  unfold nameS
  refine (decide_eq_false (fun hall => c ?_)).symm
  have := hall.2.2 0 (by omega)
  unfold OkC at this
  simp only [Int.natCast_zero] at this
  unfold LetC
  omega

section
variable (nm : ByteArray) (code : List Int) (dat : Int) (data : List Int) (syms : List Sym) (rels : List Rel)
theorem size3 : Ev (fun k => pleatref03_size.f k nm code dat data syms rels) (sizeS nm code dat data syms.length rels.length) := by
 have h : ∀ b, b = nameS nm → (if b = true then (if (code.length : Int) > 16384 then (some ((21 : Int), ((-1) : Int))) else (if (syms.length : Int) > 256 then (some (21, (-2))) else (if (rels.length : Int) > (code.length : Int) then (some (21, (-3))) else (if dat < 0 then (some (25, (-1))) else (if dat > 4096 then (some (25, (-1))) else (if (data.length : Int) > (wrap64 (4096 - dat)) then (some (25, (-1))) else (some (0, 0)))))))) else (some (20, (-1)))) = some (sizeS nm code dat data syms.length rels.length) := by
  intro b hb
  subst hb
  unfold sizeS
  by_cases c0 : nameS nm = true
  ·
   rw [if_pos c0, if_pos c0]
   by_cases c1 : (code.length : Int) > 16384
   ·
    rw [if_pos c1, if_pos c1]
   rw [if_neg c1, if_neg c1]
   by_cases c2 : (syms.length : Int) > 256
   ·
    rw [if_pos c2, if_pos c2]
   rw [if_neg c2, if_neg c2]
   by_cases c3 : (rels.length : Int) > (code.length : Int)
   ·
    rw [if_pos c3, if_pos c3]
   rw [if_neg c3, if_neg c3]
   by_cases c4 : dat < 0
   ·
    rw [if_pos c4, if_pos c4]
   rw [if_neg c4, if_neg c4]
   by_cases c5 : dat > 4096
   ·
    rw [if_pos c5, if_pos c5]
   rw [if_neg c5, if_neg c5]
   rw [show wrap64 (4096 - dat) = 4096 - dat from wrap64_id (by omega) (by omega)]
   split <;> rfl
  ·
   rw [if_neg c0, if_neg c0]
 unfold pleatref03_size.f
 exact Ev.bind (name3 nm) ((h _ rfl) ▸ Ev.now _)
theorem symbols3 (hl : syms.length ≤ 100000000) : Ev (fun k => pleatref03_symbols.f k nm code dat data syms rels) (symsS syms (code.length : Int)) := by
  unfold pleatref03_symbols.f
  refine Ev.upto (g := fun k i => pleatref03_symbols.l0 k i nm code dat data syms rels) (n := syms.length) (fun i => ∀ j, j < i → symE syms (code.length : Int) j = 0) (fun i hi hz IH => ?_) (fun hz => ?_) 0 (by omega) (fun j hj => absurd hj (Nat.not_lt_zero _))
  · have hse := symE_eq syms (code.length : Int) i
    have hbad : symE syms (code.length : Int) i ≠ 0 → symsS syms (code.length : Int) = (symE syms (code.length : Int) i, (i : Int)) := fun hne => firstS_at hi hz hne
    have hgo : symE syms (code.length : Int) i = 0 → _ := fun h0 => IH (fun j hj => by
      by_cases e : j = i
      · rw [e]; exact h0
      · exact hz j (by omega))
    clear IH hz
    have hos := ofN_seen hi
    rw [sy_at hi] at hos
    rw [sy_at hi] at hse
    have hlen : (syms.length : Int) ≤ 100000000 := by omega
    refine Ev.succ (Ev.iteT (by omega) (Ev.iteT (by omega) ?_))
    simp only [sy_get hi, wrapS hi (by omega)]
    generalize hs : syms[i] = s at hos hse ⊢
    obtain ⟨sn, sk, sa⟩ := s
    simp only at hos hse ⊢
    generalize symE syms (code.length : Int) i = g at hse hbad hgo
    refine Ev.bind (name3 sn) (Ev.ite2 (fun h => ?_) (fun h => ?_))
    · rw [if_pos h] at hse
      refine Ev.bind (ofo2 syms (by omega) nm code dat data rels sn) (Ev.ite2 (fun h2 => ?_) (fun h2 => ?_))
      · rw [if_neg (by rw [hos.1 h2]; decide)] at hse
        refine Ev.ite2 (fun h3 => ?_) (fun h3 => ?_)
        · rw [if_pos h3] at hse
          refine Ev.succ ?_
          simp only [pleatref03_symbols.j1, if_true]
          exact Ev.val (by rw [hbad (by rw [hse]; decide), hse])
        · rw [if_neg h3] at hse
          refine Ev.succ ?_
          simp only [pleatref03_symbols.j1, decide_eq_true_eq]
          refine Ev.ite2 (fun h4 => ?_) (fun h4 => ?_)
          · rw [if_pos h4] at hse
            exact Ev.val (by rw [hbad (by rw [hse]; decide), hse])
          · rw [if_neg h4] at hse
            refine Ev.ite2 (fun h5 => ?_) (fun h5 => ?_)
            · rw [if_pos h5] at hse
              exact Ev.val (by rw [hbad (by rw [hse]; decide), hse])
            rw [if_neg h5] at hse
            refine Ev.ite2 (fun h6 => ?_) (fun h6 => ?_)
            · rw [if_pos h6] at hse
              exact Ev.val (by rw [hbad (by rw [hse]; decide), hse])
            rw [if_neg h6] at hse
            refine Ev.ite2 (fun h7 => Ev.ite2 (fun h8 => ?_) (fun h8 => ?_)) (fun h7 => ?_)
            · rw [if_pos h7, if_pos h8] at hse
              simp only [wrapS hi (show syms.length ≤ 1000000000 by omega)]
              exact hgo hse
            · rw [if_pos h7, if_neg h8] at hse
              exact Ev.val (by rw [hbad (by rw [hse]; decide), hse])
            · rw [if_neg h7] at hse
              simp only [wrapS hi (show syms.length ≤ 1000000000 by omega)]
              exact hgo hse
      · rw [if_pos (by
          rw [← Bool.not_eq_false]
          exact fun e => h2 (hos.2 e))] at hse
        exact Ev.val (by rw [hbad (by rw [hse]; decide), hse])
    · rw [if_neg h] at hse
      exact Ev.val (by rw [hbad (by rw [hse]; decide), hse])
  · exact Ev.succ (Ev.iteF (by omega) (Ev.val (firstS_zero hz).symm))
theorem relocs3 (hw : wordsO code = true) (hc : code.length ≤ 100000000) (hl : rels.length ≤ 100000000) : Ev (fun k => pleatref03_relocs.f k nm code dat data syms rels) (firstS (relE code (syms.length : Int) rels) rels.length rels.length) := by
  unfold pleatref03_relocs.f
  refine Ev.upto (g := fun k i => pleatref03_relocs.l0 k i nm code dat data syms rels) (n := rels.length) (fun i => ∀ j, j < i → relE code (syms.length : Int) rels j = 0) (fun i hi hz IH => ?_) (fun hz => ?_) 0 (by omega) (fun j hj => absurd hj (Nat.not_lt_zero _))
  · have hse := relE_eq code (syms.length : Int) rels i
    have hlo := lastR_lo _ _ _ i hz
    have hbad : relE code (syms.length : Int) rels i = 24 → firstS (relE code (syms.length : Int) rels) rels.length rels.length = (24, (i : Int)) := fun h24 => by rw [firstS_at hi hz (by rw [h24]; decide), h24]
    have hgo : relE code (syms.length : Int) rels i = 0 → _ := fun h0 => IH (fun j hj => by
      by_cases e : j = i
      · rw [e]; exact h0
      · exact hz j (by omega))
    clear IH hz
    rw [rl_at hi] at hse
    have hprev : 0 < i → lastR rels i = (rd_T82 rels (wrap64 ((i : Int) - 1))).f0 := fun hp => by
      obtain ⟨m, rfl⟩ : ∃ m, i = m + 1 := ⟨i - 1, by omega⟩
      rw [show wrap64 (((m + 1 : Nat) : Int) - 1) = (m : Int) by rw [wrap64_id (by omega) (by omega)]; omega]
      rfl
    have hw1 : 0 < i → wrap64 ((i : Int) - 1) = (i : Int) - 1 := fun hp => wrap64_id (by omega) (by omega)
    refine Ev.succ (Ev.iteT (by omega) (Ev.iteT (by omega) ?_))
    simp only [rl_get hi]
    generalize hs : rels[i] = s at hse ⊢
    obtain ⟨sa, sm⟩ := s
    simp only at hse ⊢
    have bad : ∀ {c : Bool}, c = true → relE code (syms.length : Int) rels i = 24 → Ev (fun k => pleatref03_relocs.j1 k (i : Int) c nm code dat data syms rels sa sm) (firstS (relE code (syms.length : Int) rels) rels.length rels.length) := fun hc h24 => by
      subst hc
      refine Ev.succ ?_
      simp only [pleatref03_relocs.j1, if_true]
      exact Ev.val (hbad h24).symm
    have tail : ¬ sa ≤ lastR rels i → ¬ sa < 0 → ¬ sa ≥ (code.length : Int) → Ev (fun k => if sm < 0 then pleatref03_relocs.j1 k (i : Int) true nm code dat data syms rels sa sm else pleatref03_relocs.j1 k (i : Int) (decide (sm ≥ (syms.length : Int))) nm code dat data syms rels sa sm) (firstS (relE code (syms.length : Int) rels) rels.length rels.length) := fun n1 n2 n3 => by
      rw [if_neg n1, if_neg n3] at hse
      refine Ev.ite2 (fun h => bad rfl (by rw [hse, if_pos h])) (fun h => ?_)
      rw [if_neg h] at hse
      by_cases h4 : sm ≥ (syms.length : Int)
      · exact bad (decide_eq_true h4) (by rw [hse, if_pos h4])
      rw [if_neg h4] at hse
      rw [decide_eq_false h4]
      have hxr : 0 ≤ rd code sa ∧ rd code sa < 4294967296 := by
        rw [show sa = ((sa.toNat : Nat) : Int) by omega, rd_get (by omega)]
        exact wordsO_at hw (List.getElem_mem _)
      refine Ev.succ ?_
      simp only [pleatref03_relocs.j1, Bool.false_eq_true, if_false]
      refine Ev.iteT (by omega) (Ev.iteT (by omega) (Ev.bind (tgt2 hxr.1 hxr.2) (Ev.ite2 (fun h5 => Ev.ite2 (fun h6 => ?_) (fun h6 => ?_)) (fun h5 => ?_))))
      · rw [if_pos h5, if_pos h6] at hse
        simp only [wrapS hi (show rels.length ≤ 1000000000 by omega)]
        exact hgo hse
      · rw [if_pos h5, if_neg h6] at hse
        exact Ev.val (hbad hse).symm
      · rw [if_neg h5] at hse
        exact Ev.val (hbad hse).symm
    refine Ev.ite2 (fun h1 => bad rfl (by rw [hse, if_pos (by omega)])) (fun h1 => ?_)
    refine Ev.ite2 (fun h2 => bad rfl ?_) (fun h2 => ?_)
    · rw [hse]
      by_cases h3 : sa ≤ lastR rels i
      · rw [if_pos h3]
      · rw [if_neg h3, if_pos h2]
    refine Ev.ite2 (fun h3 => ?_) (fun h3 => ?_)
    · have hp : 0 < i := by omega
      rw [hw1 hp] at hprev ⊢
      have hprev := hprev hp
      refine Ev.iteT (by omega) (Ev.iteT (by omega) ?_)
      simp only [← hprev]
      refine Ev.ite2 (fun h4 => bad rfl (by rw [hse, if_pos h4])) (fun h4 => tail h4 h1 h2)
    · obtain rfl : i = 0 := by omega
      exact tail (by show ¬ sa ≤ -1; omega) h1 h2
  · exact Ev.succ (Ev.iteF (by omega) (Ev.val (firstS_zero hz).symm))
theorem chk3 (hw : wordsO code = true) (hs : syms.length ≤ 100000000) (hc : code.length ≤ 100000000) (hl : rels.length ≤ 100000000) : Ev (fun k => pleatref03_Check.f k nm code dat data syms rels) (chkO nm code dat data syms rels) := by
  unfold pleatref03_Check.f chkO
  refine Ev.bind (size3 nm code dat data syms rels) (Ev.ite2 (fun h => ?_) (fun h => Ev.val (by rw [if_neg h])))
  rw [if_pos h]
  refine Ev.bind (symbols3 nm code dat data syms rels hs) (Ev.ite2 (fun h => ?_) (fun h => Ev.val (by rw [if_neg h])))
  rw [if_pos h]
  refine Ev.bind (relocs3 nm code dat data syms rels hw hc hl) (Ev.ite2 (fun h => ?_) (fun h => ?_))
  · have hz := firstS_iff h
    have hrs : relocsS code (syms.length : Int) rels = scanS (scanE code (markB rels rels.length)) code.length code.length := relocs_scan hz
    have hpl := scan_plain hz
    have hpair : (if (relocsS code (syms.length : Int) rels).1 = 0 then ((0 : Int), (0 : Int)) else relocsS code (syms.length : Int) rels) = relocsS code (syms.length : Int) rels := by
      rw [hrs]
      have key : ∀ d i, i + d = code.length → (∀ q, q < i → scanE code (markB rels rels.length) q = 0) → (if (scanS (scanE code (markB rels rels.length)) code.length code.length).1 = 0 then ((0 : Int), (0 : Int)) else scanS (scanE code (markB rels rels.length)) code.length code.length) = scanS (scanE code (markB rels rels.length)) code.length code.length := by
        intro d
        induction d with
        | zero => intro i hi hq; rw [scanS_zero (fun q h => hq q (by omega)), if_pos rfl]
        | succ d ih =>
          intro i hi hq
          by_cases e : scanE code (markB rels rels.length) i = 0
          · exact ih (i + 1) (by omega) (fun p hp => by
              by_cases e2 : p = i
              · rw [e2]; exact e
              · exact hq p (by omega))
          · rw [scanS_at (by omega) hq e, if_neg e]
      exact key code.length 0 (by omega) (fun q hq => absurd hq (Nat.not_lt_zero _))
    rw [hpair, hrs]
    refine Ev.upto (g := fun k i => pleatref03_Check.l0 k i nm code dat data syms rels) (n := code.length) (fun i => ∀ j, j < i → scanE code (markB rels rels.length) j = 0) (fun i hi hq IH => ?_) (fun hq => ?_) 0 (by omega) (fun j hj => absurd hj (Nat.not_lt_zero _))
    · have hse := hpl i
      have hgo : scanE code (markB rels rels.length) i = 0 → _ := fun h0 => IH (fun j hj => by
        by_cases e : j = i
        · rw [e]; exact h0
        · exact hq j (by omega))
      have hxr : 0 ≤ rd code (i : Int) ∧ rd code (i : Int) < 4294967296 := by
        rw [rd_get hi]
        exact wordsO_at hw (List.getElem_mem _)
      refine Ev.succ (Ev.iteT (by omega) (Ev.iteT (by omega) (Ev.bind (tgt2 hxr.1 hxr.2) (Ev.ite2 (fun h1 => Ev.ite2 (fun h2 => ?_) (fun h2 => ?_)) (fun h1 => ?_)))))
      · rw [if_pos h1, if_pos h2] at hse
        refine Ev.val ?_
        rw [scanS_at hi hq (by rw [hse]; decide), hse, wrap64_id (by omega) (by omega)]
      · rw [if_pos h1, if_neg h2] at hse
        simp only [wrapS hi (show code.length ≤ 1000000000 by omega)]
        exact hgo hse
      · rw [if_neg h1] at hse
        simp only [wrapS hi (show code.length ≤ 1000000000 by omega)]
        exact hgo hse
    · exact Ev.succ (Ev.iteF (by omega) (Ev.val (scanS_zero hq).symm))
  · refine Ev.val ?_
    have e : relocsS code (syms.length : Int) rels = firstS (relE code (syms.length : Int) rels) rels.length rels.length := by
      unfold relocsS
      rw [if_neg h]
    rw [e, if_neg h]
end
end Go.Proofs.YtiaohbbafaaibabGreatDoor.P

/- OWN TEXT: plain laws: the document's bytes of an object are the bytes that are written. -/
namespace Go.Proofs.YtiaohbbafaaibabGreatDoor.P
open Go.RowKit Go.Maps Go.Proofs.YtiaohbbafaaibabGreatDoorW.PrintWords Go.Proofs.YtiaohbbafaaibabGreatDoorW.PrintLast Go.Proofs.YtiaohbbafaaibabGreatDoorW.PrintMore Go.Proofs.YtiaohbbafaaibabGreatDoor.Arr Go.Proofs.YtiaohbbafaaibabGreatDoor.MapB
set_option linter.unusedVariables false
theorem beN_four (v : Int) : beN v 4 = [(v / 16777216) % 256, (v / 65536) % 256, (v / 256) % 256, v % 256] := by
 simp [beN]
theorem Four_f (v : Int) : pleatref07_Four.f v = some (beN v 4) := by
 unfold pleatref07_Four.f pleatref07_four.f
 rw [beN_four]
 rfl
theorem four_f {v : Int} (h : 0 ≤ v ∧ v < 4294967296) : pleatref04_four.f v = some (beN v 4) := by
 unfold pleatref04_four.f
 rw [Int.emod_eq_of_lt h.1 h.2, Four_f]
 rfl
theorem text_f {s : ByteArray} (h : s.size ≤ 24) : pleatref04_text.f s = some (beN (s.size : Int) 4 ++ bytesOf s) := by
 unfold pleatref04_text.f
 rw [Int.emod_eq_of_lt (by omega) (by omega), Four_f]
 show (if (beN (s.size : Int) 4).length + s.size < 140737488355328 then _ else _) = _
 rw [beN_length, if_pos (by omega)]
theorem beN_eight (v : Int) (h : 0 ≤ v ∧ v < 18446744073709551616) : beN (v / 4294967296 % 4294967296) 4 ++ beN (v % 4294967296) 4 = beN v 8 := by
 have h8 : beN v 8 = [(v / 72057594037927936) % 256, (v / 281474976710656) % 256, (v / 1099511627776) % 256, (v / 4294967296) % 256, (v / 16777216) % 256, (v / 65536) % 256, (v / 256) % 256, v % 256] := by simp [beN]
 rw [h8, beN_four, beN_four]
 show [_, _, _, _, _, _, _, _] = _
 simp only [List.cons.injEq, and_true]
 omega
theorem Eight_f (v : Int) : pleatref07_Eight.f v = some (beN (mU v) 8) := by
 unfold pleatref07_Eight.f pleatref07_eight.f
 have h4 : ∀ x, pleatref07_four.f x = some (beN x 4) := fun x => by unfold pleatref07_four.f; rw [beN_four]
 rw [u64_w, h4, h4]
 simp only [Option.bind_some, beN_length]
 rw [if_pos (by decide), beN_eight _ (u64_range v)]
 rfl
theorem Sum_f (l : List Int) (hl : l.length ≤ 1000000000) : Ev (fun k => pleatref07_Sum.f k l) (sumN l) := by
 have main : ∀ d i : Nat, ∀ s : Int, i + d = l.length → Ev (fun k => pleatref07_Sum.l0 k l s (i : Int)) (sumF s (l.drop i)) := by
  intro d
  induction d with
  | zero =>
   intro i s hi
   rw [List.drop_eq_nil_of_le (by omega)]
   exact Ev.succ (Ev.iteF (by omega) (Ev.val rfl))
  | succ d ih =>
   intro i s hi
   have hlt : i < l.length := by omega
   have hs : sumF s (l.drop i) = sumF ((s * 31 + l[i]) % 4294967296) (l.drop (i + 1)) := by rw [List.drop_eq_getElem_cons hlt]; rfl
   refine Ev.succ (Ev.iteT (by omega) (Ev.iteT (by omega) ?_))
   rw [wrapS hlt (by omega), P.rd_get hlt, hs, show (31 * s % 4294967296 + l[i] % 4294967296) % 4294967296 = (s * 31 + l[i]) % 4294967296 by omega]
   exact ih (i + 1) _ (by omega)
 exact main l.length 0 0 (by omega)
end Go.Proofs.YtiaohbbafaaibabGreatDoor.P

/- OWN TEXT: the document's bytes of an object, walked: they are the bytes that are written. -/
namespace Go.Proofs.YtiaohbbafaaibabGreatDoor.P
open Go.RowKit Go.Maps Go.Proofs.YtiaohbbafaaibabGreatDoorW.PrintWords Go.Proofs.YtiaohbbafaaibabGreatDoorW.PrintLast Go.Proofs.YtiaohbbafaaibabGreatDoorW.PrintMore Go.Proofs.YtiaohbbafaaibabGreatDoor.Arr Go.Proofs.YtiaohbbafaaibabGreatDoor.MapB
set_option linter.unusedVariables false
set_option linter.unusedSimpArgs false
/-- bytes that are gathered: the row, at most N of them; the object's own box. -/
structure BW (w W : World) (gb : Nat) (ob : Obj) (v : Value) (l : List Int) (N : Nat) : Prop where
  low : Below w.heap.size w W
  box : W.heap[gb]? = some ob
  row : Kd.R (Kd.int .u8) 5 W w.heap.size (fun _ => True) v l
  len : l.length ≤ N
  ty : ∀ cs, ob ≠ .cells cs 5 (0, 0)
section
variable {w W W1 : World} {gb : Nat} {ob : Obj} {v : Value} {l : List Int} {N : Nat}
theorem R_ex {base : Nat} {r : List Int} (h : Kd.R (Kd.int .u8) 5 W base (fun _ => True) v r) : ∃ r1, r1 = r ∧ Kd.R (Kd.int .u8) 5 W base (fun _ => True) v r1 := ⟨r, rfl, h⟩
theorem BW.below (h : BW w W gb ob v l N) (hb : Below W.heap.size W W1) : BW w W1 gb ob v l N := ⟨below_then h.low h.low.size hb, blk_below h.box hb, Kd.R_below h.row hb, h.len, h.ty⟩
theorem BW.app {P : Program} {ops : Array Oper} {rest : List Oper} {o : Oper} {a : Act} {Q : Exit → Act → World → Prop} (h : BW w W gb ob v l N) (hg : o.guard = none) (s x : Operand) (t : TypeId) (ho : o.op = .call { callee := .builtin .append, args := #[s, x], argTypes := #[t, t] })
  (ht : P.underlying t = some (.slice 5)) (hinfo : (P.info? 5).map (fun i => (i.zero, i.size, i.bytes)) = some (some (.int .u8 0), 1, 1)) (hs : a.eval s = v) {A : Option Addr} {c : Nat} {r : List Int} (hx : a.eval x = .slice A r.length c) (hC : Kd.C (Kd.int .u8) W A r.length r) (d : Nat) (hd : r.length ≤ d) (hN : N + d ≤ 1000000000)
  (k : ∀ v1 w1, BW w w1 gb ob v1 (l ++ r) (N + d) → wpList P ops Q rest (a.put o.dst v1) w1) : wpList P ops Q (o :: rest) a W := by
 refine Kd.R_append_rows (Kd.int .u8) (w0 := w) w.heap.size hg s x t 5 (.int .u8 0) 1 ho ht hinfo rfl (by decide) (by decide) v l r A r.length c (fun _ => True) (fun _ => False) hs hx h.row hC (fun _ _ h => h) (fun _ hk => hk.elim) (fun _ _ => trivial) h.low h.low.size (by have := h.len; omega) ?_
 intro v1 w1 hr hb hg1 _
 refine k v1 w1 ⟨hb, (hg1.block gb (blk_lt h.box) (fun z => ?_)).trans h.box, hr, by rw [List.length_append]; have := h.len; omega, h.ty⟩
 obtain ⟨_, _, _, q, hq, cells, hc⟩ := (Kd.R_bound h.row).1 gb z.symm
 obtain rfl : q = 5 := by
  rcases List.mem_cons.1 hq with h | h
  ·
   exact h
  ·
   cases h
 rw [h.box] at hc
 exact h.ty cells (Option.some.inj hc)
end
set_option maxHeartbeats 60000000 in
set_option maxRecDepth 100000 in
theorem refB.calls (a0_0 : ByteArray) (A0_1 : Option Addr) (c0_1 : Nat) (l0_1 : List Int) (a0_2 : Int) (A0_3 : Option Addr) (c0_3 : Nat) (l0_3 : List Int) (A0_4 : Option Addr) (c0_4 : Nat) (l0_4 : List Sym) (A0_5 : Option Addr) (c0_5 : Nat) (l0_5 : List Rel) (w : World) (hr0_1 : Kd.C (Kd.int .u32) w A0_1 l0_1.length l0_1) (hc0_1 : l0_1.length ≤ c0_1) (hr0_3 : Kd.C (Kd.int .i64) w A0_3 l0_3.length l0_3) (hc0_3 : l0_3.length ≤ c0_3) (hr0_4 : Kd.C k65 w A0_4 l0_4.length l0_4) (hc0_4 : l0_4.length ≤ c0_4) (hr0_5 : Kd.C k82 w A0_5 l0_5.length l0_5) (hc0_5 : l0_5.length ≤ c0_5) (hk : WOk a0_0 l0_1 a0_2 l0_3 l0_4 l0_5) :
  Calls Tryz.prog 31 #[.agg #[.string a0_0, .slice A0_1 l0_1.length c0_1, .int .i64 a0_2, .slice A0_3 l0_3.length c0_3, .slice A0_4 l0_4.length c0_4, .slice A0_5 l0_5.length c0_5]] w fun e w' => ∃ v, e = .returned v ∧ Kd.R (Kd.int .u8) 5 w' w.heap.size (fun _ => True) v (writeB a0_0 l0_1 a0_2 l0_3 l0_4 l0_5) ∧ Below w.heap.size w w' := by
 have hu1 := Tryz.underlying27
 have hu3 := Tryz.underlying65
 have hu4 := Tryz.underlying82
 have HK := Aside0.mk hk
 have HB := Aside0.mk (Below.refl w.heap.size w)
 have R1 := Aside0.mk hr0_1
 have R3 := Aside0.mk hr0_3
 have R4 := Aside0.mk hr0_4
 have R5 := Aside0.mk hr0_5
 clear hk hr0_1 hc0_1 hr0_3 hc0_3 hr0_4 hc0_4 hr0_5 hc0_5
 go_enter Tryz.func31, Tryz.ntmps31
 go_upto_region 2 with (((with_reducible refine gate_dst (N := 1) rfl ?_); refine box_event ?hg (N := 1) ?hd (cs := #[.string a0_0, .slice A0_1 l0_1.length c0_1, .int .i64 a0_2, .slice A0_3 l0_3.length c0_3, .slice A0_4 l0_4.length c0_4, .slice A0_5 l0_5.length c0_5]) (t := 27) ?hr ?_; (case hd => rfl); (case hg => rfl); (case hr => first | (go_simp; done) | (go_simp; rfl)); intro gb hg_ w1 BK_ hb_; have BO := Aside0.mk (show w1.heap[gb]? = some (objCell a0_0 A0_1 l0_1.length c0_1 a0_2 A0_3 l0_3.length c0_3 A0_4 l0_4.length c0_4 A0_5 l0_5.length c0_5) from BK_); replace HB := Aside0.mk (bsQ hb_ HB.out); clear BK_ hb_ hg_))
 have hal := below_alloc (Below.refl w1.heap.size w1) (.cells #[.int .u8 80, .int .u8 76, .int .u8 79, .int .u8 49] 5)
 have H := Aside0.mk (show BW w (w1.alloc (.cells #[.int .u8 80, .int .u8 76, .int .u8 79, .int .u8 49] 5)) gb (objCell a0_0 A0_1 l0_1.length c0_1 a0_2 A0_3 l0_3.length c0_3 A0_4 l0_4.length c0_4 A0_5 l0_5.length c0_5) (.slice (some ⟨w1.heap.size, 0, none⟩) 4 4) [80, 76, 79, 49] 4 from ⟨below_then HB.out HB.out.size hal, blk_below BO.out hal, lit_R (MapKept.heap_alloc w1 _).1 HB.out.size, by decide, fun cs h => by injection h with h1 h2; exact absurd h2 (by decide)⟩)
 clear hal HB BO
 generalize w1.alloc (.cells #[.int .u8 80, .int .u8 76, .int .u8 79, .int .u8 49] 5) = w2 at H ⊢
 generalize Value.slice (some ⟨w1.heap.size, 0, none⟩) 4 4 = v0 at H ⊢
 have ha0 := blk_cell H.out.box 0
 have ha1 := blk_cell H.out.box 1
 have ha2 := blk_cell H.out.box 2
 have ha3 := blk_cell H.out.box 3
 have ha4 := blk_cell H.out.box 4
 have ha5 := blk_cell H.out.box 5
 have hn1 := HK.out.hnm
 have hn2 := HK.out.hcode
 go_upto_region 3 with (first | (go_at_call 90; refine (pleatref04_text.calls a0_0 _ _ (text_f HK.out.hnm)).mono ?_; rintro e_ w_ ⟨u_, rfl, hr0_, hb_⟩; obtain ⟨r_, hE_, hr_⟩ := R_ex hr0_; obtain ⟨Au, cu, eu⟩ := Kd.R_slice hr_; subst eu; have HR := Aside0.mk hr_; have HE := Aside0.mk hE_; clear hE_ hr0_; replace H := Aside0.mk (H.out.below hb_); clear hr_ hb_ ha0 ha1 ha2 ha3 ha4 ha5; have ha0 := blk_cell H.out.box 0; have ha1 := blk_cell H.out.box 1; have ha2 := blk_cell H.out.box 2; have ha3 := blk_cell H.out.box 3; have ha4 := blk_cell H.out.box 4; have ha5 := blk_cell H.out.box 5) | ((with_reducible refine gate_builtin (b := .append) (xs := #[.tmp 9, .tmp 12]) rfl ?_); at_builtin; go_loud (refine H.out.app rfl (.tmp 9) (.tmp 12) 31 rfl Tryz.underlying31 info_byte rfl rfl (Kd.R_reads' HR.out).2.2 28 (by rw [HE.out]; rw [List.length_append, beN_length, bytesOf_length]; omega) (by omega) ?_); intro v_ w_ h_; rw [HE.out] at h_; replace H := Aside0.mk h_; clear HR HE h_ ha0 ha1 ha2 ha3 ha4 ha5; have ha0 := blk_cell H.out.box 0; have ha1 := blk_cell H.out.box 1; have ha2 := blk_cell H.out.box 2; have ha3 := blk_cell H.out.box 3; have ha4 := blk_cell H.out.box 4; have ha5 := blk_cell H.out.box 5))
 go_wp2_with (first | (go_at_call 91; refine (pleatref04_four.calls (l0_1.length : Int) _ _ (four_f ⟨by omega, by have := HK.out.hcode; omega⟩)).mono ?_; rintro e_ w_ ⟨u_, rfl, hr0_, hb_⟩; obtain ⟨r_, hE_, hr_⟩ := R_ex hr0_; obtain ⟨Au, cu, eu⟩ := Kd.R_slice hr_; subst eu; have HR := Aside0.mk hr_; have HE := Aside0.mk hE_; clear hE_ hr0_; replace H := Aside0.mk (H.out.below hb_); clear hr_ hb_ ha0 ha1 ha2 ha3 ha4 ha5; have ha0 := blk_cell H.out.box 0; have ha1 := blk_cell H.out.box 1; have ha2 := blk_cell H.out.box 2; have ha3 := blk_cell H.out.box 3; have ha4 := blk_cell H.out.box 4; have ha5 := blk_cell H.out.box 5) | ((with_reducible refine gate_builtin (b := .append) (xs := #[.tmp 14, .tmp 18]) rfl ?_); at_builtin; go_loud (refine H.out.app rfl (.tmp 14) (.tmp 18) 31 rfl Tryz.underlying31 info_byte rfl rfl (Kd.R_reads' HR.out).2.2 4 (by rw [HE.out]; rw [beN_length]; exact Nat.le_refl _) (by omega) ?_); intro v_ w_ h_; rw [HE.out] at h_; replace H := Aside0.mk h_; clear HR HE h_ ha0 ha1 ha2 ha3 ha4 ha5; have ha0 := blk_cell H.out.box 0; have ha1 := blk_cell H.out.box 1; have ha2 := blk_cell H.out.box 2; have ha3 := blk_cell H.out.box 3; have ha4 := blk_cell H.out.box 4; have ha5 := blk_cell H.out.box 5))
 clear hn1
 obtain ⟨PL, hPL⟩ : ∃ PL : List Int, PL = [80, 76, 79, 49] ++ (beN (a0_0.size : Int) 4 ++ bytesOf a0_0) ++ beN (l0_1.length : Int) 4 := ⟨_, rfl⟩
 rw [← hPL] at H
 have HPL := Aside0.mk hPL
 clear hPL ha0 ha1 ha2 ha3 ha4 ha5
 go_loopw [3, 4] (fun u3 u4 wr => ∃ i : Nat, u4 = .int .i64 (i : Int) ∧ i ≤ l0_1.length ∧ Aside0 (BW w wr gb (objCell a0_0 A0_1 l0_1.length c0_1 a0_2 A0_3 l0_3.length c0_3 A0_4 l0_4.length c0_4 A0_5 l0_5.length c0_5) u3 (PL ++ (l0_1.take i).flatMap (fun x => beN x 4)) (36 + 4 * i))) (fun _ u4 _ => l0_1.length - (intOf u4).toNat)
 case atStart => exact ⟨0, rfl, Nat.zero_le _, ⟨by rw [List.take_zero, List.flatMap_nil, List.append_nil]; exact ⟨H.out.low, H.out.box, H.out.row, Nat.le_trans H.out.len (by omega), H.out.ty⟩⟩⟩
 case round =>
  clear H
  obtain ⟨i, rfl, hile, H⟩ := hrel
  have ha0 := blk_cell H.out.box 0
  have ha1 := blk_cell H.out.box 1
  have ha2 := blk_cell H.out.box 2
  have ha3 := blk_cell H.out.box 3
  have ha4 := blk_cell H.out.box 4
  have ha5 := blk_cell H.out.box 5
  by_cases hlt : i < l0_1.length
  ·
   have HLT := Aside0.mk hlt
   have hltb : decide ((i : Int) < (l0_1.length : Int)) = true := decide_eq_true (by omega)
   have p0t : ((0 : Int) ≤ (i : Int)) = True := eq_true (by omega)
   have q0t : ((i : Int) < (l0_1.length : Int)) = True := eq_true (by omega)
   have bi : (i : Int) ≤ 1000000 := by have := HK.out.hcode; omega
   obtain ⟨ad, e0, h0_⟩ := Kd.at_int R1.out (i : Int) (by omega) (by omega)
   subst e0
   rw [show ((i : Int)).toNat = i by omega] at h0_
   replace h0_ := pw_cell_below H.out.low h0_
   obtain ⟨x, hx⟩ : ∃ x, x = rd l0_1 (i : Int) := ⟨_, rfl⟩
   rw [← hx] at h0_
   have HX := Aside0.mk (hx.trans (rd_get HLT.out))
   clear hx
   clear hlt hile
   go_wp2_with (first | (go_at_call 92; refine (pleatref07_Four.calls _ _ _ (Four_f _)).mono ?_; rintro e_ w_ ⟨u_, rfl, hr0_, hb_⟩; obtain ⟨r_, hE_, hr_⟩ := R_ex hr0_; obtain ⟨Au, cu, eu⟩ := Kd.R_slice hr_; subst eu; have HR := Aside0.mk hr_; have HE := Aside0.mk hE_; clear hE_ hr0_; replace H := Aside0.mk (H.out.below hb_); clear hr_ hb_ ha0 ha1 ha2 ha3 ha4 ha5 h0_; have ha0 := blk_cell H.out.box 0; have ha1 := blk_cell H.out.box 1; have ha2 := blk_cell H.out.box 2; have ha3 := blk_cell H.out.box 3; have ha4 := blk_cell H.out.box 4; have ha5 := blk_cell H.out.box 5) | ((with_reducible refine gate_builtin (b := .append) (xs := #[.tmp 27, .tmp 33]) rfl ?_); at_builtin; go_loud (refine H.out.app rfl (.tmp 27) (.tmp 33) 31 rfl Tryz.underlying31 info_byte rfl rfl (Kd.R_reads' HR.out).2.2 4 (by rw [HE.out]; rw [beN_length]; exact Nat.le_refl _) (by omega) ?_); intro v_ w_ h_; rw [HE.out] at h_; replace H := Aside0.mk h_; clear HR HE h_ ha0 ha1 ha2 ha3 ha4 ha5; have ha0 := blk_cell H.out.box 0; have ha1 := blk_cell H.out.box 1; have ha2 := blk_cell H.out.box 2; have ha3 := blk_cell H.out.box 3; have ha4 := blk_cell H.out.box 4; have ha5 := blk_cell H.out.box 5))
   go_roundw
   case measure => have hq := HLT.out; simp only [intOf]; omega
   case rel =>
    refine ⟨i + 1, by first | rfl | go_num, by have := HLT.out; omega, ⟨?_⟩⟩
    have hs := H.out
    rw [List.take_succ_eq_append_getElem HLT.out, List.flatMap_append, ← List.append_assoc, List.flatMap_singleton, Nat.mul_succ, ← Nat.add_assoc]
    rw [HX.out] at hs
    exact hs
  ·
   have hie : i = l0_1.length := by omega
   subst hie
   have hltb : decide ((l0_1.length : Int) < (l0_1.length : Int)) = false := by simp
   rw [List.take_length, HPL.out] at H
   clear hlt hile HPL
   have hn3 := HK.out.hdata
   have hn4 := HK.out.hdat
   go_upto_region 9 with (first | (go_at_call 91; refine (pleatref04_four.calls a0_2 _ _ (four_f ⟨HK.out.hdat.1, by have := HK.out.hdat.2; omega⟩)).mono ?_; rintro e_ w_ ⟨u_, rfl, hr0_, hb_⟩; obtain ⟨r_, hE_, hr_⟩ := R_ex hr0_; obtain ⟨Au, cu, eu⟩ := Kd.R_slice hr_; subst eu; have HR := Aside0.mk hr_; have HE := Aside0.mk hE_; clear hE_ hr0_; replace H := Aside0.mk (H.out.below hb_); clear hr_ hb_ ha0 ha1 ha2 ha3 ha4 ha5; have ha0 := blk_cell H.out.box 0; have ha1 := blk_cell H.out.box 1; have ha2 := blk_cell H.out.box 2; have ha3 := blk_cell H.out.box 3; have ha4 := blk_cell H.out.box 4; have ha5 := blk_cell H.out.box 5) | ((with_reducible refine gate_builtin (b := .append) (xs := #[.tmp 35, .tmp 38]) rfl ?_); at_builtin; go_loud (refine H.out.app rfl (.tmp 35) (.tmp 38) 31 rfl Tryz.underlying31 info_byte rfl rfl (Kd.R_reads' HR.out).2.2 4 (by rw [HE.out]; rw [beN_length]; exact Nat.le_refl _) (by omega) ?_); intro v_ w_ h_; rw [HE.out] at h_; replace H := Aside0.mk h_; clear HR HE h_ ha0 ha1 ha2 ha3 ha4 ha5; have ha0 := blk_cell H.out.box 0; have ha1 := blk_cell H.out.box 1; have ha2 := blk_cell H.out.box 2; have ha3 := blk_cell H.out.box 3; have ha4 := blk_cell H.out.box 4; have ha5 := blk_cell H.out.box 5))
   go_wp2_with (first | (go_at_call 91; refine (pleatref04_four.calls (l0_3.length : Int) _ _ (four_f ⟨by omega, by have := HK.out.hdata; omega⟩)).mono ?_; rintro e_ w_ ⟨u_, rfl, hr0_, hb_⟩; obtain ⟨r_, hE_, hr_⟩ := R_ex hr0_; obtain ⟨Au, cu, eu⟩ := Kd.R_slice hr_; subst eu; have HR := Aside0.mk hr_; have HE := Aside0.mk hE_; clear hE_ hr0_; replace H := Aside0.mk (H.out.below hb_); clear hr_ hb_ ha0 ha1 ha2 ha3 ha4 ha5; have ha0 := blk_cell H.out.box 0; have ha1 := blk_cell H.out.box 1; have ha2 := blk_cell H.out.box 2; have ha3 := blk_cell H.out.box 3; have ha4 := blk_cell H.out.box 4; have ha5 := blk_cell H.out.box 5) | ((with_reducible refine gate_builtin (b := .append) (xs := #[.tmp 40, .tmp 44]) rfl ?_); at_builtin; go_loud (refine H.out.app rfl (.tmp 40) (.tmp 44) 31 rfl Tryz.underlying31 info_byte rfl rfl (Kd.R_reads' HR.out).2.2 4 (by rw [HE.out]; rw [beN_length]; exact Nat.le_refl _) (by omega) ?_); intro v_ w_ h_; rw [HE.out] at h_; replace H := Aside0.mk h_; clear HR HE h_ ha0 ha1 ha2 ha3 ha4 ha5; have ha0 := blk_cell H.out.box 0; have ha1 := blk_cell H.out.box 1; have ha2 := blk_cell H.out.box 2; have ha3 := blk_cell H.out.box 3; have ha4 := blk_cell H.out.box 4; have ha5 := blk_cell H.out.box 5))
   clear hn4
   replace H := Aside0.mk (show BW w _ gb (objCell a0_0 A0_1 l0_1.length c0_1 a0_2 A0_3 l0_3.length c0_3 A0_4 l0_4.length c0_4 A0_5 l0_5.length c0_5) _ _ 70000 from ⟨H.out.low, H.out.box, H.out.row, Nat.le_trans H.out.len (by have := HK.out.hcode; omega), H.out.ty⟩)
   obtain ⟨PL, hPL⟩ : ∃ PL : List Int, PL = [80, 76, 79, 49] ++ (beN (a0_0.size : Int) 4 ++ bytesOf a0_0) ++ beN (l0_1.length : Int) 4 ++ (l0_1.flatMap fun x => beN x 4) ++ beN a0_2 4 ++ beN (l0_3.length : Int) 4 := ⟨_, rfl⟩
   rw [← hPL] at H
   have HPL := Aside0.mk hPL
   clear hPL ha0 ha1 ha2 ha3 ha4 ha5
   go_loopw [3, 5] (fun u3 u5 wr => ∃ i : Nat, u5 = .int .i64 (i : Int) ∧ i ≤ l0_3.length ∧ Aside0 (BW w wr gb (objCell a0_0 A0_1 l0_1.length c0_1 a0_2 A0_3 l0_3.length c0_3 A0_4 l0_4.length c0_4 A0_5 l0_5.length c0_5) u3 (PL ++ (l0_3.take i).flatMap (fun x => beN (mU x) 8)) (70000 + 8 * i))) (fun _ u5 _ => l0_3.length - (intOf u5).toNat)
   case atStart => exact ⟨0, rfl, Nat.zero_le _, ⟨by rw [List.take_zero, List.flatMap_nil, List.append_nil]; exact ⟨H.out.low, H.out.box, H.out.row, Nat.le_trans H.out.len (by omega), H.out.ty⟩⟩⟩
   case round =>
    clear H
    obtain ⟨i, rfl, hile, H⟩ := hrel
    have ha0 := blk_cell H.out.box 0
    have ha1 := blk_cell H.out.box 1
    have ha2 := blk_cell H.out.box 2
    have ha3 := blk_cell H.out.box 3
    have ha4 := blk_cell H.out.box 4
    have ha5 := blk_cell H.out.box 5
    by_cases hlt : i < l0_3.length
    ·
     have HLT := Aside0.mk hlt
     have hltb : decide ((i : Int) < (l0_3.length : Int)) = true := decide_eq_true (by omega)
     have p0t : ((0 : Int) ≤ (i : Int)) = True := eq_true (by omega)
     have q0t : ((i : Int) < (l0_3.length : Int)) = True := eq_true (by omega)
     have bi : (i : Int) ≤ 1000000 := by have := HK.out.hdata; omega
     obtain ⟨ad, e0, h0_⟩ := Kd.at_int R3.out (i : Int) (by omega) (by omega)
     subst e0
     rw [show ((i : Int)).toNat = i by omega] at h0_
     replace h0_ := pw_cell_below H.out.low h0_
     obtain ⟨x, hx⟩ : ∃ x, x = rd l0_3 (i : Int) := ⟨_, rfl⟩
     rw [← hx] at h0_
     have HX := Aside0.mk (hx.trans (rd_get HLT.out))
     clear hx
     clear hlt hile
     go_wp2_with (first | (go_at_call 93; refine (pleatref07_Eight.calls _ _ _ (Eight_f _)).mono ?_; rintro e_ w_ ⟨u_, rfl, hr0_, hb_⟩; obtain ⟨r_, hE_, hr_⟩ := R_ex hr0_; obtain ⟨Au, cu, eu⟩ := Kd.R_slice hr_; subst eu; have HR := Aside0.mk hr_; have HE := Aside0.mk hE_; clear hE_ hr0_; replace H := Aside0.mk (H.out.below hb_); clear hr_ hb_ ha0 ha1 ha2 ha3 ha4 ha5 h0_; have ha0 := blk_cell H.out.box 0; have ha1 := blk_cell H.out.box 1; have ha2 := blk_cell H.out.box 2; have ha3 := blk_cell H.out.box 3; have ha4 := blk_cell H.out.box 4; have ha5 := blk_cell H.out.box 5) | ((with_reducible refine gate_builtin (b := .append) (xs := #[.tmp 53, .tmp 59]) rfl ?_); at_builtin; go_loud (refine H.out.app rfl (.tmp 53) (.tmp 59) 31 rfl Tryz.underlying31 info_byte rfl rfl (Kd.R_reads' HR.out).2.2 8 (by rw [HE.out]; rw [beN_length]; exact Nat.le_refl _) (by omega) ?_); intro v_ w_ h_; rw [HE.out] at h_; replace H := Aside0.mk h_; clear HR HE h_ ha0 ha1 ha2 ha3 ha4 ha5; have ha0 := blk_cell H.out.box 0; have ha1 := blk_cell H.out.box 1; have ha2 := blk_cell H.out.box 2; have ha3 := blk_cell H.out.box 3; have ha4 := blk_cell H.out.box 4; have ha5 := blk_cell H.out.box 5))
     go_roundw
     case measure => have hq := HLT.out; simp only [intOf]; omega
     case rel =>
      refine ⟨i + 1, by first | rfl | go_num, by have := HLT.out; omega, ⟨?_⟩⟩
      have hs := H.out
      rw [List.take_succ_eq_append_getElem HLT.out, List.flatMap_append, ← List.append_assoc, List.flatMap_singleton, Nat.mul_succ, ← Nat.add_assoc]
      rw [HX.out] at hs
      exact hs
    ·
     have hie : i = l0_3.length := by omega
     subst hie
     have hltb : decide ((l0_3.length : Int) < (l0_3.length : Int)) = false := by simp
     rw [List.take_length, HPL.out] at H
     clear hlt hile HPL
     have hn4 := HK.out.hsyms
     go_wp2_with (first | (go_at_call 91; refine (pleatref04_four.calls (l0_4.length : Int) _ _ (four_f ⟨by omega, by have := HK.out.hsyms; omega⟩)).mono ?_; rintro e_ w_ ⟨u_, rfl, hr0_, hb_⟩; obtain ⟨r_, hE_, hr_⟩ := R_ex hr0_; obtain ⟨Au, cu, eu⟩ := Kd.R_slice hr_; subst eu; have HR := Aside0.mk hr_; have HE := Aside0.mk hE_; clear hE_ hr0_; replace H := Aside0.mk (H.out.below hb_); clear hr_ hb_ ha0 ha1 ha2 ha3 ha4 ha5; have ha0 := blk_cell H.out.box 0; have ha1 := blk_cell H.out.box 1; have ha2 := blk_cell H.out.box 2; have ha3 := blk_cell H.out.box 3; have ha4 := blk_cell H.out.box 4; have ha5 := blk_cell H.out.box 5) | ((with_reducible refine gate_builtin (b := .append) (xs := #[.tmp 61, .tmp 65]) rfl ?_); at_builtin; go_loud (refine H.out.app rfl (.tmp 61) (.tmp 65) 31 rfl Tryz.underlying31 info_byte rfl rfl (Kd.R_reads' HR.out).2.2 4 (by rw [HE.out]; rw [beN_length]; exact Nat.le_refl _) (by omega) ?_); intro v_ w_ h_; rw [HE.out] at h_; replace H := Aside0.mk h_; clear HR HE h_ ha0 ha1 ha2 ha3 ha4 ha5; have ha0 := blk_cell H.out.box 0; have ha1 := blk_cell H.out.box 1; have ha2 := blk_cell H.out.box 2; have ha3 := blk_cell H.out.box 3; have ha4 := blk_cell H.out.box 4; have ha5 := blk_cell H.out.box 5))
     replace H := Aside0.mk (show BW w _ gb (objCell a0_0 A0_1 l0_1.length c0_1 a0_2 A0_3 l0_3.length c0_3 A0_4 l0_4.length c0_4 A0_5 l0_5.length c0_5) _ _ 110000 from ⟨H.out.low, H.out.box, H.out.row, Nat.le_trans H.out.len (by have := HK.out.hdata; omega), H.out.ty⟩)
     obtain ⟨PL, hPL⟩ : ∃ PL : List Int, PL = [80, 76, 79, 49] ++ (beN (a0_0.size : Int) 4 ++ bytesOf a0_0) ++ beN (l0_1.length : Int) 4 ++ (l0_1.flatMap fun x => beN x 4) ++ beN a0_2 4 ++ beN (l0_3.length : Int) 4 ++ (l0_3.flatMap fun x => beN (mU x) 8) ++ beN (l0_4.length : Int) 4 := ⟨_, rfl⟩
     rw [← hPL] at H
     have HPL := Aside0.mk hPL
     clear hPL ha0 ha1 ha2 ha3 ha4 ha5
     go_loopw [3, 6] (fun u3 u6 wr => ∃ i : Nat, u6 = .int .i64 (i : Int) ∧ i ≤ l0_4.length ∧ Aside0 (BW w wr gb (objCell a0_0 A0_1 l0_1.length c0_1 a0_2 A0_3 l0_3.length c0_3 A0_4 l0_4.length c0_4 A0_5 l0_5.length c0_5) u3 (PL ++ (l0_4.take i).flatMap symB) (110000 + 36 * i))) (fun _ u6 _ => l0_4.length - (intOf u6).toNat)
     case atStart => exact ⟨0, rfl, Nat.zero_le _, ⟨by rw [List.take_zero, List.flatMap_nil, List.append_nil]; exact ⟨H.out.low, H.out.box, H.out.row, Nat.le_trans H.out.len (by omega), H.out.ty⟩⟩⟩
     case round =>
      clear H
      obtain ⟨i, rfl, hile, H⟩ := hrel
      have ha0 := blk_cell H.out.box 0
      have ha1 := blk_cell H.out.box 1
      have ha2 := blk_cell H.out.box 2
      have ha3 := blk_cell H.out.box 3
      have ha4 := blk_cell H.out.box 4
      have ha5 := blk_cell H.out.box 5
      by_cases hlt : i < l0_4.length
      ·
       have HLT := Aside0.mk hlt
       have hltb : decide ((i : Int) < (l0_4.length : Int)) = true := decide_eq_true (by omega)
       have p0t : ((0 : Int) ≤ (i : Int)) = True := eq_true (by omega)
       have q0t : ((i : Int) < (l0_4.length : Int)) = True := eq_true (by omega)
       have bi : (i : Int) ≤ 1000000 := by have := HK.out.hsyms; omega
       obtain ⟨ad, e0, h0_, h1_, h2_⟩ := at_T65 R4.out (i : Int) (by omega) (by omega)
       subst e0
       rw [show ((i : Int)).toNat = i by omega] at h0_ h1_ h2_
       have hsy := HK.out.hsym i HLT.out
       obtain ⟨x, hx⟩ : ∃ x, x = rd_T65 l0_4 (i : Int) := ⟨_, rfl⟩
       rw [← hx] at h0_ h1_ h2_ hsy
       have HX := Aside0.mk (hx.trans (sy_getW HLT.out))
       clear hx
       obtain ⟨xn, xk, xa⟩ := x
       simp only at h0_ h1_ h2_ hsy
       have HXW := Aside0.mk hsy
       have HI := Aside0.mk (show wrap64 xk = xk by rw [wrap64_id (by omega) (by omega)])
       clear hsy
       have C0 := Aside0.mk h0_; clear h0_; have h0_ := pw_cell_below H.out.low C0.out
       have C1 := Aside0.mk h1_; clear h1_; have h1_ := pw_cell_below H.out.low C1.out
       have C2 := Aside0.mk h2_; clear h2_; have h2_ := pw_cell_below H.out.low C2.out
       clear hlt hile
       go_upto_region 19 with (first | (go_at_call 90; refine (pleatref04_text.calls xn _ _ (text_f HXW.out.1)).mono ?_; rintro e_ w_ ⟨u_, rfl, hr0_, hb_⟩; obtain ⟨r_, hE_, hr_⟩ := R_ex hr0_; obtain ⟨Au, cu, eu⟩ := Kd.R_slice hr_; subst eu; have HR := Aside0.mk hr_; have HE := Aside0.mk hE_; clear hE_ hr0_; replace H := Aside0.mk (H.out.below hb_); clear hr_ hb_ ha0 ha1 ha2 ha3 ha4 ha5 h0_ h1_ h2_; have ha0 := blk_cell H.out.box 0; have ha1 := blk_cell H.out.box 1; have ha2 := blk_cell H.out.box 2; have ha3 := blk_cell H.out.box 3; have ha4 := blk_cell H.out.box 4; have ha5 := blk_cell H.out.box 5; have h0_ := pw_cell_below H.out.low C0.out; have h1_ := pw_cell_below H.out.low C1.out; have h2_ := pw_cell_below H.out.low C2.out) | ((with_reducible refine gate_builtin (b := .append) (xs := #[.tmp 74, .tmp 81]) rfl ?_); at_builtin; go_loud (refine H.out.app rfl (.tmp 74) (.tmp 81) 31 rfl Tryz.underlying31 info_byte rfl rfl (Kd.R_reads' HR.out).2.2 28 (by rw [HE.out]; rw [List.length_append, beN_length, bytesOf_length]; have := HXW.out.1; omega) (by omega) ?_); intro v_ w_ h_; rw [HE.out] at h_; replace H := Aside0.mk h_; clear HR HE h_ ha0 ha1 ha2 ha3 ha4 ha5 h0_ h1_ h2_; have ha0 := blk_cell H.out.box 0; have ha1 := blk_cell H.out.box 1; have ha2 := blk_cell H.out.box 2; have ha3 := blk_cell H.out.box 3; have ha4 := blk_cell H.out.box 4; have ha5 := blk_cell H.out.box 5; have h0_ := pw_cell_below H.out.low C0.out; have h1_ := pw_cell_below H.out.low C1.out; have h2_ := pw_cell_below H.out.low C2.out))
       go_upto_region 20 with (first | (go_at_call 91; (try rw [HI.out]); refine (pleatref04_four.calls xk _ _ (four_f ⟨HXW.out.2.1.1, by have := HXW.out.2.1.2; omega⟩)).mono ?_; rintro e_ w_ ⟨u_, rfl, hr0_, hb_⟩; obtain ⟨r_, hE_, hr_⟩ := R_ex hr0_; obtain ⟨Au, cu, eu⟩ := Kd.R_slice hr_; subst eu; have HR := Aside0.mk hr_; have HE := Aside0.mk hE_; clear hE_ hr0_; replace H := Aside0.mk (H.out.below hb_); clear hr_ hb_ ha0 ha1 ha2 ha3 ha4 ha5 h0_ h1_ h2_; have ha0 := blk_cell H.out.box 0; have ha1 := blk_cell H.out.box 1; have ha2 := blk_cell H.out.box 2; have ha3 := blk_cell H.out.box 3; have ha4 := blk_cell H.out.box 4; have ha5 := blk_cell H.out.box 5; have h0_ := pw_cell_below H.out.low C0.out; have h1_ := pw_cell_below H.out.low C1.out; have h2_ := pw_cell_below H.out.low C2.out) | ((with_reducible refine gate_builtin (b := .append) (xs := #[.tmp 83, .tmp 91]) rfl ?_); at_builtin; go_loud (refine H.out.app rfl (.tmp 83) (.tmp 91) 31 rfl Tryz.underlying31 info_byte rfl rfl (Kd.R_reads' HR.out).2.2 4 (by rw [HE.out]; rw [beN_length]; exact Nat.le_refl _) (by omega) ?_); intro v_ w_ h_; rw [HE.out] at h_; replace H := Aside0.mk h_; clear HR HE h_ ha0 ha1 ha2 ha3 ha4 ha5 h0_ h1_ h2_; have ha0 := blk_cell H.out.box 0; have ha1 := blk_cell H.out.box 1; have ha2 := blk_cell H.out.box 2; have ha3 := blk_cell H.out.box 3; have ha4 := blk_cell H.out.box 4; have ha5 := blk_cell H.out.box 5; have h0_ := pw_cell_below H.out.low C0.out; have h1_ := pw_cell_below H.out.low C1.out; have h2_ := pw_cell_below H.out.low C2.out))
       go_wp2_with (first | (go_at_call 91; refine (pleatref04_four.calls xa _ _ (four_f ⟨HXW.out.2.2.1, by have := HXW.out.2.2.2; omega⟩)).mono ?_; rintro e_ w_ ⟨u_, rfl, hr0_, hb_⟩; obtain ⟨r_, hE_, hr_⟩ := R_ex hr0_; obtain ⟨Au, cu, eu⟩ := Kd.R_slice hr_; subst eu; have HR := Aside0.mk hr_; have HE := Aside0.mk hE_; clear hE_ hr0_; replace H := Aside0.mk (H.out.below hb_); clear hr_ hb_ ha0 ha1 ha2 ha3 ha4 ha5 h0_ h1_ h2_; have ha0 := blk_cell H.out.box 0; have ha1 := blk_cell H.out.box 1; have ha2 := blk_cell H.out.box 2; have ha3 := blk_cell H.out.box 3; have ha4 := blk_cell H.out.box 4; have ha5 := blk_cell H.out.box 5; have h0_ := pw_cell_below H.out.low C0.out; have h1_ := pw_cell_below H.out.low C1.out; have h2_ := pw_cell_below H.out.low C2.out) | ((with_reducible refine gate_builtin (b := .append) (xs := #[.tmp 93, .tmp 100]) rfl ?_); at_builtin; go_loud (refine H.out.app rfl (.tmp 93) (.tmp 100) 31 rfl Tryz.underlying31 info_byte rfl rfl (Kd.R_reads' HR.out).2.2 4 (by rw [HE.out]; rw [beN_length]; exact Nat.le_refl _) (by omega) ?_); intro v_ w_ h_; rw [HE.out] at h_; replace H := Aside0.mk h_; clear HR HE h_ ha0 ha1 ha2 ha3 ha4 ha5 h0_ h1_ h2_; have ha0 := blk_cell H.out.box 0; have ha1 := blk_cell H.out.box 1; have ha2 := blk_cell H.out.box 2; have ha3 := blk_cell H.out.box 3; have ha4 := blk_cell H.out.box 4; have ha5 := blk_cell H.out.box 5; have h0_ := pw_cell_below H.out.low C0.out; have h1_ := pw_cell_below H.out.low C1.out; have h2_ := pw_cell_below H.out.low C2.out))
       go_roundw
       case measure => have hq := HLT.out; simp only [intOf]; omega
       case rel =>
        refine ⟨i + 1, by first | rfl | go_num, by have := HLT.out; omega, ⟨?_⟩⟩
        have hs := H.out
        rw [List.take_succ_eq_append_getElem HLT.out, List.flatMap_append, ← List.append_assoc, List.flatMap_singleton, Nat.mul_succ, ← Nat.add_assoc]
        rw [← HX.out]
        unfold symB
        simp only [← List.append_assoc] at hs ⊢
        exact hs
      ·
       have hie : i = l0_4.length := by omega
       subst hie
       have hltb : decide ((l0_4.length : Int) < (l0_4.length : Int)) = false := by simp
       rw [List.take_length, HPL.out] at H
       clear hlt hile HPL
       have hn5 := HK.out.hrels
       go_wp2_with (first | (go_at_call 91; refine (pleatref04_four.calls (l0_5.length : Int) _ _ (four_f ⟨by omega, by have := HK.out.hrels; omega⟩)).mono ?_; rintro e_ w_ ⟨u_, rfl, hr0_, hb_⟩; obtain ⟨r_, hE_, hr_⟩ := R_ex hr0_; obtain ⟨Au, cu, eu⟩ := Kd.R_slice hr_; subst eu; have HR := Aside0.mk hr_; have HE := Aside0.mk hE_; clear hE_ hr0_; replace H := Aside0.mk (H.out.below hb_); clear hr_ hb_ ha0 ha1 ha2 ha3 ha4 ha5; have ha0 := blk_cell H.out.box 0; have ha1 := blk_cell H.out.box 1; have ha2 := blk_cell H.out.box 2; have ha3 := blk_cell H.out.box 3; have ha4 := blk_cell H.out.box 4; have ha5 := blk_cell H.out.box 5) | ((with_reducible refine gate_builtin (b := .append) (xs := #[.tmp 102, .tmp 106]) rfl ?_); at_builtin; go_loud (refine H.out.app rfl (.tmp 102) (.tmp 106) 31 rfl Tryz.underlying31 info_byte rfl rfl (Kd.R_reads' HR.out).2.2 4 (by rw [HE.out]; rw [beN_length]; exact Nat.le_refl _) (by omega) ?_); intro v_ w_ h_; rw [HE.out] at h_; replace H := Aside0.mk h_; clear HR HE h_ ha0 ha1 ha2 ha3 ha4 ha5; have ha0 := blk_cell H.out.box 0; have ha1 := blk_cell H.out.box 1; have ha2 := blk_cell H.out.box 2; have ha3 := blk_cell H.out.box 3; have ha4 := blk_cell H.out.box 4; have ha5 := blk_cell H.out.box 5))
       replace H := Aside0.mk (show BW w _ gb (objCell a0_0 A0_1 l0_1.length c0_1 a0_2 A0_3 l0_3.length c0_3 A0_4 l0_4.length c0_4 A0_5 l0_5.length c0_5) _ _ 120000 from ⟨H.out.low, H.out.box, H.out.row, Nat.le_trans H.out.len (by have := HK.out.hsyms; omega), H.out.ty⟩)
       obtain ⟨PL, hPL⟩ : ∃ PL : List Int, PL = [80, 76, 79, 49] ++ (beN (a0_0.size : Int) 4 ++ bytesOf a0_0) ++ beN (l0_1.length : Int) 4 ++ (l0_1.flatMap fun x => beN x 4) ++ beN a0_2 4 ++ beN (l0_3.length : Int) 4 ++ (l0_3.flatMap fun x => beN (mU x) 8) ++ beN (l0_4.length : Int) 4 ++ l0_4.flatMap symB ++ beN (l0_5.length : Int) 4 := ⟨_, rfl⟩
       rw [← hPL] at H
       have HPL := Aside0.mk hPL
       clear hPL ha0 ha1 ha2 ha3 ha4 ha5
       go_loopw [3, 7] (fun u3 u7 wr => ∃ i : Nat, u7 = .int .i64 (i : Int) ∧ i ≤ l0_5.length ∧ Aside0 (BW w wr gb (objCell a0_0 A0_1 l0_1.length c0_1 a0_2 A0_3 l0_3.length c0_3 A0_4 l0_4.length c0_4 A0_5 l0_5.length c0_5) u3 (PL ++ (l0_5.take i).flatMap relB) (120000 + 8 * i))) (fun _ u7 _ => l0_5.length - (intOf u7).toNat)
       case atStart => exact ⟨0, rfl, Nat.zero_le _, ⟨by rw [List.take_zero, List.flatMap_nil, List.append_nil]; exact ⟨H.out.low, H.out.box, H.out.row, Nat.le_trans H.out.len (by omega), H.out.ty⟩⟩⟩
       case round =>
        clear H
        obtain ⟨i, rfl, hile, H⟩ := hrel
        have ha0 := blk_cell H.out.box 0
        have ha1 := blk_cell H.out.box 1
        have ha2 := blk_cell H.out.box 2
        have ha3 := blk_cell H.out.box 3
        have ha4 := blk_cell H.out.box 4
        have ha5 := blk_cell H.out.box 5
        by_cases hlt : i < l0_5.length
        ·
         have HLT := Aside0.mk hlt
         have hltb : decide ((i : Int) < (l0_5.length : Int)) = true := decide_eq_true (by omega)
         have p0t : ((0 : Int) ≤ (i : Int)) = True := eq_true (by omega)
         have q0t : ((i : Int) < (l0_5.length : Int)) = True := eq_true (by omega)
         have bi : (i : Int) ≤ 1000000 := by have := HK.out.hrels; omega
         obtain ⟨ad, e0, h0_, h1_⟩ := at_T82 R5.out (i : Int) (by omega) (by omega)
         subst e0
         rw [show ((i : Int)).toNat = i by omega] at h0_ h1_
         have hsy := HK.out.hrel i HLT.out
         obtain ⟨x, hx⟩ : ∃ x, x = rd_T82 l0_5 (i : Int) := ⟨_, rfl⟩
         rw [← hx] at h0_ h1_ hsy
         have HX := Aside0.mk (hx.trans (rl_getW HLT.out))
         clear hx
         obtain ⟨xo, xs⟩ := x
         simp only at h0_ h1_ hsy
         have HXW := Aside0.mk hsy
         clear hsy
         have C0 := Aside0.mk h0_; clear h0_; have h0_ := pw_cell_below H.out.low C0.out
         have C1 := Aside0.mk h1_; clear h1_; have h1_ := pw_cell_below H.out.low C1.out
         clear hlt hile
         go_upto_region 26 with (first | (go_at_call 91; refine (pleatref04_four.calls xo _ _ (four_f ⟨HXW.out.1.1, by have := HXW.out.1.2; omega⟩)).mono ?_; rintro e_ w_ ⟨u_, rfl, hr0_, hb_⟩; obtain ⟨r_, hE_, hr_⟩ := R_ex hr0_; obtain ⟨Au, cu, eu⟩ := Kd.R_slice hr_; subst eu; have HR := Aside0.mk hr_; have HE := Aside0.mk hE_; clear hE_ hr0_; replace H := Aside0.mk (H.out.below hb_); clear hr_ hb_ ha0 ha1 ha2 ha3 ha4 ha5 h0_ h1_; have ha0 := blk_cell H.out.box 0; have ha1 := blk_cell H.out.box 1; have ha2 := blk_cell H.out.box 2; have ha3 := blk_cell H.out.box 3; have ha4 := blk_cell H.out.box 4; have ha5 := blk_cell H.out.box 5; have h0_ := pw_cell_below H.out.low C0.out; have h1_ := pw_cell_below H.out.low C1.out) | ((with_reducible refine gate_builtin (b := .append) (xs := #[.tmp 115, .tmp 122]) rfl ?_); at_builtin; go_loud (refine H.out.app rfl (.tmp 115) (.tmp 122) 31 rfl Tryz.underlying31 info_byte rfl rfl (Kd.R_reads' HR.out).2.2 4 (by rw [HE.out]; rw [beN_length]; exact Nat.le_refl _) (by omega) ?_); intro v_ w_ h_; rw [HE.out] at h_; replace H := Aside0.mk h_; clear HR HE h_ ha0 ha1 ha2 ha3 ha4 ha5 h0_ h1_; have ha0 := blk_cell H.out.box 0; have ha1 := blk_cell H.out.box 1; have ha2 := blk_cell H.out.box 2; have ha3 := blk_cell H.out.box 3; have ha4 := blk_cell H.out.box 4; have ha5 := blk_cell H.out.box 5; have h0_ := pw_cell_below H.out.low C0.out; have h1_ := pw_cell_below H.out.low C1.out))
         go_wp2_with (first | (go_at_call 91; refine (pleatref04_four.calls xs _ _ (four_f ⟨HXW.out.2.1, by have := HXW.out.2.2; omega⟩)).mono ?_; rintro e_ w_ ⟨u_, rfl, hr0_, hb_⟩; obtain ⟨r_, hE_, hr_⟩ := R_ex hr0_; obtain ⟨Au, cu, eu⟩ := Kd.R_slice hr_; subst eu; have HR := Aside0.mk hr_; have HE := Aside0.mk hE_; clear hE_ hr0_; replace H := Aside0.mk (H.out.below hb_); clear hr_ hb_ ha0 ha1 ha2 ha3 ha4 ha5 h0_ h1_; have ha0 := blk_cell H.out.box 0; have ha1 := blk_cell H.out.box 1; have ha2 := blk_cell H.out.box 2; have ha3 := blk_cell H.out.box 3; have ha4 := blk_cell H.out.box 4; have ha5 := blk_cell H.out.box 5; have h0_ := pw_cell_below H.out.low C0.out; have h1_ := pw_cell_below H.out.low C1.out) | ((with_reducible refine gate_builtin (b := .append) (xs := #[.tmp 124, .tmp 131]) rfl ?_); at_builtin; go_loud (refine H.out.app rfl (.tmp 124) (.tmp 131) 31 rfl Tryz.underlying31 info_byte rfl rfl (Kd.R_reads' HR.out).2.2 4 (by rw [HE.out]; rw [beN_length]; exact Nat.le_refl _) (by omega) ?_); intro v_ w_ h_; rw [HE.out] at h_; replace H := Aside0.mk h_; clear HR HE h_ ha0 ha1 ha2 ha3 ha4 ha5 h0_ h1_; have ha0 := blk_cell H.out.box 0; have ha1 := blk_cell H.out.box 1; have ha2 := blk_cell H.out.box 2; have ha3 := blk_cell H.out.box 3; have ha4 := blk_cell H.out.box 4; have ha5 := blk_cell H.out.box 5; have h0_ := pw_cell_below H.out.low C0.out; have h1_ := pw_cell_below H.out.low C1.out))
         go_roundw
         case measure => have hq := HLT.out; simp only [intOf]; omega
         case rel =>
          refine ⟨i + 1, by first | rfl | go_num, by have := HLT.out; omega, ⟨?_⟩⟩
          have hs := H.out
          rw [List.take_succ_eq_append_getElem HLT.out, List.flatMap_append, ← List.append_assoc, List.flatMap_singleton, Nat.mul_succ, ← Nat.add_assoc]
          rw [← HX.out]
          unfold relB
          simp only [← List.append_assoc] at hs ⊢
          exact hs
        ·
         have hie : i = l0_5.length := by omega
         subst hie
         have hltb : decide ((l0_5.length : Int) < (l0_5.length : Int)) = false := by simp
         rw [List.take_length, HPL.out] at H
         clear hlt hile HPL
         replace H := Aside0.mk (show BW w _ gb (objCell a0_0 A0_1 l0_1.length c0_1 a0_2 A0_3 l0_3.length c0_3 A0_4 l0_4.length c0_4 A0_5 l0_5.length c0_5) _ _ 260000 from ⟨H.out.low, H.out.box, H.out.row, Nat.le_trans H.out.len (by have := HK.out.hrels; omega), H.out.ty⟩)
         have hhd : headB a0_0 l0_1 a0_2 l0_3 l0_4 l0_5 = [80, 76, 79, 49] ++ (beN (a0_0.size : Int) 4 ++ bytesOf a0_0) ++ beN (l0_1.length : Int) 4 ++ (l0_1.flatMap fun x => beN x 4) ++ beN a0_2 4 ++ beN (l0_3.length : Int) 4 ++ (l0_3.flatMap fun x => beN (mU x) 8) ++ beN (l0_4.length : Int) 4 ++ l0_4.flatMap symB ++ beN (l0_5.length : Int) 4 ++ l0_5.flatMap relB := by unfold headB; simp only [List.append_assoc]
         rw [← hhd] at H
         have HHD := Aside0.mk hhd
         clear hhd
         obtain ⟨hd, hhd⟩ : ∃ hd, hd = headB a0_0 l0_1 a0_2 l0_3 l0_4 l0_5 := ⟨_, rfl⟩
         rw [← hhd] at H
         have HHE := Aside0.mk hhd
         clear hhd
         obtain ⟨Ah, ch, eh⟩ := Kd.R_slice H.out.row
         subst eh
         obtain ⟨ks, hks⟩ := (Sum_f hd (Nat.le_trans H.out.len (by decide))).rounds
         have HKS := Aside0.mk hks
         clear hks
         go_wp2_with (first | (go_at_call 94; refine (pleatref07_Sum.calls ks _ _ hd _ _ (Kd.R_reads' H.out.row).2.2 (Kd.R_reads' H.out.row).2.1 HKS.out).mono ?_; rintro e_ w_ ⟨rfl, hd_⟩; replace H := Aside0.mk (H.out.below hd_.below); clear hd_) | (go_at_call 92; refine (pleatref07_Four.calls _ _ _ (Four_f _)).mono ?_; rintro e_ w_ ⟨u_, rfl, hr0_, hb_⟩; obtain ⟨r_, hE_, hr_⟩ := R_ex hr0_; obtain ⟨Au, cu, eu⟩ := Kd.R_slice hr_; subst eu; have HR := Aside0.mk hr_; have HE := Aside0.mk hE_; clear hE_ hr0_; replace H := Aside0.mk (H.out.below hb_); clear hr_ hb_) | ((with_reducible refine gate_builtin (b := .append) (xs := #[.tmp 133, .tmp 136]) rfl ?_); at_builtin; go_loud (refine H.out.app rfl (.tmp 133) (.tmp 136) 31 rfl Tryz.underlying31 info_byte rfl rfl (Kd.R_reads' HR.out).2.2 4 (by rw [HE.out]; rw [beN_length]; exact Nat.le_refl _) (by omega) ?_); intro v_ w_ h_; rw [HE.out] at h_; replace H := Aside0.mk h_; clear HR HE h_))
         go_ret
         refine ⟨_, rfl, ?_, H.out.low⟩
         unfold writeB
         rw [← HHE.out]
         exact H.out.row
def outB (nm : ByteArray) (code : List Int) (dat : Int) (data : List Int) (syms : List Sym) (rels : List Rel) : List Int := if (chkO nm code dat data syms rels).1 = 0 then writeB nm code dat data syms rels else []
/-- the document's Write, once for all answers. -/
theorem refW.calls (kc : Nat) (a0_0 : ByteArray) (A0_1 : Option Addr) (c0_1 : Nat) (l0_1 : List Int) (a0_2 : Int) (A0_3 : Option Addr) (c0_3 : Nat) (l0_3 : List Int) (A0_4 : Option Addr) (c0_4 : Nat) (l0_4 : List Sym) (A0_5 : Option Addr) (c0_5 : Nat) (l0_5 : List Rel) (w : World) (hr0_1 : Kd.C (Kd.int .u32) w A0_1 l0_1.length l0_1) (hc0_1 : l0_1.length ≤ c0_1) (hr0_3 : Kd.C (Kd.int .i64) w A0_3 l0_3.length l0_3) (hc0_3 : l0_3.length ≤ c0_3) (hr0_4 : Kd.C k65 w A0_4 l0_4.length l0_4) (hc0_4 : l0_4.length ≤ c0_4) (hr0_5 : Kd.C k82 w A0_5 l0_5.length l0_5) (hc0_5 : l0_5.length ≤ c0_5) (hw : wordsO l0_1 = true) (hf : pleatref03_Check.f kc a0_0 l0_1 a0_2 l0_3 l0_4 l0_5 = some (chkO a0_0 l0_1 a0_2 l0_3 l0_4 l0_5)) :
  Calls Tryz.prog 9 #[.agg #[.string a0_0, .slice A0_1 l0_1.length c0_1, .int .i64 a0_2, .slice A0_3 l0_3.length c0_3, .slice A0_4 l0_4.length c0_4, .slice A0_5 l0_5.length c0_5]] w fun e w' => ∃ v, e = .returned (.tuple #[v, .int .i64 (chkO a0_0 l0_1 a0_2 l0_3 l0_4 l0_5).1]) ∧ Kd.R (Kd.int .u8) 5 w' w.heap.size (fun _ => True) v (outB a0_0 l0_1 a0_2 l0_3 l0_4 l0_5) ∧ Below w.heap.size w w' := by
 have hu1 := Tryz.underlying27
 have R1 := Aside0.mk (And.intro hr0_1 hc0_1)
 have R3 := Aside0.mk (And.intro hr0_3 hc0_3)
 have R4 := Aside0.mk (And.intro hr0_4 hc0_4)
 have R5 := Aside0.mk (And.intro hr0_5 hc0_5)
 have HB := Aside0.mk (Below.refl w.heap.size w)
 clear hr0_1 hc0_1 hr0_3 hc0_3 hr0_4 hc0_4 hr0_5 hc0_5
 have hq := fun h => (okO_of (nm := a0_0) (code := l0_1) (dat := a0_2) (data := l0_3) (syms := l0_4) (rels := l0_5) h).wok hw
 clear hw
 unfold outB
 generalize chkO a0_0 l0_1 a0_2 l0_3 l0_4 l0_5 = y at hq hf ⊢
 obtain ⟨ce, cn⟩ := y
 simp only at hq hf ⊢
 have HKC := Aside0.mk hf
 clear hf
 by_cases h : ce = 0
 ·
  subst h
  have HWK := Aside0.mk (hq rfl)
  clear hq
  rw [if_pos rfl]
  go_enter Tryz.func9, Tryz.ntmps9
  go_wp2_with (first | ((with_reducible refine gate_dst (N := 1) rfl ?_); refine box_event ?hg (N := 1) ?hd (cs := #[.string a0_0, .slice A0_1 l0_1.length c0_1, .int .i64 a0_2, .slice A0_3 l0_3.length c0_3, .slice A0_4 l0_4.length c0_4, .slice A0_5 l0_5.length c0_5]) (t := 27) ?hr ?_; (case hd => rfl); (case hg => rfl); (case hr => first | (go_simp; done) | (go_simp; rfl)); intro gb hg_ w1 BK_ hb_; have BO := Aside0.mk (show w1.heap[gb]? = some (objCell a0_0 A0_1 l0_1.length c0_1 a0_2 A0_3 l0_3.length c0_3 A0_4 l0_4.length c0_4 A0_5 l0_5.length c0_5) from BK_); replace HB := Aside0.mk (bsQ hb_ HB.out); clear BK_ hb_ hg_; have ha0 := blk_cell BO.out 0; have ha1 := blk_cell BO.out 1; have ha2 := blk_cell BO.out 2; have ha3 := blk_cell BO.out 3; have ha4 := blk_cell BO.out 4; have ha5 := blk_cell BO.out 5) | (go_at_call 30; refine (pleatref03_Check.calls kc _ _ _ _ _ _ _ _ _ _ _ _ _ _ _ _ _ (Kd.C_below R1.out.1 HB.out) R1.out.2 (Kd.C_below R3.out.1 HB.out) R3.out.2 (Kd.C_below R4.out.1 HB.out) R4.out.2 (Kd.C_below R5.out.1 HB.out) R5.out.2 HKC.out).mono ?_; rintro e_ w2 ⟨rfl, hb_⟩; replace HB := Aside0.mk (bsQ hb_ HB.out); replace BO := Aside0.mk (blk_below BO.out hb_); clear hb_ ha0 ha1 ha2 ha3 ha4 ha5; have ha0 := blk_cell BO.out 0; have ha1 := blk_cell BO.out 1; have ha2 := blk_cell BO.out 2; have ha3 := blk_cell BO.out 3; have ha4 := blk_cell BO.out 4; have ha5 := blk_cell BO.out 5) | (go_at_call 31; refine (refB.calls _ _ _ _ _ _ _ _ _ _ _ _ _ _ _ (Kd.C_below R1.out.1 HB.out) R1.out.2 (Kd.C_below R3.out.1 HB.out) R3.out.2 (Kd.C_below R4.out.1 HB.out) R4.out.2 (Kd.C_below R5.out.1 HB.out) R5.out.2 HWK.out).mono ?_; rintro e_ w3 ⟨v_, rfl, hr_, hb_⟩; have RQ := Aside0.mk (Kd.R_lower hr_ HB.out.size); replace HB := Aside0.mk (bsQ hb_ HB.out); clear hr_ hb_))
  go_ret2
  exact ⟨_, rfl, RQ.out, HB.out⟩
 ·
  rw [if_neg h]
  have b0 : (ce == 0) = false := beq_eq_false_iff_ne.mpr h
  have b1 : (ce != 0) = true := bne_iff_ne.mpr h
  clear hq h
  go_enter Tryz.func9, Tryz.ntmps9
  go_wp2_with (first | ((with_reducible refine gate_dst (N := 1) rfl ?_); refine box_event ?hg (N := 1) ?hd (cs := #[.string a0_0, .slice A0_1 l0_1.length c0_1, .int .i64 a0_2, .slice A0_3 l0_3.length c0_3, .slice A0_4 l0_4.length c0_4, .slice A0_5 l0_5.length c0_5]) (t := 27) ?hr ?_; (case hd => rfl); (case hg => rfl); (case hr => first | (go_simp; done) | (go_simp; rfl)); intro gb hg_ w1 BK_ hb_; have BO := Aside0.mk (show w1.heap[gb]? = some (objCell a0_0 A0_1 l0_1.length c0_1 a0_2 A0_3 l0_3.length c0_3 A0_4 l0_4.length c0_4 A0_5 l0_5.length c0_5) from BK_); replace HB := Aside0.mk (bsQ hb_ HB.out); clear BK_ hb_ hg_; have ha0 := blk_cell BO.out 0; have ha1 := blk_cell BO.out 1; have ha2 := blk_cell BO.out 2; have ha3 := blk_cell BO.out 3; have ha4 := blk_cell BO.out 4; have ha5 := blk_cell BO.out 5) | (go_at_call 30; refine (pleatref03_Check.calls kc _ _ _ _ _ _ _ _ _ _ _ _ _ _ _ _ _ (Kd.C_below R1.out.1 HB.out) R1.out.2 (Kd.C_below R3.out.1 HB.out) R3.out.2 (Kd.C_below R4.out.1 HB.out) R4.out.2 (Kd.C_below R5.out.1 HB.out) R5.out.2 HKC.out).mono ?_; rintro e_ w2 ⟨rfl, hb_⟩; replace HB := Aside0.mk (bsQ hb_ HB.out); replace BO := Aside0.mk (blk_below BO.out hb_); clear hb_ ha0 ha1 ha2 ha3 ha4 ha5; have ha0 := blk_cell BO.out 0; have ha1 := blk_cell BO.out 1; have ha2 := blk_cell BO.out 2; have ha3 := blk_cell BO.out 3; have ha4 := blk_cell BO.out 4; have ha5 := blk_cell BO.out 5))
  go_ret2
  exact ⟨_, rfl, Kd.R_nil _ _ _ _ _, HB.out⟩
end Go.Proofs.YtiaohbbafaaibabGreatDoor.P

/- OWN TEXT: the law WireWrites, walked. -/
namespace Go.Proofs.YtiaohbbafaaibabGreatDoor.P
open Go.RowKit Go.Maps Go.Proofs.YtiaohbbafaaibabGreatDoorW.PrintWords Go.Proofs.YtiaohbbafaaibabGreatDoorW.PrintLast Go.Proofs.YtiaohbbafaaibabGreatDoorW.PrintMore Go.Proofs.YtiaohbbafaaibabGreatDoor.Arr Go.Proofs.YtiaohbbafaaibabGreatDoor.MapB
set_option linter.unusedVariables false
set_option linter.unusedSimpArgs false
/-- what an own row of slices is in memory. -/
theorem row_raw {W : World} {e base : Nat} {ok : Nat → Prop} {v : Value} {ts : List Tri} (h : KS.R e W base ok v ts) (hp : 0 < ts.length) : ∃ o_ cap co, v = .slice (some ⟨o_, 0, none⟩) ts.length cap ∧ W.heap[o_]? = some (.cells co e (0, 0)) ∧ ∀ (m : Nat) (p : Tri), ts[m]? = some p → co[m]? = some (slT p) := by
 obtain ⟨g, c, rfl, _, _, cells, hc⟩ := Kd.R_form h hp
 refine ⟨g, c, cells, rfl, hc, fun m p hm => ?_⟩
 have hlt := (List.getElem?_eq_some_iff.1 hm).1
 have h1 := (Kd.R_celln ((none, 0, 0) : Tri) h (m : Int) (by omega) (by omega)).1
 have h4 : rdOf ((none, 0, 0) : Tri) ts (m : Int) = p := by
  unfold rdOf
  rw [Int.toNat_natCast, List.getD_eq_getElem?_getD, hm]
  rfl
 rw [h4, Int.toNat_natCast, cell_of_row _ _ _ _ _ _ hc] at h1
 exact h1
/-- a row of the call's own, before it is written full. -/
theorem fl_of_own {W : World} {base e n c : Nat} {A : Option Addr} {xs : List Value} (h : W.ownsRow base e 1 (.slice A n c) n xs) (own : Nat → Nat) (mk : Nat → Nat → List Value) (m : Nat) (ho : ∀ b, (Value.slice A n c).ownBlock = some b → own b = m) : Fl W base e 1 own mk m A n c 0 := by
 obtain ⟨hl, hv⟩ := h
 rcases hv with ⟨h1, h2⟩ | ⟨g, cap, cur, h1, hg1, hg2, hg3, hg4, hg5, hg6⟩
 ·
  injection h1 with h1 h3 h4
  exact .inl ⟨h1, h3, h4, rfl⟩
 ·
  injection h1 with h1 h3 h4
  subst h1 h4
  exact .inr ⟨g, cur, rfl, hg2, ho g rfl, hg1, hg5, hg3, Nat.zero_le _, fun i hi => by omega⟩
theorem row_kept {α : Type} {enc : α → Value} {h1 : ∀ x, (enc x).oneCell' = true} {e base g tb t1 : Nat} {W W1 : World} {v : Value} {l : List α} {cg : Array Value} (h : (Kd.scalar enc h1).R e W base (fun _ => True) v l) (hb : W.heap[g]? = some (.cells cg tb (0, 0))) (he : e ≠ tb) (he1 : e ≠ t1) (hk : ∀ k, k < W.heap.size → k ≠ g → (∀ cs, W.heap[k]? ≠ some (.cells cs t1 (0, 0))) → W1.heap[k]? = W.heap[k]?) : (Kd.scalar enc h1).R e W1 base (fun _ => True) v l := by
 refine Kd.R_mono (Kd.R_move (Kd.R_bound h) (fun k hk2 => ?_)) (fun _ _ => trivial)
 obtain ⟨_, _, h4, q, hq, cells, hc⟩ := hk2
 obtain rfl : q = e := by
  rcases List.mem_cons.1 hq with h | h
  ·
   exact h
  ·
   cases h
 refine hk k h4 (fun hkg => ?_) (fun cs hcs => ?_)
 ·
  subst hkg
  rw [hc] at hb
  injection hb with hb
  injection hb with _ hb
  exact he hb
 ·
  rw [hc] at hcs
  injection hcs with hcs
  injection hcs with _ hcs
  exact he1 hcs
def zBag : Array Value := #[.slice none 0 0, .slice none 0 0, .slice none 0 0, .slice none 0 0, .slice none 0 0, .slice none 0 0, .slice none 0 0, .slice none 0 0, .slice none 0 0, .slice none 0 0, .slice none 0 0, .slice none 0 0, .slice none 0 0, .slice none 0 0, .slice none 0 0, .slice none 0 0, .slice none 0 0]
theorem zBag_nil : ∀ k, k < 17 → zBag[k]? = some (.slice none 0 0) := by
 intro k hk
 match k, hk with
 | 0, _ => rfl
 | 1, _ => rfl
 | 2, _ => rfl
 | 3, _ => rfl
 | 4, _ => rfl
 | 5, _ => rfl
 | 6, _ => rfl
 | 7, _ => rfl
 | 8, _ => rfl
 | 9, _ => rfl
 | 10, _ => rfl
 | 11, _ => rfl
 | 12, _ => rfl
 | 13, _ => rfl
 | 14, _ => rfl
 | 15, _ => rfl
 | 16, _ => rfl
 | k + 17, h => exact absurd h (by omega)

set_option maxHeartbeats 60000000 in
set_option maxRecDepth 100000 in
theorem apartB.calls (w0 w : World) (g o_ : Nat) (cg co : Array Value) (M capO : Nat) (A : Nat → Option Addr) (L C : Nat → Nat) (own : Nat → Nat) (hbag : w.heap[g]? = some (.cells cg 56 (0, 0))) (hc : cg[0]? = some (.slice (some ⟨o_, 0, none⟩) M capO)) (ho : w.heap[o_]? = some (.cells co 31 (0, 0))) (hco : ∀ m, m < M → co[m]? = some (.slice (A m) (L m) (C m))) (hM : M ≤ 300) (hL : ∀ m, L m ≤ 1000000000) (low : Below w0.heap.size w0 w) (hrows : ∀ m, m < M → Fl w w0.heap.size 5 1 own mkBytes m (A m) (L m) (C m) 0) (hnil : ∀ k, 1 ≤ k → k < 17 → cg[k]? = some (.slice none 0 0)) :
  Calls Tryz.prog 14 #[.pointer (some ⟨g, 0, none⟩)] w fun e w' => e = .returned (.bool true) ∧ St w0 w w' 5 := by
 have HBAG := Aside0.mk hbag
 have HC := Aside0.mk hc
 have HO := Aside0.mk ho
 have HCO := Aside0.mk hco
 have HM := Aside0.mk hM
 have HL := Aside0.mk hL
 have LOW := Aside0.mk low
 have HR := Aside0.mk hrows
 have HNIL := Aside0.mk hnil
 clear hbag hc ho hco hM hL low hrows hnil
 go_enter Tryz.func14, Tryz.ntmps14
 go_wp2_with (first | (go_at_call 40; refine (apBytes.calls w0 _ g o_ cg co M capO A L C own HBAG.out HC.out HO.out HCO.out HM.out HL.out LOW.out HR.out).mono ?_; rintro e_ w1 ⟨rfl, hs_⟩; have HS := Aside0.mk hs_; clear hs_ HR) | (go_at_call 41; refine (noInts.calls _ g cg (HS.out.blk HBAG.out (by decide)) (HNIL.out 1 (by omega) (by omega))).mono ?_; rintro e_ w_ ⟨rfl, rfl⟩) | (go_at_call 42; refine (noBools.calls _ g cg (HS.out.blk HBAG.out (by decide)) (HNIL.out 2 (by omega) (by omega))).mono ?_; rintro e_ w_ ⟨rfl, rfl⟩) | (go_at_call 43; refine (noTexts.calls _ g cg (HS.out.blk HBAG.out (by decide)) (HNIL.out 3 (by omega) (by omega))).mono ?_; rintro e_ w_ ⟨rfl, rfl⟩) | (go_at_call 44; refine (noLongs.calls _ g cg (HS.out.blk HBAG.out (by decide)) (HNIL.out 4 (by omega) (by omega))).mono ?_; rintro e_ w_ ⟨rfl, rfl⟩) | (go_at_call 45; refine (noWords.calls _ g cg (HS.out.blk HBAG.out (by decide)) (HNIL.out 5 (by omega) (by omega))).mono ?_; rintro e_ w_ ⟨rfl, rfl⟩) | (go_at_call 46; refine (noRow.calls _ g cg (HS.out.blk HBAG.out (by decide)) (HNIL.out 6 (by omega) (by omega))).mono ?_; rintro e_ w_ ⟨rfl, rfl⟩) | (go_at_call 47; refine (noIns.calls _ g cg (HS.out.blk HBAG.out (by decide)) (HNIL.out 7 (by omega) (by omega))).mono ?_; rintro e_ w_ ⟨rfl, rfl⟩) | (go_at_call 48; refine (noSymbols.calls _ g cg (HS.out.blk HBAG.out (by decide)) (HNIL.out 8 (by omega) (by omega))).mono ?_; rintro e_ w_ ⟨rfl, rfl⟩) | (go_at_call 49; refine (noRelocs.calls _ g cg (HS.out.blk HBAG.out (by decide)) (HNIL.out 9 (by omega) (by omega))).mono ?_; rintro e_ w_ ⟨rfl, rfl⟩) | (go_at_call 50; refine (noPorts.calls _ g cg (HS.out.blk HBAG.out (by decide)) (HNIL.out 10 (by omega) (by omega))).mono ?_; rintro e_ w_ ⟨rfl, rfl⟩) | (go_at_call 51; refine (noBlocks.calls _ g cg (HS.out.blk HBAG.out (by decide)) (HNIL.out 11 (by omega) (by omega))).mono ?_; rintro e_ w_ ⟨rfl, rfl⟩) | (go_at_call 52; refine (noSpots.calls _ g cg (HS.out.blk HBAG.out (by decide)) (HNIL.out 12 (by omega) (by omega))).mono ?_; rintro e_ w_ ⟨rfl, rfl⟩) | (go_at_call 53; refine (noRows.calls _ g cg (HS.out.blk HBAG.out (by decide)) (HNIL.out 13 (by omega) (by omega))).mono ?_; rintro e_ w_ ⟨rfl, rfl⟩) | (go_at_call 54; refine (noRepeats.calls _ g cg (HS.out.blk HBAG.out (by decide)) (HNIL.out 14 (by omega) (by omega))).mono ?_; rintro e_ w_ ⟨rfl, rfl⟩) | (go_at_call 55; refine (noFolds.calls _ g cg (HS.out.blk HBAG.out (by decide)) (HNIL.out 15 (by omega) (by omega))).mono ?_; rintro e_ w_ ⟨rfl, rfl⟩) | (go_at_call 56; refine (noObjects.calls _ g cg (HS.out.blk HBAG.out (by decide)) (HNIL.out 16 (by omega) (by omega))).mono ?_; rintro e_ w_ ⟨rfl, rfl⟩))
 go_ret
 exact ⟨rfl, HS.out⟩
/-- wire.Write, once for all answers. -/
theorem wwrite.calls (a0_0 : ByteArray) (A0_1 : Option Addr) (c0_1 : Nat) (l0_1 : List Int) (a0_2 : Int) (A0_3 : Option Addr) (c0_3 : Nat) (l0_3 : List Int) (A0_4 : Option Addr) (c0_4 : Nat) (l0_4 : List Sym) (A0_5 : Option Addr) (c0_5 : Nat) (l0_5 : List Rel) (w : World) (hr0_1 : Kd.C (Kd.int .u32) w A0_1 l0_1.length l0_1) (hc0_1 : l0_1.length ≤ c0_1) (hr0_3 : Kd.C (Kd.int .i64) w A0_3 l0_3.length l0_3) (hc0_3 : l0_3.length ≤ c0_3) (hr0_4 : Kd.C k65 w A0_4 l0_4.length l0_4) (hc0_4 : l0_4.length ≤ c0_4) (hr0_5 : Kd.C k82 w A0_5 l0_5.length l0_5) (hc0_5 : l0_5.length ≤ c0_5) (hw : wordsO l0_1 = true) :
  Calls Tryz.prog 8 #[.agg #[.string a0_0, .slice A0_1 l0_1.length c0_1, .int .i64 a0_2, .slice A0_3 l0_3.length c0_3, .slice A0_4 l0_4.length c0_4, .slice A0_5 l0_5.length c0_5]] w fun e w' => ∃ v, e = .returned (.tuple #[v, .int .i64 (chkO a0_0 l0_1 a0_2 l0_3 l0_4 l0_5).1]) ∧ Kd.R (Kd.int .u8) 5 w' w.heap.size (fun _ => True) v (outB a0_0 l0_1 a0_2 l0_3 l0_4 l0_5) ∧ Below w.heap.size w w' := by
 have hf : object_Check.f a0_0 l0_1 a0_2 l0_3 l0_4 l0_5 = some ((chkO a0_0 l0_1 a0_2 l0_3 l0_4 l0_5).1, (chkO a0_0 l0_1 a0_2 l0_3 l0_4 l0_5).2) := by unfold object_Check.f; rw [if_pos hw]
 by_cases h : (chkO a0_0 l0_1 a0_2 l0_3 l0_4 l0_5).1 = 0
 ·
  have e : outB a0_0 l0_1 a0_2 l0_3 l0_4 l0_5 = writeB a0_0 l0_1 a0_2 l0_3 l0_4 l0_5 := if_pos h
  rw [e, h]
  rw [h] at hf
  exact write_ok.calls _ _ _ _ _ _ _ _ _ _ _ _ _ _ _ _ hr0_1 hc0_1 hr0_3 hc0_3 hr0_4 hc0_4 hr0_5 hc0_5 hf ((okO_of h).wok hw)
 ·
  have e : outB a0_0 l0_1 a0_2 l0_3 l0_4 l0_5 = [] := if_neg h
  rw [e]
  refine (write_bad.calls _ _ _ _ _ _ _ _ _ _ _ _ _ _ _ _ _ hr0_1 hc0_1 hr0_3 hc0_3 hr0_4 hc0_4 hr0_5 hc0_5 hf h).mono ?_
  rintro e_ w' ⟨rfl, hb⟩
  exact ⟨_, rfl, Kd.R_nil _ _ _ _ _, hb⟩
theorem outB_short {nm : ByteArray} {code : List Int} {dat : Int} {data : List Int} {syms : List Sym} {rels : List Rel} (hw : wordsO code = true) : (outB nm code dat data syms rels).length ≤ 1000000 := by
 unfold outB
 by_cases h : (chkO nm code dat data syms rels).1 = 0
 ·
  rw [if_pos h]
  exact writeB_short ((okO_of h).wok hw)
 ·
  rw [if_neg h]
  exact Nat.zero_le _
theorem wideO_slices4 {W : World} {base : Nat} {v1 v3 v4 v5 : Value} {nm : ByteArray} {l1 : List Int} {dat : Int} {l3 : List Int} {l4 : List Sym} {l5 : List (S82)} (h : WideO W base v1 v3 v4 v5 nm l1 dat l3 l4 l5) : ∃ A1 c1 A3 c3 A4 c4 A5 c5, v1 = .slice A1 l1.length c1 ∧ v3 = .slice A3 l3.length c3 ∧ v4 = .slice A4 l4.length c4 ∧ v5 = .slice A5 l5.length c5 := by
 obtain ⟨A1, c1, e1⟩ := h.w1.slice
 obtain ⟨A3, c3, e3⟩ := h.w3.slice
 obtain ⟨A4, c4, e4⟩ := h.w4.slice
 obtain ⟨A5, c5, e5⟩ := h.w5.slice
 exact ⟨A1, c1, A3, c3, A4, c4, A5, c5, e1, e3, e4, e5⟩
theorem wideO_put {W W1 : World} {base : Nat} {v1 v3 v4 v5 : Value} {nm : ByteArray} {l1 : List Int} {dat : Int} {l3 : List Int} {l4 : List Sym} {l5 : List (S82)} {g : Nat} {cs cs' : Array Value} {t' : TypeId} (h : WideO W base v1 v3 v4 v5 nm l1 dat l3 l4 l5) (hb : W.heap[g]? = some (.cells cs 27 (0, 0))) (hp : Put W W1 g cs' t') : WideO W1 base v1 v3 v4 v5 nm l1 dat l3 l4 l5 := ⟨h.w1.put rfl hb (by decide) hp, h.w3.put rfl hb (by decide) hp, h.w4.put rfl hb (by decide) hp, h.w5.put rfl hb (by decide) hp⟩
set_option maxHeartbeats 60000000 in
set_option maxRecDepth 100000 in
theorem wwrites.walk (a0_0 : ByteArray) (A0_1 : Option Addr) (c0_1 : Nat) (l0_1 : List Int) (a0_2 : Int) (A0_3 : Option Addr) (c0_3 : Nat) (l0_3 : List Int) (A0_4 : Option Addr) (c0_4 : Nat) (l0_4 : List Sym) (A0_5 : Option Addr) (c0_5 : Nat) (l0_5 : List Rel) (w : World)
  (hr0_1 : Kd.C (Kd.int .u32) w A0_1 l0_1.length l0_1) (hc0_1 : l0_1.length ≤ c0_1) (hr0_3 : Kd.C (Kd.int .i64) w A0_3 l0_3.length l0_3) (hc0_3 : l0_3.length ≤ c0_3) (hr0_4 : Kd.C k65 w A0_4 l0_4.length l0_4) (hc0_4 : l0_4.length ≤ c0_4) (hr0_5 : Kd.C k82 w A0_5 l0_5.length l0_5) (hc0_5 : l0_5.length ≤ c0_5)
  (hgl : w.cell? ⟨0, 0, none⟩ = some (.iface 182 (.agg #[.pointer (some ⟨4, 95, none⟩)]))) (kh : Nat) (hv : Bool) (hhv : pleatlaw04_heavy.f kh a0_0 l0_1 a0_2 l0_3 l0_4 l0_5 = some hv) (hlite : hv = false → Lite a0_0 l0_1 l0_3 l0_4 l0_5) (hwo : wordsO l0_1 = true) :
  Calls Tryz.prog 3 #[.agg #[.string a0_0, .slice A0_1 l0_1.length c0_1, .int .i64 a0_2, .slice A0_3 l0_3.length c0_3, .slice A0_4 l0_4.length c0_4, .slice A0_5 l0_5.length c0_5]] w fun e w' => e = .returned (.bool true) ∧ Below w.heap.size w w' := by
 have hu1 := Tryz.underlying27
 have HGL := Aside0.mk hgl
 have HV := Aside0.mk hhv
 have HWO := Aside0.mk hwo
 have R1 := Aside0.mk (And.intro hr0_1 hc0_1)
 have R3 := Aside0.mk (And.intro hr0_3 hc0_3)
 have R4 := Aside0.mk (And.intro hr0_4 hc0_4)
 have R5 := Aside0.mk (And.intro hr0_5 hc0_5)
 have HB := Aside0.mk (Below.refl w.heap.size w)
 clear hgl hhv hwo hr0_1 hc0_1 hr0_3 hc0_3 hr0_4 hc0_4 hr0_5 hc0_5
 cases hv with
 | true =>
  clear hlite
  go_enter Tryz.func3, Tryz.ntmps3
  go_wp2_with (first | ((with_reducible refine gate_dst (N := 1) rfl ?_); refine box_event ?hg (N := 1) ?hd (cs := #[.string a0_0, .slice A0_1 l0_1.length c0_1, .int .i64 a0_2, .slice A0_3 l0_3.length c0_3, .slice A0_4 l0_4.length c0_4, .slice A0_5 l0_5.length c0_5]) (t := 27) ?hr ?_; (case hd => rfl); (case hg => rfl); (case hr => first | (go_simp; done) | (go_simp; rfl)); intro gb hg_ w1 BK_ hb_; have BO := Aside0.mk (show w1.heap[gb]? = some (objCell a0_0 A0_1 l0_1.length c0_1 a0_2 A0_3 l0_3.length c0_3 A0_4 l0_4.length c0_4 A0_5 l0_5.length c0_5) from BK_); have HBn := Aside0.mk (bsQ hb_ HB.out); have GB := Aside0.mk (gwQ hg_ HB.out); clear HB BK_ hb_ hg_; have HB := HBn; clear HBn; have ha0 := blk_cell BO.out 0; have ha1 := blk_cell BO.out 1; have ha2 := blk_cell BO.out 2; have ha3 := blk_cell BO.out 3; have ha4 := blk_cell BO.out 4; have ha5 := blk_cell BO.out 5) | (go_at_call 5; refine (pleatlaw04_heavy.calls kh _ _ _ _ _ _ _ _ _ _ _ _ _ _ true _ (Kd.C_below R1.out.1 HB.out) R1.out.2 (Kd.C_below R3.out.1 HB.out) R3.out.2 (Kd.C_below R4.out.1 HB.out) R4.out.2 (Kd.C_below R5.out.1 HB.out) R5.out.2 HV.out).mono ?_; rintro e_ w2 ⟨rfl, hb_⟩; replace HB := Aside0.mk (bsQ hb_ HB.out); replace BO := Aside0.mk (blk_below BO.out hb_); clear hb_ ha0 ha1 ha2 ha3 ha4 ha5; have ha0 := blk_cell BO.out 0; have ha1 := blk_cell BO.out 1; have ha2 := blk_cell BO.out 2; have ha3 := blk_cell BO.out 3; have ha4 := blk_cell BO.out 4; have ha5 := blk_cell BO.out 5) | (go_at_call 6; refine (lives4.calls _ (pw_cell_below HB.out HGL.out)).mono ?_; rintro e_ wl ⟨rfl, hb_⟩; replace HB := Aside0.mk (bsQ hb_ HB.out); replace BO := Aside0.mk (blk_below BO.out hb_); clear hb_ ha0 ha1 ha2 ha3 ha4 ha5; have ha0 := blk_cell BO.out 0; have ha1 := blk_cell BO.out 1; have ha2 := blk_cell BO.out 2; have ha3 := blk_cell BO.out 3; have ha4 := blk_cell BO.out 4; have ha5 := blk_cell BO.out 5))
  go_ret
  exact ⟨rfl, HB.out⟩
 | false =>
  have HLT := Aside0.mk (hlite rfl)
  clear hlite
  have HSM := Aside0.mk (show pleatref00_WideObject.f a0_0 l0_1 a0_2 l0_3 l0_4 l0_5 = some (a0_0, l0_1, a0_2, l0_3, l0_4, l0_5) by unfold pleatref00_WideObject.f; rw [if_pos]; unfold smallO; have h1 := HLT.out.h1; have h3 := HLT.out.h3; have h4 := HLT.out.h4; have h5 := HLT.out.h5; rw [decide_eq_true (by omega), decide_eq_true (by omega), decide_eq_true (by omega), decide_eq_true (by omega)]; rfl)
  have HSP := Aside0.mk (show pleatref00_SpareObject.f a0_0 l0_1 a0_2 l0_3 l0_4 l0_5 = some true by unfold pleatref00_SpareObject.f; rw [if_pos]; unfold smallO; have h1 := HLT.out.h1; have h3 := HLT.out.h3; have h4 := HLT.out.h4; have h5 := HLT.out.h5; rw [decide_eq_true (by omega), decide_eq_true (by omega), decide_eq_true (by omega), decide_eq_true (by omega)]; rfl)
  have hl1 := HLT.out.h1
  have hl4 := HLT.out.h4
  have hl5 := HLT.out.h5
  obtain ⟨kw, hkw⟩ := (chk3 a0_0 l0_1 a0_2 l0_3 l0_4 l0_5 HWO.out (by omega) (by omega) (by omega)).rounds
  clear hl1 hl4 hl5
  have hL := outB_short (nm := a0_0) (dat := a0_2) (data := l0_3) (syms := l0_4) (rels := l0_5) HWO.out
  obtain ⟨kb, hkb⟩ := (eqBytesE (outB a0_0 l0_1 a0_2 l0_3 l0_4 l0_5) (Nat.le_trans hL (by decide))).rounds
  have HLL := Aside0.mk hL
  have HKB := Aside0.mk hkb
  clear hL hkb
  have hwr : ∀ (A1 : Option Addr) (c1 : Nat) (A3 : Option Addr) (c3 : Nat) (A4 : Option Addr) (c4 : Nat) (A5 : Option Addr) (c5 : Nat) (W : World) h1 h2 h3 h4 h5 h6 h7 h8, _ := fun A1 c1 A3 c3 A4 c4 A5 c5 W h1 h2 h3 h4 h5 h6 h7 h8 => wwrite.calls a0_0 A1 c1 l0_1 a0_2 A3 c3 l0_3 A4 c4 l0_4 A5 c5 l0_5 W h1 h2 h3 h4 h5 h6 h7 h8 HWO.out
  have HWR := Aside0.mk hwr
  have hwf : ∀ (A1 : Option Addr) (c1 : Nat) (A3 : Option Addr) (c3 : Nat) (A4 : Option Addr) (c4 : Nat) (A5 : Option Addr) (c5 : Nat) (W : World) h1 h2 h3 h4 h5 h6 h7 h8, _ := fun A1 c1 A3 c3 A4 c4 A5 c5 W h1 h2 h3 h4 h5 h6 h7 h8 => refW.calls kw a0_0 A1 c1 l0_1 a0_2 A3 c3 l0_3 A4 c4 l0_4 A5 c5 l0_5 W h1 h2 h3 h4 h5 h6 h7 h8 HWO.out hkw
  have HKW := Aside0.mk hwf
  clear hwr hwf hkw
  generalize outB a0_0 l0_1 a0_2 l0_3 l0_4 l0_5 = L at HWR HKB HKW HLL
  generalize (chkO a0_0 l0_1 a0_2 l0_3 l0_4 l0_5).1 = ce at HWR HKW
  go_enter Tryz.func3, Tryz.ntmps3
  go_upto_region 4 with (first | ((with_reducible refine gate_dst (N := 1) rfl ?_); refine box_event ?hg (N := 1) ?hd (cs := #[.string a0_0, .slice A0_1 l0_1.length c0_1, .int .i64 a0_2, .slice A0_3 l0_3.length c0_3, .slice A0_4 l0_4.length c0_4, .slice A0_5 l0_5.length c0_5]) (t := 27) ?hr ?_; (case hd => rfl); (case hg => rfl); (case hr => first | (go_simp; done) | (go_simp; rfl)); intro gb hg_ w1 BK_ hb_; have BO := Aside0.mk (show w1.heap[gb]? = some (objCell a0_0 A0_1 l0_1.length c0_1 a0_2 A0_3 l0_3.length c0_3 A0_4 l0_4.length c0_4 A0_5 l0_5.length c0_5) from BK_); have HBn := Aside0.mk (bsQ hb_ HB.out); have GB := Aside0.mk (gwQ hg_ HB.out); clear HB BK_ hb_ hg_; have HB := HBn; clear HBn; have ha0 := blk_cell BO.out 0; have ha1 := blk_cell BO.out 1; have ha2 := blk_cell BO.out 2; have ha3 := blk_cell BO.out 3; have ha4 := blk_cell BO.out 4; have ha5 := blk_cell BO.out 5) | (go_at_call 5; refine (pleatlaw04_heavy.calls kh _ _ _ _ _ _ _ _ _ _ _ _ _ _ false _ (Kd.C_below R1.out.1 HB.out) R1.out.2 (Kd.C_below R3.out.1 HB.out) R3.out.2 (Kd.C_below R4.out.1 HB.out) R4.out.2 (Kd.C_below R5.out.1 HB.out) R5.out.2 HV.out).mono ?_; rintro e_ w2 ⟨rfl, hb_⟩; replace HB := Aside0.mk (bsQ hb_ HB.out); replace BO := Aside0.mk (blk_below BO.out hb_); clear hb_ ha0 ha1 ha2 ha3 ha4 ha5; have ha0 := blk_cell BO.out 0; have ha1 := blk_cell BO.out 1; have ha2 := blk_cell BO.out 2; have ha3 := blk_cell BO.out 3; have ha4 := blk_cell BO.out 4; have ha5 := blk_cell BO.out 5) | (go_at_call 7; refine (pleatref00_WideObject.callsW _ _ _ _ _ _ _ _ _ _ _ _ _ _ _ _ _ _ _ _ _ (Kd.C_below R1.out.1 HB.out) R1.out.2 (Kd.C_below R3.out.1 HB.out) R3.out.2 (Kd.C_below R4.out.1 HB.out) R4.out.2 (Kd.C_below R5.out.1 HB.out) R5.out.2 HSM.out).mono ?_; rintro e_ w3 ⟨v1, v3, v4, v5, rfl, _, _, _, _, hb_, hw_⟩; obtain ⟨A1, c1, A3, c3, A4, c4, A5, c5, e1_, e3_, e4_, e5_⟩ := wideO_slices4 hw_; subst e1_ e3_ e4_ e5_; have WO := Aside0.mk hw_; clear hw_; replace HB := Aside0.mk (bsQ hb_ HB.out); replace BO := Aside0.mk (blk_below BO.out hb_); clear hb_ ha0 ha1 ha2 ha3 ha4 ha5; have ha0 := blk_cell BO.out 0; have ha1 := blk_cell BO.out 1; have ha2 := blk_cell BO.out 2; have ha3 := blk_cell BO.out 3; have ha4 := blk_cell BO.out 4; have ha5 := blk_cell BO.out 5) | ((with_reducible refine gate_dst (N := 3) rfl ?_); refine box_event ?hg (N := 3) ?hd (cs := zObj) (t := 27) ?hr ?_; (case hd => rfl); (case hg => rfl); (case hr => first | (go_simp; done) | (go_simp; rfl)); intro gi hg_ w4 BK_ hb_; have GI := Aside0.mk (gwQ hg_ HB.out); have NEi := Aside0.mk (show gb ≠ gi by rw [hg_]; exact Nat.ne_of_lt (blk_lt BO.out)); have BI := Aside0.mk BK_; clear BK_ hg_; replace HB := Aside0.mk (bsQ hb_ HB.out); replace BO := Aside0.mk (blk_below BO.out hb_); have WOn := Aside0.mk (WO.out.below hb_); clear hb_ ha0 ha1 ha2 ha3 ha4 ha5 WO; have WO := WOn; clear WOn; have ha0 := blk_cell BO.out 0; have ha1 := blk_cell BO.out 1; have ha2 := blk_cell BO.out 2; have ha3 := blk_cell BO.out 3; have ha4 := blk_cell BO.out 4; have ha5 := blk_cell BO.out 5) | ((with_reducible refine gate_store (t := 27) rfl ?_); refine wpList_store_whole rfl rfl rfl gi _ #[.string a0_0, .slice A1 l0_1.length c1, .int .i64 a0_2, .slice A3 l0_3.length c3, .slice A4 l0_4.length c4, .slice A5 l0_5.length c5] _ rfl rfl BI.out (by kernel_rfl) rfl (obj_oneR _ _ _ _ _ _ _ _ _ _ _ _ _ _) ?_; intro w5 hp_; replace HB := Aside0.mk (hp_.below HB.out GI.out); replace BO := Aside0.mk (blk_grown BO.out (put_grownN hp_) (fun e_ => NEi.out (Option.some.inj e_))); replace WO := Aside0.mk (wideO_put WO.out BI.out hp_); replace BI := Aside0.mk hp_.blk; clear ha0 ha1 ha2 ha3 ha4 ha5 hp_; have ha0 := blk_cell BO.out 0; have ha1 := blk_cell BO.out 1; have ha2 := blk_cell BO.out 2; have ha3 := blk_cell BO.out 3; have ha4 := blk_cell BO.out 4; have ha5 := blk_cell BO.out 5; have hi0 := blk_cell BI.out 0; have hi1 := blk_cell BI.out 1; have hi2 := blk_cell BI.out 2; have hi3 := blk_cell BI.out 3; have hi4 := blk_cell BI.out 4; have hi5 := blk_cell BI.out 5))
  go_upto_region 5 with ((go_at_call 8; refine (HWR.out _ _ _ _ _ _ _ _ _ (Kd.R_reads' WO.out.w1.R).2.2 (Kd.R_reads' WO.out.w1.R).2.1 (Kd.R_reads' WO.out.w3.R).2.2 (Kd.R_reads' WO.out.w3.R).2.1 (Kd.R_reads' WO.out.w4.R).2.2 (Kd.R_reads' WO.out.w4.R).2.1 (Kd.R_reads' WO.out.w5.R).2.2 (Kd.R_reads' WO.out.w5.R).2.1).mono ?_; rintro e_ w6 ⟨va, rfl, hr_, hb_⟩; obtain ⟨Aa, ca, ea⟩ := Kd.R_slice hr_; subst ea; have Ra := Aside0.mk (Kd.R_lower hr_ (show w.heap.size ≤ _ from HB.out.size)); clear hr_; replace HB := Aside0.mk (bsQ hb_ HB.out); replace BO := Aside0.mk (blk_below BO.out hb_); have BIn := Aside0.mk (blk_below BI.out hb_); have WOn := Aside0.mk (WO.out.below hb_); clear hb_ ha0 ha1 ha2 ha3 ha4 ha5 hi0 hi1 hi2 hi3 hi4 hi5 BI WO; have BI := BIn; clear BIn; have WO := WOn; clear WOn; have ha0 := blk_cell BO.out 0; have ha1 := blk_cell BO.out 1; have ha2 := blk_cell BO.out 2; have ha3 := blk_cell BO.out 3; have ha4 := blk_cell BO.out 4; have ha5 := blk_cell BO.out 5; have hi0 := blk_cell BI.out 0; have hi1 := blk_cell BI.out 1; have hi2 := blk_cell BI.out 2; have hi3 := blk_cell BI.out 3; have hi4 := blk_cell BI.out 4; have hi5 := blk_cell BI.out 5))
  go_upto_region 6 with ((go_at_call 8; refine (HWR.out _ _ _ _ _ _ _ _ _ (Kd.R_reads' WO.out.w1.R).2.2 (Kd.R_reads' WO.out.w1.R).2.1 (Kd.R_reads' WO.out.w3.R).2.2 (Kd.R_reads' WO.out.w3.R).2.1 (Kd.R_reads' WO.out.w4.R).2.2 (Kd.R_reads' WO.out.w4.R).2.1 (Kd.R_reads' WO.out.w5.R).2.2 (Kd.R_reads' WO.out.w5.R).2.1).mono ?_; rintro e_ w6 ⟨vb, rfl, hr_, hb_⟩; obtain ⟨Ab, cb, eb⟩ := Kd.R_slice hr_; subst eb; have NAB := Aside0.mk (show ∀ k_, (Value.slice Ab L.length cb).ownBlock = some k_ → ∀ j_, (Value.slice Aa L.length ca).ownBlock = some j_ → k_ ≠ j_ from fun k_ hk_ j_ hj_ => Nat.ne_of_gt (Nat.lt_of_lt_of_le (Kd.R_lt Ra.out j_ hj_) (Kd.R_base hr_ k_ hk_))); have Rb := Aside0.mk (Kd.R_lower hr_ (show w.heap.size ≤ _ from HB.out.size)); clear hr_; replace HB := Aside0.mk (bsQ hb_ HB.out); replace BO := Aside0.mk (blk_below BO.out hb_); have Ran := Aside0.mk (Kd.R_below Ra.out hb_); have BIn := Aside0.mk (blk_below BI.out hb_); have WOn := Aside0.mk (WO.out.below hb_); clear hb_ ha0 ha1 ha2 ha3 ha4 ha5 hi0 hi1 hi2 hi3 hi4 hi5 Ra BI WO; have Ra := Ran; clear Ran; have BI := BIn; clear BIn; have WO := WOn; clear WOn; have ha0 := blk_cell BO.out 0; have ha1 := blk_cell BO.out 1; have ha2 := blk_cell BO.out 2; have ha3 := blk_cell BO.out 3; have ha4 := blk_cell BO.out 4; have ha5 := blk_cell BO.out 5; have hi0 := blk_cell BI.out 0; have hi1 := blk_cell BI.out 1; have hi2 := blk_cell BI.out 2; have hi3 := blk_cell BI.out 3; have hi4 := blk_cell BI.out 4; have hi5 := blk_cell BI.out 5))
  go_upto_region 7 with ((go_at_call 9; refine (HKW.out _ _ _ _ _ _ _ _ _ (Kd.C_below R1.out.1 HB.out) R1.out.2 (Kd.C_below R3.out.1 HB.out) R3.out.2 (Kd.C_below R4.out.1 HB.out) R4.out.2 (Kd.C_below R5.out.1 HB.out) R5.out.2).mono ?_; rintro e_ w7 ⟨vq, rfl, hr_, hb_⟩; obtain ⟨Aq, cq, eq_⟩ := Kd.R_slice hr_; subst eq_; have Rq := Aside0.mk hr_; clear hr_; replace HB := Aside0.mk (bsQ hb_ HB.out); replace BO := Aside0.mk (blk_below BO.out hb_); have Ran := Aside0.mk (Kd.R_below Ra.out hb_); have Rbn := Aside0.mk (Kd.R_below Rb.out hb_); have BIn := Aside0.mk (blk_below BI.out hb_); have WOn := Aside0.mk (WO.out.below hb_); clear hb_ ha0 ha1 ha2 ha3 ha4 ha5 hi0 hi1 hi2 hi3 hi4 hi5 Ra Rb BI WO; have Ra := Ran; clear Ran; have Rb := Rbn; clear Rbn; have BI := BIn; clear BIn; have WO := WOn; clear WOn; have ha0 := blk_cell BO.out 0; have ha1 := blk_cell BO.out 1; have ha2 := blk_cell BO.out 2; have ha3 := blk_cell BO.out 3; have ha4 := blk_cell BO.out 4; have ha5 := blk_cell BO.out 5; have hi0 := blk_cell BI.out 0; have hi1 := blk_cell BI.out 1; have hi2 := blk_cell BI.out 2; have hi3 := blk_cell BI.out 3; have hi4 := blk_cell BI.out 4; have hi5 := blk_cell BI.out 5))
  have Ta := Aside0.mk trivial
  have Tb := Aside0.mk trivial
  go_upto_region 9 with (first | (go_at_call 10; have _ := Ta.out; clear Ta; refine (pleatref00_EqBytes.calls kb _ _ L _ _ L true _ (Kd.R_reads' Ra.out).2.2 (Kd.R_reads' Ra.out).2.1 (Kd.R_reads' Rq.out).2.2 (Kd.R_reads' Rq.out).2.1 HKB.out).mono ?_; rintro e_ w8 ⟨rfl, hd_⟩; have hb_ := hd_.below; clear hd_; replace HB := Aside0.mk (bsQ hb_ HB.out); replace BO := Aside0.mk (blk_below BO.out hb_); have Ran := Aside0.mk (Kd.R_below Ra.out hb_); have Rbn := Aside0.mk (Kd.R_below Rb.out hb_); have Rqn := Aside0.mk (Kd.R_below Rq.out hb_); have BIn := Aside0.mk (blk_below BI.out hb_); have WOn := Aside0.mk (WO.out.below hb_); clear hb_ ha0 ha1 ha2 ha3 ha4 ha5 hi0 hi1 hi2 hi3 hi4 hi5 Ra Rb Rq BI WO; have Ra := Ran; clear Ran; have Rb := Rbn; clear Rbn; have Rq := Rqn; clear Rqn; have BI := BIn; clear BIn; have WO := WOn; clear WOn; have ha0 := blk_cell BO.out 0; have ha1 := blk_cell BO.out 1; have ha2 := blk_cell BO.out 2; have ha3 := blk_cell BO.out 3; have ha4 := blk_cell BO.out 4; have ha5 := blk_cell BO.out 5; have hi0 := blk_cell BI.out 0; have hi1 := blk_cell BI.out 1; have hi2 := blk_cell BI.out 2; have hi3 := blk_cell BI.out 3; have hi4 := blk_cell BI.out 4; have hi5 := blk_cell BI.out 5) | (go_at_call 10; have _ := Tb.out; clear Tb; refine (pleatref00_EqBytes.calls kb _ _ L _ _ L true _ (Kd.R_reads' Rb.out).2.2 (Kd.R_reads' Rb.out).2.1 (Kd.R_reads' Rq.out).2.2 (Kd.R_reads' Rq.out).2.1 HKB.out).mono ?_; rintro e_ w8 ⟨rfl, hd_⟩; have hb_ := hd_.below; clear hd_; replace HB := Aside0.mk (bsQ hb_ HB.out); replace BO := Aside0.mk (blk_below BO.out hb_); have Ran := Aside0.mk (Kd.R_below Ra.out hb_); have Rbn := Aside0.mk (Kd.R_below Rb.out hb_); have Rqn := Aside0.mk (Kd.R_below Rq.out hb_); have BIn := Aside0.mk (blk_below BI.out hb_); have WOn := Aside0.mk (WO.out.below hb_); clear hb_ ha0 ha1 ha2 ha3 ha4 ha5 hi0 hi1 hi2 hi3 hi4 hi5 Ra Rb Rq BI WO; have Ra := Ran; clear Ran; have Rb := Rbn; clear Rbn; have Rq := Rqn; clear Rqn; have BI := BIn; clear BIn; have WO := WOn; clear WOn; have ha0 := blk_cell BO.out 0; have ha1 := blk_cell BO.out 1; have ha2 := blk_cell BO.out 2; have ha3 := blk_cell BO.out 3; have ha4 := blk_cell BO.out 4; have ha5 := blk_cell BO.out 5; have hi0 := blk_cell BI.out 0; have hi1 := blk_cell BI.out 1; have hi2 := blk_cell BI.out 2; have hi3 := blk_cell BI.out 3; have hi4 := blk_cell BI.out 4; have hi5 := blk_cell BI.out 5) | (go_at_call 11; refine (eqObjS.calls a0_0 l0_1 a0_2 l0_3 l0_4 l0_5 _ _ _ _ _ _ _ _ _ _ _ _ _ _ _ _ _ (Kd.R_reads' WO.out.w1.R).2.2 (Kd.R_reads' WO.out.w3.R).2.2 (Kd.R_reads' WO.out.w4.R).2.2 (Kd.R_reads' WO.out.w5.R).2.2 (Kd.C_below R1.out.1 HB.out) (Kd.C_below R3.out.1 HB.out) (Kd.C_below R4.out.1 HB.out) (Kd.C_below R5.out.1 HB.out) (Nat.le_trans HLT.out.h1 (by decide)) (Nat.le_trans HLT.out.h3 (by decide)) (Nat.le_trans HLT.out.h4 (by decide)) (Nat.le_trans HLT.out.h5 (by decide))).mono ?_; rintro e_ w10 ⟨rfl, hb_⟩; replace HB := Aside0.mk (bsQ hb_ HB.out); replace BO := Aside0.mk (blk_below BO.out hb_); have Ran := Aside0.mk (Kd.R_below Ra.out hb_); have Rbn := Aside0.mk (Kd.R_below Rb.out hb_); have BIn := Aside0.mk (blk_below BI.out hb_); have WOn := Aside0.mk (WO.out.below hb_); clear hb_ ha0 ha1 ha2 ha3 ha4 ha5 hi0 hi1 hi2 hi3 hi4 hi5 Ra Rb BI WO; have Ra := Ran; clear Ran; have Rb := Rbn; clear Rbn; have BI := BIn; clear BIn; have WO := WOn; clear WOn; have ha0 := blk_cell BO.out 0; have ha1 := blk_cell BO.out 1; have ha2 := blk_cell BO.out 2; have ha3 := blk_cell BO.out 3; have ha4 := blk_cell BO.out 4; have ha5 := blk_cell BO.out 5; have hi0 := blk_cell BI.out 0; have hi1 := blk_cell BI.out 1; have hi2 := blk_cell BI.out 2; have hi3 := blk_cell BI.out 3; have hi4 := blk_cell BI.out 4; have hi5 := blk_cell BI.out 5) | (go_at_call 12; refine (pleatref00_SpareObject.callsW _ _ _ _ _ _ _ _ _ _ _ _ _ _ true _ (Kd.R_reads' WO.out.w1.R).2.2 (Kd.R_reads' WO.out.w1.R).2.1 (Kd.R_reads' WO.out.w3.R).2.2 (Kd.R_reads' WO.out.w3.R).2.1 (Kd.R_reads' WO.out.w4.R).2.2 (Kd.R_reads' WO.out.w4.R).2.1 (Kd.R_reads' WO.out.w5.R).2.2 (Kd.R_reads' WO.out.w5.R).2.1 HSP.out ⟨_, WO.out⟩).mono ?_; rintro e_ w11 ⟨rfl, hb_⟩; replace HB := Aside0.mk (bsQ hb_ HB.out); replace BO := Aside0.mk (blk_below BO.out hb_); have Ran := Aside0.mk (Kd.R_below Ra.out hb_); have Rbn := Aside0.mk (Kd.R_below Rb.out hb_); have BIn := Aside0.mk (blk_below BI.out hb_); have WOn := Aside0.mk (WO.out.below hb_); clear hb_ ha0 ha1 ha2 ha3 ha4 ha5 hi0 hi1 hi2 hi3 hi4 hi5 Ra Rb BI WO; have Ra := Ran; clear Ran; have Rb := Rbn; clear Rbn; have BI := BIn; clear BIn; have WO := WOn; clear WOn; have ha0 := blk_cell BO.out 0; have ha1 := blk_cell BO.out 1; have ha2 := blk_cell BO.out 2; have ha3 := blk_cell BO.out 3; have ha4 := blk_cell BO.out 4; have ha5 := blk_cell BO.out 5; have hi0 := blk_cell BI.out 0; have hi1 := blk_cell BI.out 1; have hi2 := blk_cell BI.out 2; have hi3 := blk_cell BI.out 3; have hi4 := blk_cell BI.out 4; have hi5 := blk_cell BI.out 5))
  clear BO BI WO Rq ha0 ha1 ha2 ha3 ha4 ha5 hi0 hi1 hi2 hi3 hi4 hi5
  go_upto_region 10 with (((with_reducible refine gate_dst (N := 63) rfl ?_); refine box_event ?hg (N := 63) ?hd (cs := zBag) (t := 56) ?hr ?_; (case hd => rfl); (case hg => rfl); (case hr => first | (go_simp; done) | (go_simp; rfl)); intro gg hg_ w12 BK_ hb_; have GG := Aside0.mk (gwQ hg_ HB.out); have BG := Aside0.mk BK_; clear BK_ hg_; replace HB := Aside0.mk (bsQ hb_ HB.out); have Ran := Aside0.mk (Kd.R_below Ra.out hb_); have Rbn := Aside0.mk (Kd.R_below Rb.out hb_); clear hb_ Ra Rb; have Ra := Ran; clear Ran; have Rb := Rbn; clear Rbn))
  go_upto_region 11 with ((go_at_call 13; refine (addBytes.calls w _ gg zBag [] (.slice none 0 0) BG.out rfl GG.out HB.out (Kd.R_nil _ _ _ _ _) (by simp) (Aa, L.length, ca)).mono ?_; rintro e_ w13 ⟨rfl, u1, hbg_, hrr_, hlow_, hk_⟩; replace Ra := Aside0.mk (row_kept Ra.out BG.out (by decide) (by decide) hk_); replace Rb := Aside0.mk (row_kept Rb.out BG.out (by decide) (by decide) hk_); replace BG := Aside0.mk hbg_; have RRu1 := Aside0.mk hrr_; replace HB := Aside0.mk hlow_; clear hbg_ hrr_ hlow_ hk_))
  go_upto_region 12 with ((go_at_call 13; refine (addBytes.calls w _ gg (zBag.setIfInBounds 0 u1) [(Aa, L.length, ca)] u1 BG.out rfl GG.out HB.out RRu1.out (by simp) (Ab, L.length, cb)).mono ?_; rintro e_ w14 ⟨rfl, u2, hbg_, hrr_, hlow_, hk_⟩; replace Ra := Aside0.mk (row_kept Ra.out BG.out (by decide) (by decide) hk_); replace Rb := Aside0.mk (row_kept Rb.out BG.out (by decide) (by decide) hk_); replace BG := Aside0.mk hbg_; have RRu2 := Aside0.mk hrr_; replace HB := Aside0.mk hlow_; clear hbg_ hrr_ hlow_ hk_))
  obtain ⟨o_, capO, co, e2_, hbo, hco⟩ := row_raw RRu2.out (by simp)
  subst e2_
  have HBO := Aside0.mk hbo
  have HCO := Aside0.mk hco
  have hnil : ∀ k, 1 ≤ k → k < 17 → ((zBag.setIfInBounds 0 u1).setIfInBounds 0 (.slice (some ⟨o_, 0, none⟩) ([] ++ [(Aa, L.length, ca)] ++ [(Ab, L.length, cb)] : List Tri).length capO))[k]? = some (.slice none 0 0) := fun k h1 h2 => by rw [Array.getElem?_setIfInBounds_ne (by omega), Array.getElem?_setIfInBounds_ne (by omega)]; exact zBag_nil k h2
  have HNIL := Aside0.mk hnil
  clear hbo hco hnil RRu1 RRu2
  have hco2 : ∀ m, m < 2 → co[m]? = some (.slice (if m = 0 then Aa else Ab) L.length (if m = 0 then ca else cb)) := by
   intro m hm
   match m, hm with
   | 0, _ => exact HCO.out 0 _ rfl
   | 1, _ => exact HCO.out 1 _ rfl
   | m + 2, h => exact absurd h (by omega)
  have hrw : ∀ m, m < 2 → Fl w14 w.heap.size 5 1 (fun b => if some b = (Value.slice Aa L.length ca).ownBlock then 0 else 1) mkBytes m (if m = 0 then Aa else Ab) L.length (if m = 0 then ca else cb) 0 := by
   intro m hm
   match m, hm with
   | 0, _ => exact fl_of_own (Kd.own_of_R Ra.out) _ _ 0 (fun b hb => if_pos hb.symm)
   | 1, _ => exact fl_of_own (Kd.own_of_R Rb.out) _ _ 1 (fun b hb => if_neg (fun h => NAB.out b hb b h.symm rfl))
   | m + 2, h => exact absurd h (by omega)
  have HCO2 := Aside0.mk hco2
  have HRW := Aside0.mk hrw
  clear hco2 hrw
  go_wp2_with (first | (go_at_call 14; refine (apartB.calls w _ gg o_ _ co 2 capO (fun m => if m = 0 then Aa else Ab) (fun _ => L.length) (fun m => if m = 0 then ca else cb) (fun b => if some b = (Value.slice Aa L.length ca).ownBlock then 0 else 1) BG.out rfl HBO.out HCO2.out (by decide) (fun _ => Nat.le_trans HLL.out (by decide)) HB.out HRW.out HNIL.out).mono ?_; rintro e_ w15 ⟨rfl, hs_⟩; replace HB := Aside0.mk hs_.low; clear hs_ BG Ra Rb HRW HBO) | (go_at_call 6; refine (lives4.calls _ (pw_cell_below HB.out HGL.out)).mono ?_; rintro e_ wl ⟨rfl, hb_⟩; replace HB := Aside0.mk (bsQ hb_ HB.out); clear hb_))
  go_ret
  exact ⟨rfl, HB.out⟩
end Go.Proofs.YtiaohbbafaaibabGreatDoor.P

/- OWN TEXT: an argument of whatever plain type (whole numbers, bools, strings, slices, structs of these), read as a value of the print's own kinds. -/
set_option linter.unusedVariables false
set_option linter.unusedSimpArgs false
namespace Go.Proofs.YtiaohbbafaaibabGreatDoor.Opn
open Go.ChangeShapes Go.WideShapes Go.Deep Go.RowKit Go.Proofs.YtiaohbbafaaibabGreatDoorW.PrintWords

/-- Whatever reads as data of type t is a value of kind d, and meets wf. -/
def Opens (P : Program) (t : TypeId) {α : Type} (d : Kd α) (wf : α → Prop) : Prop :=
 P.cellsOf t = d.sz ∧ ∀ (H : Type) (enc : TypeId × Value → H) (w : World) (base : Nat) (spare : Nat → Bool) (held : Bool) (fuel : Nat) (cs : List Value) (x : DataW H × List MemPlace),
  DataW.trod enc P w base spare held fuel t cs = some x → (∀ n ∈ x.1.weights P t, n ≤ reachBytes) → ∃ a : α, d.K w a cs ∧ wf a

theorem Opens.int {P : Program} {t : TypeId} {k : IntKind} (hc : P.cellsOf t = 1) (hu : P.underlying t = some (.int k)) : Opens P t (Kd.int k) (fun n => (Lit.int k n).wf = true) :=
  ⟨hc, fun H enc w base spare held fuel cs x h _ => by
    obtain ⟨n, rfl, rfl, hw⟩ := DataW.trod_int hu h
    exact ⟨n, rfl, hw⟩⟩
theorem Opens.bool {P : Program} {t : TypeId} (hc : P.cellsOf t = 1) (hu : P.underlying t = some .bool) : Opens P t Kd.bool (fun _ => True) :=
  ⟨hc, fun H enc w base spare held fuel cs x h _ => by
    obtain ⟨b, rfl, rfl⟩ := DataW.trod_bool hu h
    exact ⟨b, rfl, trivial⟩⟩
theorem Opens.string {P : Program} {t : TypeId} (hc : P.cellsOf t = 1) (hu : P.underlying t = some .string) : Opens P t Kd.string (fun s => s.size ≤ 140737488351232) :=
  ⟨hc, fun H enc w base spare held fuel cs x h hz => by
    obtain ⟨s, rfl, rfl, _⟩ := DataW.trod_string hu h
    have := hz s.data.toList.length (by simp [DataW.weights])
    rw [Array.length_toList] at this
    exact ⟨s, rfl, this⟩⟩

theorem weightsAll_mem {H : Type} {P : Program} {e : TypeId} : ∀ {l : List (DataW H)} {d : DataW H}, d ∈ l → ∀ n ∈ d.weights P e, n ∈ DataW.weightsAll P e l
  | d0 :: r, d, hd, n, hn => by
    simp only [DataW.weightsAll, List.mem_append]
    rcases List.mem_cons.1 hd with rfl | hd
    · exact .inl hn
    · exact .inr (weightsAll_mem hd n hn)

theorem Opens.slice {P : Program} {t e : TypeId} {α : Type} {d : Kd α} {wf : α → Prop} {B : Nat} (hc : P.cellsOf t = 1) (hu : P.underlying t = some (.slice e)) (hB : P.bytesOf e = B) (he : Opens P e d wf) :
    Opens P t (Kd.slice e d) (fun l => l.length ≤ 9223372036854775807 ∧ l.length * B ≤ 140737488351232 ∧ ∀ x ∈ l, wf x) :=
  ⟨hc, fun H enc w base spare held fuel cs x h hz => by
    rcases open_slice hu h with ⟨rfl, rfl⟩ | ⟨a, len, cap, m, n, D, Pl, rfl, hb, hl, hm, hmm, rfl, hi⟩
    · exact ⟨[], ⟨none, 0, rfl, Nat.le_refl _, rfl, by simp, fun h => absurd h (Nat.lt_irrefl 0)⟩, by simp, by simp, fun x hx => by cases hx⟩
    · have hlm : len ≤ m := by rw [hmm]; split <;> omega
      have hw0 : ∀ n ∈ (DataW.slice ((List.range len).map D) ((List.range (m - len)).map fun j => D (len + j))).weights P t, n ≤ reachBytes := hz
      have h1 : (len + (m - len)) * P.bytesOf e ≤ reachBytes := by
        have := hw0 _ (by simp only [DataW.weights, hu]; exact List.mem_cons_self)
        simpa using this
      have hel : ∀ i, i < len → ∃ (a' : α) (c : List Value), w.cells? base (a.add (i * P.cellsOf e)) (P.cellsOf e) = some c ∧ d.K w a' c ∧ wf a' := fun i hi' => by
        obtain ⟨c, hcc, ht⟩ := hi i (Nat.lt_of_lt_of_le hi' hlm)
        obtain ⟨a', hk, hwf⟩ := he.2 H enc w base spare held n c _ ht (fun q hq => hw0 q (by
          simp only [DataW.weights, hu]
          exact List.mem_cons_of_mem _ (List.mem_append_left _ (weightsAll_mem (List.mem_map.2 ⟨i, List.mem_range.2 hi', rfl⟩) q hq))))
        exact ⟨a', c, hcc, hk, hwf⟩
      have hl' : ∃ l : List α, l.length = len ∧ ∀ i x, l[i]? = some x → ∃ c, w.cells? base (a.add (i * P.cellsOf e)) (P.cellsOf e) = some c ∧ d.K w x c ∧ wf x := by
        clear hw0 h1 hi hlm hl hz hmm h
        induction len with
        | zero => exact ⟨[], rfl, fun i x hx => by simp at hx⟩
        | succ len ih =>
          obtain ⟨l, hl, hp⟩ := ih (fun i hi => hel i (Nat.lt_succ_of_lt hi))
          obtain ⟨a', c, h1, h2, h3⟩ := hel len (Nat.lt_succ_self len)
          refine ⟨l ++ [a'], by simp [hl], fun i x hx => ?_⟩
          rcases Nat.lt_or_ge i l.length with h | h
          · rw [List.getElem?_append_left h] at hx
            exact hp i x hx
          · rw [List.getElem?_append_right h] at hx
            have hi0 : i - l.length = 0 := by
              rcases Nat.eq_zero_or_pos (i - l.length) with h0 | h0
              · exact h0
              · rw [List.getElem?_eq_none (by simp; omega)] at hx; cases hx
            rw [hi0] at hx
            simp at hx
            subst hx
            obtain rfl : i = len := by omega
            exact ⟨c, h1, h2, h3⟩
      obtain ⟨l, hll, hp⟩ := hl'
      subst hll
      refine ⟨l, ⟨some a, cap, rfl, hl, rfl, by simp only [maxLen] at hm; omega, fun _ => ⟨a, rfl, fun j p hj => ?_⟩⟩, ?_, ?_, ?_⟩
      · obtain ⟨c, h1, h2, _⟩ := hp j p hj
        obtain ⟨_, hcl, hcell⟩ := World.cells?_some h1
        refine ⟨c, by rw [hcl, he.1], h2, fun i u hu' => ?_⟩
        have hi2 : i < P.cellsOf e := by
          rw [← hcl]
          exact (List.getElem?_eq_some_iff.1 hu').1
        rw [← he.1, ← Go.Deep.add_add, hcell i hi2, hu']
      · simp only [maxLen] at hm; omega
      · rw [← hB]
        refine Nat.le_trans (Nat.mul_le_mul_right _ (show l.length ≤ l.length + (m - l.length) by omega)) ?_
        exact h1
      · intro x hx
        obtain ⟨i, hi'⟩ := List.getElem?_of_mem hx
        obtain ⟨_, _, _, h3⟩ := hp i x hi'
        exact h3⟩

/-- The fields of a struct, from the cell off on: each one's cells behind the other's. -/
def OpensF (P : Program) (fs : List Field) (off : Nat) {α : Type} (d : Kd α) (wf : α → Prop) : Prop :=
 (fs.map fun f => P.cellsOf f.type).sum = d.sz ∧ ∀ (H : Type) (enc : TypeId × Value → H) (w : World) (base : Nat) (spare : Nat → Bool) (held : Bool) (fuel : Nat) (cs : List Value) (xs : List (DataW H × List MemPlace)),
  cs.length = off + d.sz → xs.length = fs.length → (∀ (i : Nat) (f : Field), fs[i]? = some f → DataW.trod enc P w base spare held fuel f.type ((cs.drop f.offset).take (P.cellsOf f.type)) = xs[i]?) →
  (∀ n ∈ DataW.weightsEach P (fs.map (·.type)) (xs.map (·.1)), n ≤ reachBytes) → ∃ a : α, d.K w a (cs.drop off) ∧ wf a

theorem OpensF.one {P : Program} {f : Field} {off : Nat} {α : Type} {d : Kd α} {wf : α → Prop} (ho : f.offset = off) (h : Opens P f.type d wf) : OpensF P [f] off d wf := by
 refine ⟨by simp [h.1], fun H enc w base spare held fuel cs xs hl hx hf hz => ?_⟩
 match xs, hx with
 | [x], _ =>
  have h0 := hf 0 f rfl
  rw [ho, h.1, List.take_of_length_le (by rw [List.length_drop]; omega)] at h0
  exact h.2 H enc w base spare held fuel _ x h0 (fun n hn => hz n (by simp only [List.map_cons, DataW.weightsEach, List.mem_append]; exact .inl hn))

theorem OpensF.cons {P : Program} {f : Field} {fs : List Field} {off : Nat} {α β : Type} {d : Kd α} {d' : Kd β} {wf : α → Prop} {wf' : β → Prop} (ho : f.offset = off) (h : Opens P f.type d wf) (hs : OpensF P fs (off + d.sz) d' wf') :
  OpensF P (f :: fs) off (Kd.pair d d') (fun x => wf x.1 ∧ wf' x.2) := by
 refine ⟨by simp [h.1, hs.1, Kd.pair], fun H enc w base spare held fuel cs xs hl hx hf hz => ?_⟩
 match xs, hx with
 | x :: xs, hx =>
  have hsz : (Kd.pair d d').sz = d.sz + d'.sz := rfl
  have h0 := hf 0 f rfl
  rw [ho, h.1] at h0
  obtain ⟨a, hk, hw⟩ := h.2 H enc w base spare held fuel _ x h0 (fun n hn => hz n (by simp only [List.map_cons, DataW.weightsEach, List.mem_append]; exact .inl hn))
  obtain ⟨b, hk', hw'⟩ := hs.2 H enc w base spare held fuel cs xs (by omega) (by simpa using hx) (fun i g hg => hf (i + 1) g hg) (fun n hn => hz n (by simp only [List.map_cons, DataW.weightsEach, List.mem_append]; exact .inr hn))
  exact ⟨(a, b), ⟨(cs.drop off).take d.sz, cs.drop (off + d.sz), by rw [← List.drop_drop, List.take_append_drop], hk, hk'⟩, hw, hw'⟩

theorem Opens.struct {P : Program} {t : TypeId} {fs : Array Field} {α β : Type} {d : Kd α} {wf : α → Prop} (f : β → α) (g : α → β) (hfg : ∀ a, f (g a) = a) (hc : P.cellsOf t = d.sz) (hu : P.underlying t = some (.struct fs)) (h : OpensF P fs.toList 0 d wf) :
  Opens P t (Kd.iso d f) (fun x => wf (f x)) := by
 refine ⟨hc, fun H enc w base spare held fuel cs x hx hz => ?_⟩
 obtain ⟨xs, n, rfl, rfl, hl, hlen, hf⟩ := DataW.trod_struct hu hx
 obtain ⟨a, hk, hw⟩ := h.2 H enc w base spare held n cs xs (by omega) (by simpa using hlen) (fun i fl hfl => hf i fl (by simpa using hfl)) (fun q hq => hz q (by simp only [DataW.weights, hu]; exact hq))
 refine ⟨g a, ?_, by show wf (f (g a)); rw [hfg]; exact hw⟩
 show d.K w (f (g a)) cs
 rw [hfg]
 simpa using hk

/-- An argument: what its cells are, and that it meets wf. -/
theorem Opens.arg {P : Program} {t : TypeId} {α : Type} {d : Kd α} {wf : α → Prop} (ho : Opens P t d wf) {H : Type} {enc : TypeId × Value → H} {ts : List TypeId} {ds : List (DataW H)} {w : World} {base : Nat} {spare : Nat → Bool} {held : Bool} {v : Value} {x : DataW H} {ps : List MemPlace} {j : Nat}
  (hsz : (DataW.weightsEach P ts ds).all (· ≤ reachBytes) = true) (ht : ts[j]? = some t) (hd : ds[j]? = some x) (h : DataW.Trod enc P w base spare held t v x ps) : ∃ a : α, d.K w a v.cells.toList ∧ wf a := by
 obtain ⟨fuel, hf⟩ := h
 refine ho.2 H enc w base spare held fuel _ _ hf (fun n hn => ?_)
 have := List.all_eq_true.1 hsz _ (DataW.weights_mem_each ht hd n hn)
 simpa using this

theorem agg_of {P : Program} {w : World} {r : Reach} {b0 : Nat} {t : TypeId} {fs : Array Field} {v : Value} {l : List Value} (hs : P.underlying t = some (.struct fs)) (hv : Value.okWide P w r b0 t v) (h : v.cells.toList = l) : v = .agg l.toArray := by
 obtain ⟨cs, rfl, _⟩ := okWide_struct hs hv
 simp only [Value.cells] at h
 rw [← h, Array.toArray_toList]

end Go.Proofs.YtiaohbbafaaibabGreatDoor.Opn

/- OWN TEXT, written by rows.py (for seat D), turned to names: what an argument of each parameter type of this seat's laws reads as. -/
namespace Go.Proofs.YtiaohbbafaaibabGreatDoor.P
open Go.RowKit Go.Proofs.YtiaohbbafaaibabGreatDoorW.PrintWords Go.Proofs.YtiaohbbafaaibabGreatDoorW.PrintLast Go.Proofs.YtiaohbbafaaibabGreatDoorW.PrintMore Go.Proofs.YtiaohbbafaaibabGreatDoor.Opn
set_option linter.unusedVariables false
set_option linter.unusedSimpArgs false
theorem opn9 : Opens Tryz.prog 9 Kd.string (fun s => s.size ≤ 140737488351232) := Opens.string (by kernel_rfl) Tryz.underlying9
theorem opn78 : Opens Tryz.prog 78 (Kd.int .u32) (fun n => (Lit.int .u32 n).wf = true) := Opens.int (by kernel_rfl) Tryz.underlying78
theorem opn22 : Opens Tryz.prog 22 (Kd.slice 78 (Kd.int .u32)) (fun l => l.length ≤ 9223372036854775807 ∧ l.length * 4 ≤ 140737488351232 ∧ ∀ y ∈ l, (Lit.int .u32 y).wf = true) := Opens.slice (by kernel_rfl) Tryz.underlying22 (by kernel_rfl) opn78
theorem opn3 : Opens Tryz.prog 3 (Kd.int .i64) (fun n => (Lit.int .i64 n).wf = true) := Opens.int (by kernel_rfl) Tryz.underlying3
theorem opn2 : Opens Tryz.prog 2 (Kd.int .i64) (fun n => (Lit.int .i64 n).wf = true) := Opens.int (by kernel_rfl) Tryz.underlying2
theorem opn23 : Opens Tryz.prog 23 (Kd.slice 2 (Kd.int .i64)) (fun l => l.length ≤ 9223372036854775807 ∧ l.length * 8 ≤ 140737488351232 ∧ ∀ y ∈ l, (Lit.int .i64 y).wf = true) := Opens.slice (by kernel_rfl) Tryz.underlying23 (by kernel_rfl) opn2
theorem opn63 : Opens Tryz.prog 63 (Kd.int .i8) (fun n => (Lit.int .i8 n).wf = true) := Opens.int (by kernel_rfl) Tryz.underlying63
def wf65 (x : S65) : Prop := (x.f0.size ≤ 140737488351232) ∧ ((Lit.int .i8 x.f1).wf = true) ∧ ((Lit.int .i64 x.f2).wf = true)
set_option maxRecDepth 100000 in
theorem opn65 : Opens Tryz.prog 65 k65 wf65 := by
 refine Opens.struct (d := (Kd.pair Kd.string (Kd.pair (Kd.int .i8) (Kd.int .i64)))) (wf := (fun p : (ByteArray) × (Int) × (Int) => (p.1.size ≤ 140737488351232) ∧ ((Lit.int .i8 p.2.1).wf = true) ∧ ((Lit.int .i64 p.2.2).wf = true))) (fun x : S65 => (x.f0, x.f1, x.f2)) (fun p => ⟨p.1, p.2.1, p.2.2⟩) (fun _ => rfl) (by kernel_rfl) Tryz.underlying65 ?_
 refine OpensF.cons (d := Kd.string) (d' := (Kd.pair (Kd.int .i8) (Kd.int .i64))) (wf := (fun p : ByteArray => p.size ≤ 140737488351232)) (wf' := (fun p : (Int) × (Int) => ((Lit.int .i8 p.1).wf = true) ∧ ((Lit.int .i64 p.2).wf = true))) rfl opn9 ?_
 refine OpensF.cons (d := (Kd.int .i8)) (d' := (Kd.int .i64)) (wf := (fun p : Int => (Lit.int .i8 p).wf = true)) (wf' := (fun p : (Int) => ((Lit.int .i64 p).wf = true))) rfl opn63 ?_
 exact OpensF.one rfl opn3
theorem opn24 : Opens Tryz.prog 24 (Kd.slice 65 k65) (fun l => l.length ≤ 9223372036854775807 ∧ l.length * 32 ≤ 140737488351232 ∧ ∀ y ∈ l, wf65 y) := Opens.slice (by kernel_rfl) Tryz.underlying24 (by kernel_rfl) opn65
def wf82 (x : S82) : Prop := ((Lit.int .i64 x.f0).wf = true) ∧ ((Lit.int .i64 x.f1).wf = true)
set_option maxRecDepth 100000 in
theorem opn82 : Opens Tryz.prog 82 k82 wf82 := by
 refine Opens.struct (d := (Kd.pair (Kd.int .i64) (Kd.int .i64))) (wf := (fun p : (Int) × (Int) => ((Lit.int .i64 p.1).wf = true) ∧ ((Lit.int .i64 p.2).wf = true))) (fun x : S82 => (x.f0, x.f1)) (fun p => ⟨p.1, p.2⟩) (fun _ => rfl) (by kernel_rfl) Tryz.underlying82 ?_
 refine OpensF.cons (d := (Kd.int .i64)) (d' := (Kd.int .i64)) (wf := (fun p : Int => (Lit.int .i64 p).wf = true)) (wf' := (fun p : (Int) => ((Lit.int .i64 p).wf = true))) rfl opn3 ?_
 exact OpensF.one rfl opn3
theorem opn25 : Opens Tryz.prog 25 (Kd.slice 82 k82) (fun l => l.length ≤ 9223372036854775807 ∧ l.length * 16 ≤ 140737488351232 ∧ ∀ y ∈ l, wf82 y) := Opens.slice (by kernel_rfl) Tryz.underlying25 (by kernel_rfl) opn82
def wf27 (x : S27) : Prop := (x.f0.size ≤ 140737488351232) ∧ (x.f1.length ≤ 9223372036854775807 ∧ x.f1.length * 4 ≤ 140737488351232 ∧ ∀ y ∈ x.f1, (Lit.int .u32 y).wf = true) ∧ ((Lit.int .i64 x.f2).wf = true) ∧ (x.f3.length ≤ 9223372036854775807 ∧ x.f3.length * 8 ≤ 140737488351232 ∧ ∀ y ∈ x.f3, (Lit.int .i64 y).wf = true) ∧ (x.f4.length ≤ 9223372036854775807 ∧ x.f4.length * 32 ≤ 140737488351232 ∧ ∀ y ∈ x.f4, wf65 y) ∧ (x.f5.length ≤ 9223372036854775807 ∧ x.f5.length * 16 ≤ 140737488351232 ∧ ∀ y ∈ x.f5, wf82 y)
set_option maxRecDepth 100000 in
theorem opn27 : Opens Tryz.prog 27 k27 wf27 := by
 refine Opens.struct (d := (Kd.pair Kd.string (Kd.pair (Kd.slice 78 (Kd.int .u32)) (Kd.pair (Kd.int .i64) (Kd.pair (Kd.slice 2 (Kd.int .i64)) (Kd.pair (Kd.slice 65 k65) (Kd.slice 82 k82))))))) (wf := (fun p : (ByteArray) × (List Int) × (Int) × (List Int) × (List (S65)) × (List (S82)) => (p.1.size ≤ 140737488351232) ∧ (p.2.1.length ≤ 9223372036854775807 ∧ p.2.1.length * 4 ≤ 140737488351232 ∧ ∀ y ∈ p.2.1, (Lit.int .u32 y).wf = true) ∧ ((Lit.int .i64 p.2.2.1).wf = true) ∧ (p.2.2.2.1.length ≤ 9223372036854775807 ∧ p.2.2.2.1.length * 8 ≤ 140737488351232 ∧ ∀ y ∈ p.2.2.2.1, (Lit.int .i64 y).wf = true) ∧ (p.2.2.2.2.1.length ≤ 9223372036854775807 ∧ p.2.2.2.2.1.length * 32 ≤ 140737488351232 ∧ ∀ y ∈ p.2.2.2.2.1, wf65 y) ∧ (p.2.2.2.2.2.length ≤ 9223372036854775807 ∧ p.2.2.2.2.2.length * 16 ≤ 140737488351232 ∧ ∀ y ∈ p.2.2.2.2.2, wf82 y))) (fun x : S27 => (x.f0, x.f1, x.f2, x.f3, x.f4, x.f5)) (fun p => ⟨p.1, p.2.1, p.2.2.1, p.2.2.2.1, p.2.2.2.2.1, p.2.2.2.2.2⟩) (fun _ => rfl) (by kernel_rfl) Tryz.underlying27 ?_
 refine OpensF.cons (d := Kd.string) (d' := (Kd.pair (Kd.slice 78 (Kd.int .u32)) (Kd.pair (Kd.int .i64) (Kd.pair (Kd.slice 2 (Kd.int .i64)) (Kd.pair (Kd.slice 65 k65) (Kd.slice 82 k82)))))) (wf := (fun p : ByteArray => p.size ≤ 140737488351232)) (wf' := (fun p : (List Int) × (Int) × (List Int) × (List (S65)) × (List (S82)) => (p.1.length ≤ 9223372036854775807 ∧ p.1.length * 4 ≤ 140737488351232 ∧ ∀ y ∈ p.1, (Lit.int .u32 y).wf = true) ∧ ((Lit.int .i64 p.2.1).wf = true) ∧ (p.2.2.1.length ≤ 9223372036854775807 ∧ p.2.2.1.length * 8 ≤ 140737488351232 ∧ ∀ y ∈ p.2.2.1, (Lit.int .i64 y).wf = true) ∧ (p.2.2.2.1.length ≤ 9223372036854775807 ∧ p.2.2.2.1.length * 32 ≤ 140737488351232 ∧ ∀ y ∈ p.2.2.2.1, wf65 y) ∧ (p.2.2.2.2.length ≤ 9223372036854775807 ∧ p.2.2.2.2.length * 16 ≤ 140737488351232 ∧ ∀ y ∈ p.2.2.2.2, wf82 y))) rfl opn9 ?_
 refine OpensF.cons (d := (Kd.slice 78 (Kd.int .u32))) (d' := (Kd.pair (Kd.int .i64) (Kd.pair (Kd.slice 2 (Kd.int .i64)) (Kd.pair (Kd.slice 65 k65) (Kd.slice 82 k82))))) (wf := (fun p : List Int => p.length ≤ 9223372036854775807 ∧ p.length * 4 ≤ 140737488351232 ∧ ∀ y ∈ p, (Lit.int .u32 y).wf = true)) (wf' := (fun p : (Int) × (List Int) × (List (S65)) × (List (S82)) => ((Lit.int .i64 p.1).wf = true) ∧ (p.2.1.length ≤ 9223372036854775807 ∧ p.2.1.length * 8 ≤ 140737488351232 ∧ ∀ y ∈ p.2.1, (Lit.int .i64 y).wf = true) ∧ (p.2.2.1.length ≤ 9223372036854775807 ∧ p.2.2.1.length * 32 ≤ 140737488351232 ∧ ∀ y ∈ p.2.2.1, wf65 y) ∧ (p.2.2.2.length ≤ 9223372036854775807 ∧ p.2.2.2.length * 16 ≤ 140737488351232 ∧ ∀ y ∈ p.2.2.2, wf82 y))) rfl opn22 ?_
 refine OpensF.cons (d := (Kd.int .i64)) (d' := (Kd.pair (Kd.slice 2 (Kd.int .i64)) (Kd.pair (Kd.slice 65 k65) (Kd.slice 82 k82)))) (wf := (fun p : Int => (Lit.int .i64 p).wf = true)) (wf' := (fun p : (List Int) × (List (S65)) × (List (S82)) => (p.1.length ≤ 9223372036854775807 ∧ p.1.length * 8 ≤ 140737488351232 ∧ ∀ y ∈ p.1, (Lit.int .i64 y).wf = true) ∧ (p.2.1.length ≤ 9223372036854775807 ∧ p.2.1.length * 32 ≤ 140737488351232 ∧ ∀ y ∈ p.2.1, wf65 y) ∧ (p.2.2.length ≤ 9223372036854775807 ∧ p.2.2.length * 16 ≤ 140737488351232 ∧ ∀ y ∈ p.2.2, wf82 y))) rfl opn3 ?_
 refine OpensF.cons (d := (Kd.slice 2 (Kd.int .i64))) (d' := (Kd.pair (Kd.slice 65 k65) (Kd.slice 82 k82))) (wf := (fun p : List Int => p.length ≤ 9223372036854775807 ∧ p.length * 8 ≤ 140737488351232 ∧ ∀ y ∈ p, (Lit.int .i64 y).wf = true)) (wf' := (fun p : (List (S65)) × (List (S82)) => (p.1.length ≤ 9223372036854775807 ∧ p.1.length * 32 ≤ 140737488351232 ∧ ∀ y ∈ p.1, wf65 y) ∧ (p.2.length ≤ 9223372036854775807 ∧ p.2.length * 16 ≤ 140737488351232 ∧ ∀ y ∈ p.2, wf82 y))) rfl opn23 ?_
 refine OpensF.cons (d := (Kd.slice 65 k65)) (d' := (Kd.slice 82 k82)) (wf := (fun p : List (S65) => p.length ≤ 9223372036854775807 ∧ p.length * 32 ≤ 140737488351232 ∧ ∀ y ∈ p, wf65 y)) (wf' := (fun p : (List (S82)) => (p.length ≤ 9223372036854775807 ∧ p.length * 16 ≤ 140737488351232 ∧ ∀ y ∈ p, wf82 y))) rfl opn24 ?_
 exact OpensF.one rfl opn25
end Go.Proofs.YtiaohbbafaaibabGreatDoor.P
