/- OWN TEXT and printed parts of this claim, laid together: LnkP. -/
import Derived.Test.YtiaohbbafaaibabDoorZlM4
import Derived.Test.YtiaohbbafaaibabDoorZlM6
/- OWN TEXT: what linking keeps, over plain lists. -/
namespace Go.Proofs.YtiaohbbafaaibabDoor.P
open Go.RowKit Go.Maps Go.Proofs.YtiaohbbafaaibabDoorW.PrintWords Go.Proofs.YtiaohbbafaaibabDoorW.PrintLast Go.Proofs.YtiaohbbafaaibabDoorW.PrintMore Go.Proofs.YtiaohbbafaaibabDoor.Arr Go.Proofs.YtiaohbbafaaibabDoor.MapB Go.Proofs.YtiaohbbafaaibabDoor.SymM
set_option linter.unusedVariables false
set_option linter.unusedSimpArgs false
theorem aim_enc {w p : Int} (h : (tgtS w).2 = true) (h0 : 0 ≤ p) (h1 : p < 16384) : aimS w p = encS (decS w).1 (decS w).2.1 (decS w).2.2.1 (decS w).2.2.2.1 p := by
 unfold aimS
 rw [if_pos h, if_neg (by omega), if_neg (by omega)]
theorem tgt_bit {w : Int} (h : (tgtS w).2 = true) : bitF (hasF (decS w).1) 16 = true := by
 unfold tgtS at h
 split at h
 ·
  assumption
 ·
  cases h
theorem aim_ok {w p : Int} (h : (tgtS w).2 = true) (h0 : 0 ≤ p) (h1 : p < 16384) : (aimS w p).2 = 0 := by
 rw [aim_enc h h0 h1]
 have hb := tgt_bit h
 rcases decS_cases w with ⟨h2, _⟩ | ⟨h2, h3⟩
 ·
  have e := tup_out (op := (decS w).1) (.inl (by omega))
  have : bitF (hasF (decS w).1) 16 = false := congrArg (fun t : Bool × Bool × Bool × Bool × Bool => t.2.2.2.2) e
  rw [this] at hb
  cases hb
 ·
  obtain ⟨⟨g0, g1⟩, hbad, _⟩ := encS_ok h3
  rw [hasF_in g0 g1] at hb
  have h16 : ¬ Go.bits .and .i64 (hasT (decS w).1) 16 = 0 := by simpa [bitF] using hb
  unfold encS
  rw [if_neg (by omega), if_neg (by omega), if_neg]
  intro hx
  apply hbad
  rcases hx with q | q | q | q | q
  ·
   exact .inl q
  ·
   exact .inr (.inl q)
  ·
   exact .inr (.inr (.inl q))
  ·
   unfold lowT at q
   rw [if_neg h16] at q
   omega
  ·
   unfold highT at q
   rw [if_neg h16] at q
   omega
theorem aim_dec {w p : Int} (h : (tgtS w).2 = true) (h0 : 0 ≤ p) (h1 : p < 16384) : decS (aimS w p).1 = ((decS w).1, (decS w).2.1, (decS w).2.2.1, (decS w).2.2.2.1, p) :=
 round_trip (by rw [← aim_enc h h0 h1]; exact Prod.ext rfl (aim_ok h h0 h1))
theorem aim_tgt {w p : Int} (h : (tgtS w).2 = true) (h0 : 0 ≤ p) (h1 : p < 16384) : tgtS (aimS w p).1 = (p, true) := by
 have e : tgtS (aimS w p).1 = if bitF (hasF (decS (aimS w p).1).1) 16 = true then ((decS (aimS w p).1).2.2.2.2, true) else (0, false) := rfl
 rw [e, aim_dec h h0 h1]
 exact if_pos (tgt_bit h)
theorem aim_again {w p : Int} (q : Int) (h : (tgtS w).2 = true) (h0 : 0 ≤ p) (h1 : p < 16384) : aimS (aimS w p).1 q = aimS w q := by
 have e : aimS (aimS w p).1 q = if (tgtS (aimS w p).1).2 = true then (if q < 0 then (0, 11) else if q ≥ 16384 then (0, 11) else encS (decS (aimS w p).1).1 (decS (aimS w p).1).2.1 (decS (aimS w p).1).2.2.1 (decS (aimS w p).1).2.2.2.1 q) else (0, 10) := rfl
 have f : aimS w q = if (tgtS w).2 = true then (if q < 0 then (0, 11) else if q ≥ 16384 then (0, 11) else encS (decS w).1 (decS w).2.1 (decS w).2.2.1 (decS w).2.2.2.1 q) else (0, 10) := rfl
 rw [e, f, aim_tgt h h0 h1, aim_dec h h0 h1, if_pos rfl, if_pos h]
theorem aim_range (w p : Int) : 0 ≤ (aimS w p).1 ∧ (aimS w p).1 < 4294967296 := by
 unfold aimS
 split
 ·
  split
  ·
   decide
  ·
   split
   ·
    decide
   ·
    exact encS_fst _ _ _ _ _
 ·
  decide
theorem tgt_zero : tgtS 0 = (0, false) := by kernel_rfl
theorem baseL_succ (l : List ObjT) (i : Nat) : baseL l (i + 1) = baseL l i + (ob l i).f1.length + 1 := rfl
theorem baseL_mono (l : List ObjT) (i : Nat) : ∀ e, baseL l i ≤ baseL l (i + e)
  | 0 => Nat.le_refl _
  | e + 1 => by
    have := baseL_mono l i e
    rw [show i + (e + 1) = (i + e) + 1 by omega, baseL_succ]
    omega
theorem baseL_lt {l : List ObjT} {i j : Nat} (h : i < j) : baseL l i + (ob l i).f1.length < baseL l j := by
 have := baseL_mono l (i + 1) (j - (i + 1))
 rw [show i + 1 + (j - (i + 1)) = j by omega, baseL_succ] at this
 omega
theorem place_of (l : List ObjT) : ∀ n p, p < baseL l n → ∃ i k, i < n ∧ k ≤ (ob l i).f1.length ∧ p = baseL l i + k
  | 0, p, h => absurd h (Nat.not_lt_zero _)
  | n + 1, p, h => by
    by_cases c : p < baseL l n
    · obtain ⟨i, k, hi, hk, e⟩ := place_of l n p c
      exact ⟨i, k, by omega, hk, e⟩
    · rw [baseL_succ] at h
      exact ⟨n, p - baseL l n, by omega, by omega, by omega⟩
theorem rd_get_ {l : List Int} {i : Nat} (h : i < l.length) : l[i]? = some (rd l (i : Int)) := by
 unfold rd
 rw [Int.toNat_natCast, List.getD_eq_getElem?_getD, List.getElem?_eq_getElem h]
 rfl
theorem rd_of {l : List Int} {i : Nat} {x : Int} (h : l[i]? = some x) : rd l (i : Int) = x := by
 unfold rd
 rw [Int.toNat_natCast, List.getD_eq_getElem?_getD, h]
 rfl
theorem own_get {l : List ObjT} {i k : Nat} (h : k < (ob l i).f1.length) : (ownL (baseL l i : Int) (ob l i).f1)[k]? = some (tgtW (baseL l i : Int) (rd (ob l i).f1 (k : Int))) := by
 unfold ownL
 rw [List.getElem?_append_left (by rw [List.length_map]; exact h), List.getElem?_map, rd_get_ h]
 rfl
theorem own_trap (l : List ObjT) (i : Nat) : (ownL (baseL l i : Int) (ob l i).f1)[(ob l i).f1.length]? = some 0 := by
 unfold ownL
 rw [List.getElem?_append_right (by rw [List.length_map]; exact Nat.le_refl _), List.length_map, Nat.sub_self]
 rfl
theorem text_get (l : List ObjT) {i k : Nat} (hk : k ≤ (ob l i).f1.length) : ∀ n, i < n → (textL l n)[baseL l i + k]? = (ownL (baseL l i : Int) (ob l i).f1)[k]?
  | 0, h => absurd h (Nat.not_lt_zero _)
  | n + 1, h => by
    show (textL l n ++ ownL (baseL l n : Int) (ob l n).f1)[baseL l i + k]? = _
    by_cases c : i < n
    · rw [List.getElem?_append_left (by rw [textL_len]; have := baseL_lt (l := l) c; omega)]
      exact text_get l hk n c
    · obtain rfl : i = n := by omega
      rw [List.getElem?_append_right (by rw [textL_len]; omega), textL_len, show baseL l i + k - baseL l i = k by omega]
theorem tgtW_range {b x : Int} (h : 0 ≤ x ∧ x < 4294967296) : 0 ≤ tgtW b x ∧ tgtW b x < 4294967296 := by
 unfold tgtW
 split
 ·
  exact aim_range _ _
 ·
  exact h
theorem text_words {l : List ObjT} {d : List (List DefT)} (h : LOK l d) : ∀ n, n ≤ l.length → ∀ y ∈ textL l n, 0 ≤ y ∧ y < 4294967296
  | 0, _, y, hy => by cases hy
  | n + 1, hn, y, hy => by
    rcases List.mem_append.1 (show y ∈ textL l n ++ ownL (baseL l n : Int) (ob l n).f1 from hy) with q | q
    · exact text_words h n (by omega) y q
    · rcases List.mem_append.1 (show y ∈ (ob l n).f1.map (tgtW (baseL l n : Int)) ++ [0] from q) with q | q
      · obtain ⟨x, hx, rfl⟩ := List.mem_map.1 q
        exact tgtW_range (h.wor n (by omega) x hx)
      · obtain rfl := List.mem_singleton.1 q
        decide
theorem mid_words {l : List ObjT} {d : List (List DefT)} (h : LOK l d) {k : Nat} (hk : k < l.length) (j : Nat) : ∀ y ∈ midL l k j, 0 ≤ y ∧ y < 4294967296 := fun y hy => by
 unfold midL at hy
 rcases List.mem_append.1 hy with q | q
 ·
  exact text_words h k (by omega) y q
 ·
  rcases List.mem_append.1 q with q | q
  ·
   rcases List.mem_append.1 q with q | q
   ·
    obtain ⟨x, hx, rfl⟩ := List.mem_map.1 q
    exact tgtW_range (h.wor k hk x (List.mem_of_mem_take hx))
   ·
    exact h.wor k hk y (List.mem_of_mem_drop q)
  ·
   obtain rfl := List.mem_singleton.1 q
   decide
theorem mid_aim (l : List ObjT) (k j : Nat) {x : Int} (h : j < (ob l k).f1.length) (hx : rd (ob l k).f1 (j : Int) = x) (ht : (tgtS x).2 = true) : midL l k (j + 1) = aimT (midL l k j) ((baseL l k + j : Nat) : Int) ((baseL l k : Int) + (tgtS x).1) := by
 have hg : (ob l k).f1[j] = x := by
  have := rd_get_ h
  rw [hx] at this
  exact (List.getElem?_eq_some_iff.1 this).2
 have hr : rd (midL l k j) ((baseL l k + j : Nat) : Int) = x := rd_of (by rw [midL_at l k j h, hg])
 rw [midL_step l k j h, hg]
 unfold aimT tgtW
 rw [hr, if_pos ht, Int.toNat_natCast]
def destW (l : List ObjT) (d : List (List DefT)) (i k : Nat) : Int :=
 if atN (k : Int) (ob l i).f5 0 < 0 then (baseL l i : Int) + (tgtS (rd (ob l i).f1 (k : Int))).1
 else (baseL l (dx d i (rlN (ob l i).f5 (atN (k : Int) (ob l i).f5 0).toNat).f1.toNat).f0.toNat : Int) + (dx d i (rlN (ob l i).f5 (atN (k : Int) (ob l i).f5 0).toNat).f1.toNat).f1
def finW (l : List ObjT) (d : List (List DefT)) (i k : Nat) : Int := if (tgtS (rd (ob l i).f1 (k : Int))).2 = true then (aimS (rd (ob l i).f1 (k : Int)) (destW l d i k)).1 else rd (ob l i).f1 (k : Int)
theorem atN_none {p : Int} : ∀ (r : List Rel) (b : Nat), atN p r b < 0 → ∀ j, j < r.length → (rl r j).f0 ≠ p
  | [], _, _, j, hj => absurd hj (Nat.not_lt_zero _)
  | s :: r, b, h, j, hj => by
    unfold atN at h
    split at h
    · omega
    · rename_i hs
      cases j with
      | zero => rw [rl_at hj]; exact hs
      | succ j =>
        have := atN_none r (b + 1) h j (by simpa using hj)
        rw [rl_at (by simpa using hj)] at this
        rw [rl_at hj]
        simpa using this
theorem atN_some {p : Int} : ∀ (r : List Rel) (b : Nat), 0 ≤ atN p r b → ∃ j, j < r.length ∧ atN p r b = ((b + j : Nat) : Int) ∧ (rl r j).f0 = p
  | [], b, h => by
    unfold atN at h
    exact absurd h (by decide)
  | s :: r, b, h => by
    unfold atN at h ⊢
    split
    · rename_i hs
      exact ⟨0, by simp, rfl, by rw [rl_at (by simp)]; exact hs⟩
    · rename_i hs
      rw [if_neg hs] at h
      obtain ⟨j, hj, e, f⟩ := atN_some r (b + 1) h
      refine ⟨j + 1, by simpa using hj, by rw [e]; omega, ?_⟩
      rw [rl_at hj] at f
      rw [rl_at (by simpa using hj)]
      simpa using f
theorem relN_other (l : List ObjT) (d : List (List DefT)) (i : Nat) (t : List Int) (p : Nat) : ∀ j, (∀ q, q < j → p ≠ ((baseL l i : Int) + (rlN (ob l i).f5 q).f0).toNat) → (relN l d i t j)[p]? = t[p]?
  | 0, _ => rfl
  | j + 1, h => by
    show (List.set (relN l d i t j) _ _)[p]? = _
    rw [List.getElem?_set_ne (fun e => h j (Nat.lt_succ_self _) e.symm)]
    exact relN_other l d i t p j (fun q hq => h q (by omega))
theorem relN_this (l : List ObjT) (d : List (List DefT)) (i : Nat) (t : List Int) {r : Nat} {c : Int} {p : Nat} (hp : (((baseL l i : Int) + (rlN (ob l i).f5 r).f0)).toNat = p) (hc : t[p]? = some c) (h0 : 0 ≤ (baseL l i : Int) + (rlN (ob l i).f5 r).f0) : ∀ j, r < j → (∀ q, q < j → q ≠ r → p ≠ ((baseL l i : Int) + (rlN (ob l i).f5 q).f0).toNat) →
    (relN l d i t j)[p]? = some (aimS c ((baseL l (dx d i (rlN (ob l i).f5 r).f1.toNat).f0.toNat : Int) + (dx d i (rlN (ob l i).f5 r).f1.toNat).f1)).1
  | 0, h, _ => absurd h (Nat.not_lt_zero _)
  | j + 1, h, hq => by
    by_cases c1 : r = j
    · subst c1
      have hn : (relN l d i t r)[p]? = some c := by rw [relN_other l d i t p r (fun q h1 => hq q (by omega) (by omega))]; exact hc
      show (List.set (relN l d i t r) _ _)[p]? = _
      have hl : p < (relN l d i t r).length := (List.getElem?_eq_some_iff.1 hn).1
      rw [hp, List.getElem?_set_self hl]
      have hr : rd (relN l d i t r) ((baseL l i : Int) + (rlN (ob l i).f5 r).f0) = c := by
        rw [show (baseL l i : Int) + (rlN (ob l i).f5 r).f0 = ((p : Nat) : Int) by omega]
        exact rd_of hn
      rw [hr]
    · show (List.set (relN l d i t j) _ _)[p]? = _
      rw [List.getElem?_set_ne (fun e => hq j (Nat.lt_succ_self _) (fun z => c1 z.symm) e.symm)]
      exact relN_this l d i t hp hc h0 j (by omega) (fun q h1 => hq q (by omega))
theorem aimT_words {t : List Int} (h : ∀ y ∈ t, 0 ≤ y ∧ y < 4294967296) (p q : Int) : ∀ y ∈ aimT t p q, 0 ≤ y ∧ y < 4294967296 := fun y hy => by
 rcases List.mem_or_eq_of_mem_set hy with z | rfl
 ·
  exact h y z
 ·
  exact aim_range _ _
theorem relN_words {l : List ObjT} {d : List (List DefT)} {i : Nat} {t : List Int} (h : ∀ y ∈ t, 0 ≤ y ∧ y < 4294967296) : ∀ j, ∀ y ∈ relN l d i t j, 0 ≤ y ∧ y < 4294967296
 | 0 => h
 | j + 1 => aimT_words (relN_words h j) _ _
theorem relT_words {l : List ObjT} {d : List (List DefT)} (h : LOK l d) : ∀ i, ∀ y ∈ relT l d i, 0 ≤ y ∧ y < 4294967296
 | 0 => text_words h _ (Nat.le_refl _)
 | i + 1 => relN_words (relT_words h i) _
structure LinkOK (l : List ObjT) (d : List (List DefT)) : Prop where
  lok : LOK l d
  fine : Fine l
  small : Small l
  len : l.length ≤ 32
  dst : ∀ i, i < l.length → ∀ k, k < (ob l i).f4.length → ∃ o a, dx d i k = ⟨((o : Nat) : Int), a⟩ ∧ o < l.length ∧ 0 ≤ a ∧ a ≤ ((ob l o).f1.length : Int)
theorem find_dst {l : List ObjT} (hF : Fine l) {s : ByteArray} (h : (findR (gObj l l.length) s).2.2 = true) : ∃ o a, findR (gObj l l.length) s = (((o : Nat) : Int), a, true) ∧ o < l.length ∧ 0 ≤ a ∧ a ≤ ((ob l o).f1.length : Int) := by
 rw [findR_gObj] at h ⊢
 obtain ⟨p, q, hp, hq, e⟩ := findF_is h
 have hs := symE_ok ((hF.each p hp).osyms q hq)
 exact ⟨p, _, e, hp, hs.2.2.2.2.1, hs.2.2.2.2.2.1⟩
theorem linkOK_of {l : List ObjT} (hS : Small l) {d : List (List DefT)} {n m : Int} (h : resolveR l = some (d, 0, n, m)) : LinkOK l d := by
 obtain ⟨hl, hc, h0, hN, hd⟩ := ok_of h
 have hF := fine_of hS hc
 have hdst : ∀ i, i < l.length → ∀ k, k < (ob l i).f4.length → ∃ o a, dx d i k = ⟨((o : Nat) : Int), a⟩ ∧ o < l.length ∧ 0 ≤ a ∧ a ≤ ((ob l o).f1.length : Int) := by
  intro i hi k hk
  obtain ⟨x, hx, _⟩ := bound_row (hN i hi k hk)
  have he : dx d i k = x := by
   show (rd_L17 d (i : Int)).getD ((k : Int)).toNat _ = x
   rw [Int.toNat_natCast]
   show (d.getD ((i : Int)).toNat []).getD k _ = x
   rw [Int.toNat_natCast, hd, rowsL_get _ l i _ hi]
   exact rowL_get hx _ hk (hN i hi)
  unfold symX at hx
  split at hx
  ·
   have hs := symE_ok ((hF.each i hi).osyms k hk)
   exact ⟨i, _, he.trans (Option.some.inj hx).symm, hi, hs.2.2.2.2.1, hs.2.2.2.2.2.1⟩
  ·
   split at hx
   ·
    rename_i hf
    obtain ⟨o, a, e, ho, h1, h2⟩ := find_dst hF hf
    rw [e] at hx
    exact ⟨o, a, he.trans (Option.some.inj hx).symm, ho, h1, h2⟩
   ·
    cases hx
 have hrow : ∀ i, i < l.length → (rd_L17 d (i : Int)).length = (ob l i).f4.length := by
  intro i hi
  show (d.getD ((i : Int)).toNat []).length = _
  rw [Int.toNat_natCast, hd, rowsL_get _ l i _ hi]
  exact rowL_length _ (hN i hi)
 refine ⟨⟨by rw [hd, rowsL_length], fun i hi => ?_, fun i hi x hx => wordsO_at (hS.words i hi) hx, hrow, fun i hi j hj => ?_, fun i hi k hk => ?_⟩, hF, hS, hl, hdst⟩
 ·
  have := sizeS_ok (hF.each i hi).osize
  omega
 ·
  have h1 := relE_ok ((hF.each i hi).orels j hj)
  have h2 := rel_lo (hF.each i hi) hj
  exact ⟨h2, h1.2.1, h1.2.2.1, h1.2.2.2.1⟩
 ·
  obtain ⟨o, a, e, ho, h1, h2⟩ := hdst i hi k hk
  have := sizeS_ok (hF.each o ho).osize
  rw [e]
  exact ⟨by show (0 : Int) ≤ (o : Int); omega, by show ((o : Nat) : Int) < _; omega, h1, by show a ≤ _; omega⟩
section
variable {l : List ObjT} {d : List (List DefT)}
theorem code_in (h : LinkOK l d) {i k : Nat} (hi : i < l.length) (hk : k < (ob l i).f1.length) : 0 ≤ rd (ob l i).f1 (k : Int) ∧ rd (ob l i).f1 (k : Int) < 4294967296 := by
 have e := rd_get_ hk
 exact h.lok.wor i hi _ (List.mem_of_getElem? e)
theorem rel_uniq (h : LinkOK l d) {i r : Nat} (hi : i < l.length) (hr : r < (ob l i).f5.length) : ∀ q, q < (ob l i).f5.length → q ≠ r → ((baseL l i : Int) + (rlN (ob l i).f5 r).f0).toNat ≠ ((baseL l i : Int) + (rlN (ob l i).f5 q).f0).toNat := by
 intro q hq hne e
 have h1 := (h.lok.rel i hi r hr).1
 have h2 := (h.lok.rel i hi q hq).1
 rcases Nat.lt_or_ge q r with c | c
 ·
  have : (rlN (ob l i).f5 q).f0 < (rlN (ob l i).f5 r).f0 := lastR_rise (h.fine.each i hi).orels r hr q c
  omega
 ·
  have : (rlN (ob l i).f5 r).f0 < (rlN (ob l i).f5 q).f0 := lastR_rise (h.fine.each i hi).orels q hq r (by omega)
  omega
theorem big_not {i : Nat} (hb : bigL l = false) (hi : i < l.length) : baseL l i + (ob l i).f1.length < 16384 := by
 unfold bigL at hb
 rw [List.any_eq_false] at hb
 have := hb i (List.mem_range.2 hi)
 rw [bsL_eq (by omega), decide_eq_true_eq] at this
 omega
theorem dest_range (h : LinkOK l d) (hb : bigL l = false) {i k : Nat} (hi : i < l.length) (hk : k < (ob l i).f1.length) (ht : (tgtS (rd (ob l i).f1 (k : Int))).2 = true) : 0 ≤ destW l d i k ∧ destW l d i k < 16384 ∧ destW l d i k < (baseL l l.length : Int) := by
 unfold destW
 split
 ·
  have h1 := big_not hb hi
  have h2 := tgtS_range ht
  have h3 := (h.fine.each i hi).oscan k hk
  unfold plainE at h3
  rw [if_pos ht] at h3
  split at h3
  ·
   exact absurd h3 (by decide)
  ·
   have := baseL_lt (l := l) hi
   omega
 ·
  rename_i hn
  obtain ⟨r, hr, e, f⟩ := atN_some (p := (k : Int)) (ob l i).f5 0 (by omega)
  rw [e, Nat.zero_add, Int.toNat_natCast]
  have h1 := h.lok.rel i hi r hr
  obtain ⟨o, a, e2, ho, a0, a1⟩ := h.dst i hi (rlN (ob l i).f5 r).f1.toNat (by omega)
  rw [e2]
  have h2 := big_not hb ho
  have h3 := baseL_lt (l := l) ho
  simp only [Int.toNat_natCast]
  omega
theorem rel_get (h : LinkOK l d) (hb : bigL l = false) {i k : Nat} (hi : i < l.length) (hk : k < (ob l i).f1.length) : ∀ n, n ≤ l.length → (relT l d n)[baseL l i + k]? = some (if i < n then finW l d i k else tgtW (baseL l i : Int) (rd (ob l i).f1 (k : Int)))
  | 0, _ => by
    rw [if_neg (Nat.not_lt_zero _)]
    show (textL l l.length)[baseL l i + k]? = _
    rw [text_get l (Nat.le_of_lt hk) _ hi, own_get hk]
  | n + 1, hn => by
    have ih := rel_get h hb hi hk n (by omega)
    show (relN l d n (relT l d n) (ob l n).f5.length)[baseL l i + k]? = _
    by_cases e : i = n
    · subst e
      rw [if_neg (Nat.lt_irrefl _)] at ih
      rw [if_pos (Nat.lt_succ_self _)]
      by_cases ha : atN (k : Int) (ob l i).f5 0 < 0
      · rw [relN_other l d i _ _ _ (fun q hq z => atN_none _ 0 ha q hq (by
          have := (h.lok.rel i hi q hq).1
          have e2 : rlN (ob l i).f5 q = rl (ob l i).f5 q := rfl
          rw [e2] at z this
          omega)), ih]
        unfold finW tgtW destW
        rw [if_pos ha]
      · obtain ⟨r, hr, e, f⟩ := atN_some (p := (k : Int)) (ob l i).f5 0 (by omega)
        have e2 : rlN (ob l i).f5 r = rl (ob l i).f5 r := rfl
        have hp : ((baseL l i : Int) + (rlN (ob l i).f5 r).f0).toNat = baseL l i + k := by rw [e2, f]; omega
        rw [relN_this l d i _ (r := r) hp ih (by rw [e2, f]; omega) _ hr (fun q hq hne => by rw [← hp]; exact rel_uniq h hi hr q hq hne)]
        have ho := relE_ok ((h.fine.each i hi).orels r hr)
        rw [f] at ho
        have ht := ho.2.2.2.2.1
        unfold finW
        rw [if_pos ht]
        unfold destW
        rw [if_neg ha, e, Nat.zero_add, Int.toNat_natCast]
        unfold tgtW
        have := big_not hb hi
        rw [if_pos ht, ho.2.2.2.2.2, Int.add_zero, aim_again _ ht (by omega) (by omega)]
    · rw [relN_other l d n _ _ _ (fun q hq z => ?_), ih]
      · congr 1
        by_cases c : i < n
        · rw [if_pos c, if_pos (by omega)]
        · rw [if_neg c, if_neg (by omega)]
      · have h1 := h.lok.rel n (by omega) q hq
        rcases Nat.lt_or_ge i n with c | c
        · have := baseL_lt (l := l) c
          omega
        · have := baseL_lt (l := l) (show n < i by omega)
          omega
theorem rel_trap (h : LinkOK l d) {i : Nat} (hi : i < l.length) : ∀ n, n ≤ l.length → (relT l d n)[baseL l i + (ob l i).f1.length]? = some 0
  | 0, _ => by
    show (textL l l.length)[baseL l i + (ob l i).f1.length]? = _
    rw [text_get l (Nat.le_refl _) _ hi, own_trap]
  | n + 1, hn => by
    show (relN l d n (relT l d n) (ob l n).f5.length)[baseL l i + (ob l i).f1.length]? = _
    rw [relN_other l d n _ _ _ (fun q hq z => ?_), rel_trap h hi n (by omega)]
    have h1 := h.lok.rel n (by omega) q hq
    rcases Nat.lt_trichotomy i n with c | c | c
    · have := baseL_lt (l := l) c
      omega
    · subst c
      omega
    · have := baseL_lt (l := l) c
      omega
theorem fin_get (h : LinkOK l d) (hb : bigL l = false) {i k : Nat} (hi : i < l.length) (hk : k < (ob l i).f1.length) : rd (relT l d l.length) ((baseL l i + k : Nat) : Int) = finW l d i k :=
 rd_of ((rel_get h hb hi hk _ (Nat.le_refl _)).trans (by rw [if_pos hi]))
theorem fin_trap (h : LinkOK l d) {i : Nat} (hi : i < l.length) : rd (relT l d l.length) ((baseL l i + (ob l i).f1.length : Nat) : Int) = 0 := rd_of (rel_trap h hi _ (Nat.le_refl _))
theorem fin_same {i k : Nat} (ht : (tgtS (rd (ob l i).f1 (k : Int))).2 = false) : finW l d i k = rd (ob l i).f1 (k : Int) := by
 unfold finW
 rw [if_neg (by rw [ht]; decide)]
theorem fin_aimed (h : LinkOK l d) (hb : bigL l = false) {i k : Nat} (hi : i < l.length) (hk : k < (ob l i).f1.length) (ht : (tgtS (rd (ob l i).f1 (k : Int))).2 = true) : tgtS (finW l d i k) = (destW l d i k, true) ∧ aimS (finW l d i k) 0 = aimS (rd (ob l i).f1 (k : Int)) 0 := by
 have hd := dest_range h hb hi hk ht
 unfold finW
 rw [if_pos ht]
 exact ⟨aim_tgt ht hd.1 hd.2.1, aim_again 0 ht hd.1 hd.2.1⟩
theorem fin_range (h : LinkOK l d) (hb : bigL l = false) {i k : Nat} (hi : i < l.length) (hk : k < (ob l i).f1.length) : 0 ≤ finW l d i k ∧ finW l d i k < 4294967296 := by
 unfold finW
 split
 ·
  exact aim_range _ _
 ·
  exact code_in h hi hk
theorem all_words (h : LinkOK l d) (hb : bigL l = false) {p : Nat} (hp : p < baseL l l.length) : (0 ≤ rd (relT l d l.length) (p : Int) ∧ rd (relT l d l.length) (p : Int) < 4294967296) ∧ ((tgtS (rd (relT l d l.length) (p : Int))).2 = true → (tgtS (rd (relT l d l.length) (p : Int))).1 < (baseL l l.length : Int)) := by
 obtain ⟨i, k, hi, hk, rfl⟩ := place_of l l.length p hp
 by_cases c : k < (ob l i).f1.length
 ·
  rw [fin_get h hb hi c]
  by_cases ht : (tgtS (rd (ob l i).f1 (k : Int))).2 = true
  ·
   refine ⟨?_, fun _ => ?_⟩
   ·
    unfold finW
    rw [if_pos ht]
    exact aim_range _ _
   ·
    rw [(fin_aimed h hb hi c ht).1]
    exact (dest_range h hb hi c ht).2.2
  ·
   have ht : (tgtS (rd (ob l i).f1 (k : Int))).2 = false := by simpa using ht
   rw [fin_same ht]
   exact ⟨code_in h hi c, fun z => by rw [ht] at z; cases z⟩
 ·
  obtain rfl : k = (ob l i).f1.length := by omega
  rw [fin_trap h hi]
  exact ⟨by decide, fun z => by rw [tgt_zero] at z; cases z⟩
theorem last_trap (h : LinkOK l d) (hl : 0 < l.length) : rd (relT l d l.length) ((baseL l l.length - 1 : Nat) : Int) = 0 := by
 have := fin_trap h (i := l.length - 1) (by omega)
 have e : baseL l l.length = baseL l (l.length - 1) + (ob l (l.length - 1)).f1.length + 1 := by
  rw [← baseL_succ]
  congr 1
  omega
 rw [show baseL l l.length - 1 = baseL l (l.length - 1) + (ob l (l.length - 1)).f1.length by omega]
 exact this
end
end Go.Proofs.YtiaohbbafaaibabDoor.P
