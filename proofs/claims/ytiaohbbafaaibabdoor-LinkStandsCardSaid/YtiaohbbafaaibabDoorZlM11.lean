/- OWN TEXT and printed parts of this claim, laid together: WireN, WireR, WireS, WireE, P11, LnkQ, P9, LnkH, HAs. -/
import Derived.Test.YtiaohbbafaaibabDoorZlM9
import Derived.Test.YtiaohbbafaaibabDoorZlM10
import Derived.Test.YtiaohbbafaaibabDoorZlM6
import Derived.Test.YtiaohbbafaaibabDoorZlM5
import Derived.Test.YtiaohbbafaaibabDoorZlM0
import Derived.Test.YtiaohbbafaaibabDoorZlM1
import Derived.Test.YtiaohbbafaaibabDoorZlM7
import Derived.WalkKit
import Derived.LaidEql
import Derived.Stop.Asserts
import Derived.RowKitTokens
/- OWN TEXT: plain laws of wire's numbers: what is read is what was written. -/
namespace Go.Proofs.YtiaohbbafaaibabDoor.P
open Go.RowKit Go.Maps Go.Proofs.YtiaohbbafaaibabDoorW.PrintWords Go.Proofs.YtiaohbbafaaibabDoorW.PrintLast Go.Proofs.YtiaohbbafaaibabDoorW.PrintMore Go.Proofs.YtiaohbbafaaibabDoor.Arr Go.Proofs.YtiaohbbafaaibabDoor.MapB
set_option linter.unusedVariables false
theorem pow256_pos (n : Nat) : (0 : Int) < 256 ^ n := Int.pow_pos (by decide)
theorem beN_mod (n : Nat) : ∀ a b : Int, beN (a * 256 ^ n + b) n = beN b n := by
 induction n with
 | zero => intro a b; rfl
 | succ n ih =>
  intro a b
  have e : a * 256 ^ (n + 1) + b = (a * 256) * 256 ^ n + b := by rw [Int.pow_succ, Int.mul_comm (256 ^ n) 256, ← Int.mul_assoc]
  show ((a * 256 ^ (n + 1) + b) / 256 ^ n) % 256 :: beN (a * 256 ^ (n + 1) + b) n = (b / 256 ^ n) % 256 :: beN b n
  rw [e, ih (a * 256) b, Int.add_comm, Int.add_mul_ediv_right _ _ (Int.ne_of_gt (pow256_pos n))]
  congr 1
  omega
theorem beV_from (l : List Int) : ∀ a : Int, l.foldl (fun a c => a * 256 + c) a = a * 256 ^ l.length + beV l := by
 induction l with
 | nil => intro a; show a = a * 1 + 0; omega
 | cons c l ih =>
  intro a
  have h1 := ih (a * 256 + c)
  have h2 := ih (0 * 256 + c)
  show l.foldl (fun a c => a * 256 + c) (a * 256 + c) = a * 256 ^ (l.length + 1) + l.foldl (fun a c => a * 256 + c) (0 * 256 + c)
  rw [h1, h2, Int.pow_succ, Int.add_mul, Int.mul_assoc, Int.mul_comm 256 (256 ^ l.length), Int.zero_mul, Int.zero_add, Int.add_assoc]
theorem beV_cons (c : Int) (l : List Int) : beV (c :: l) = c * 256 ^ l.length + beV l := by
 exact (show beV (c :: l) = (0 * 256 + c) * 256 ^ l.length + beV l from beV_from l (0 * 256 + c)).trans (by rw [Int.zero_mul, Int.zero_add])
theorem be_beV (l : List Int) (h : ∀ x ∈ l, 0 ≤ x ∧ x < 256) : beN (beV l) l.length = l := by
 induction l with
 | nil => rfl
 | cons c l ih =>
  have hc := h c (List.mem_cons_self ..)
  have hl := fun x hx => h x (List.mem_cons_of_mem _ hx)
  have hr := beV_range l hl
  rw [beV_cons]
  show ((c * 256 ^ l.length + beV l) / 256 ^ l.length) % 256 :: beN (c * 256 ^ l.length + beV l) l.length = c :: l
  rw [beN_mod, ih hl, Int.add_comm, Int.add_mul_ediv_right _ _ (Int.ne_of_gt (pow256_pos l.length)), Int.ediv_eq_zero_of_lt hr.1 hr.2]
  congr 1
  omega
theorem numR_ok {l : List Int} {n : Nat} {s : RS} (hby : ∀ x ∈ l, 0 ≤ x ∧ x < 256) (h0 : 0 ≤ s.at_) (h : (numR l n s).2.er = none) :
  s.er = none ∧ (numR l n s).2.at_ = s.at_ + n ∧ s.at_ + n ≤ (l.length : Int) ∧ l.take ((numR l n s).2.at_.toNat) = l.take s.at_.toNat ++ beN (numR l n s).1 n := by
 unfold numR at h ⊢
 cases hs : s.er with
 | some q => rw [hs] at h; simp only [] at h; rw [hs] at h; cases h
 | none =>
  rw [hs] at h
  simp only [] at h ⊢
  by_cases hlt : (l.length : Int) - s.at_ < n
  ·
   rw [if_pos hlt] at h; cases h
  ·
   rw [if_neg hlt]
   refine ⟨trivial, rfl, by omega, ?_⟩
   have hm : (l.take (s.at_.toNat + n)).drop s.at_.toNat = (l.drop s.at_.toNat).take n := by rw [List.drop_take]; congr 1; omega
   have hx : ((l.take (s.at_.toNat + n)).drop s.at_.toNat).length = n := by rw [List.length_drop, List.length_take]; omega
   have hb := be_beV ((l.take (s.at_.toNat + n)).drop s.at_.toNat) (fun x hx => hby x (List.mem_of_mem_take (List.mem_of_mem_drop hx)))
   rw [hx] at hb
   show l.take (s.at_ + n).toNat = l.take s.at_.toNat ++ beN (beV ((l.take (s.at_.toNat + n)).drop s.at_.toNat)) n
   rw [hb, hm, show (s.at_ + n).toNat = s.at_.toNat + n by omega, List.take_add]
theorem countR_ok {l : List Int} {lim : Int} {s : RS} (h : (countR l lim s).2.er = none) : (countR l lim s).2 = (numR l 4 s).2 ∧ (countR l lim s).1 = (numR l 4 s).1 ∧ (numR l 4 s).1 ≤ lim ∧ (numR l 4 s).2.er = none := by
 unfold countR at h ⊢
 by_cases hg : (numR l 4 s).1 > lim
 ·
  rw [if_pos hg] at h
  obtain ⟨q, hq⟩ := failsR_er s.at_ (numR l 4 s).2
  have h1 : (failsR s.at_ (numR l 4 s).2).er = none := h
  rw [hq] at h1
  cases h1
 ·
  rw [if_neg hg] at h ⊢
  cases he : (numR l 4 s).2.er with
  | none => exact ⟨rfl, rfl, by omega, rfl⟩
  | some q =>
   rw [he] at h
   have h1 : (numR l 4 s).2.er = none := h
   rw [he] at h1
   cases h1
theorem bytes_str (xs : List Int) (h : ∀ x ∈ xs, 0 ≤ x ∧ x < 256) : bytesOf (strOfNums xs) = xs := by
 unfold bytesOf
 rw [strOfNums_data, List.map_map]
 conv => rhs; rw [← List.map_id xs]
 apply List.map_congr_left
 intro x hx
 have := h x hx
 show ((UInt8.ofNat x.toNat).toNat : Int) = x
 rw [UInt8.toNat_ofNat']
 omega
theorem textR_ok {l : List Int} {s : RS} (hby : ∀ x ∈ l, 0 ≤ x ∧ x < 256) (h0 : 0 ≤ s.at_) (h : (textR l s).2.er = none) :
  s.er = none ∧ s.at_ ≤ (textR l s).2.at_ ∧ (textR l s).2.at_ ≤ (l.length : Int) ∧ (textR l s).1.size ≤ 24 ∧ l.take ((textR l s).2.at_.toNat) = l.take s.at_.toNat ++ beN ((textR l s).1.size : Int) 4 ++ bytesOf (textR l s).1 := by
 unfold textR at h ⊢
 cases hh : (hasR l.length (countR l 24 s).1 (countR l 24 s).2).er with
 | some q =>
  rw [hh] at h
  have h1 : (hasR l.length (countR l 24 s).1 (countR l 24 s).2).er = none := h
  rw [hh] at h1
  cases h1
 | none =>
  simp only []
  have hge : ¬ ((l.length : Int) - (countR l 24 s).2.at_ < (countR l 24 s).1) := fun hx => by
   unfold hasR at hh
   rw [if_pos hx] at hh
   obtain ⟨q, hq⟩ := failsR_er (l.length : Int) (countR l 24 s).2
   rw [hq] at hh
   cases hh
  have hce : (countR l 24 s).2.er = none := by
   unfold hasR at hh
   rw [if_neg hge] at hh
   exact hh
  obtain ⟨e1, e2, e3, e4⟩ := countR_ok hce
  have hn := numR_range l 4 s hby
  obtain ⟨k1, k2, k3, k4⟩ := numR_ok hby h0 e4
  rw [← e1] at k2 k4
  rw [← e2] at k4 e3 hn
  obtain ⟨n, hnn⟩ : ∃ n : Nat, (countR l 24 s).1 = (n : Int) := ⟨(countR l 24 s).1.toNat, by omega⟩
  obtain ⟨m, hm⟩ : ∃ m : Nat, (countR l 24 s).2.at_ = (m : Int) := ⟨(countR l 24 s).2.at_.toNat, by omega⟩
  rw [hnn, hm] at hge
  rw [hnn] at e3 k4
  rw [hm] at k2 k4
  have hx : ((l.take (m + n)).drop m).length = n := by rw [List.length_drop, List.length_take]; omega
  have hb := bytes_str ((l.take (m + n)).drop m) (fun x hx => hby x (List.mem_of_mem_take (List.mem_of_mem_drop hx)))
  have hsz : (strOfNums ((l.take (m + n)).drop m)).size = n := by rw [strOfNums_size, hx]
  rw [hnn, hm, Int.toNat_natCast, Int.toNat_natCast, hb, hsz]
  refine ⟨k1, by show s.at_ ≤ (m : Int) + n; omega, by show (m : Int) + n ≤ _; omega, by omega, ?_⟩
  show l.take ((m : Int) + (n : Int)).toNat = _
  rw [Int.toNat_natCast] at k4
  have hm2 : (l.take (m + n)).drop m = (l.drop m).take n := by rw [List.drop_take]; congr 1; omega
  rw [← k4, hm2, show ((m : Int) + (n : Int)).toNat = m + n by omega, List.take_add]
end Go.Proofs.YtiaohbbafaaibabDoor.P

/- OWN TEXT: plain laws of the reader: what is read without a fault is what is written of it. -/
namespace Go.Proofs.YtiaohbbafaaibabDoor.P
open Go.RowKit Go.Maps Go.Proofs.YtiaohbbafaaibabDoorW.PrintWords Go.Proofs.YtiaohbbafaaibabDoorW.PrintLast Go.Proofs.YtiaohbbafaaibabDoorW.PrintMore Go.Proofs.YtiaohbbafaaibabDoor.Arr Go.Proofs.YtiaohbbafaaibabDoor.MapB
set_option linter.unusedVariables false
structure At (l : List Int) (s : RS) (pre : List Int) : Prop where
  at0 : 0 ≤ s.at_
  tk : s.er = none → s.at_ ≤ (l.length : Int) ∧ l.take s.at_.toNat = pre
theorem At.of {l : List Int} {s : RS} {pre k : List Int} (h : At l s pre) (e : s.er = none → pre = k) : At l s k := ⟨h.at0, fun he => ⟨(h.tk he).1, (h.tk he).2.trans (e he)⟩⟩
theorem numR_at0 {l : List Int} {n : Nat} {s : RS} (h : 0 ≤ s.at_) : 0 ≤ (numR l n s).2.at_ := by
 unfold numR
 cases s.er with
 | some q => exact h
 | none =>
  simp only []
  by_cases hlt : (l.length : Int) - s.at_ < n
  ·
   rw [if_pos hlt]; exact h
  ·
   rw [if_neg hlt]; show 0 ≤ s.at_ + (n : Int); omega
theorem At.num {l : List Int} {s : RS} {pre : List Int} (hby : ∀ x ∈ l, 0 ≤ x ∧ x < 256) (h : At l s pre) (n : Nat) : At l (numR l n s).2 (pre ++ beN (numR l n s).1 n) :=
 ⟨numR_at0 h.at0, fun he => by
  obtain ⟨k1, k2, k3, k4⟩ := numR_ok hby h.at0 he
  exact ⟨by rw [k2]; exact k3, by rw [k4, (h.tk k1).2]⟩⟩
theorem countR_at {l : List Int} {lim : Int} {s : RS} : (countR l lim s).2.at_ = (numR l 4 s).2.at_ := by
 unfold countR
 by_cases hg : (numR l 4 s).1 > lim
 ·
  rw [if_pos hg]; rfl
 ·
  rw [if_neg hg]
  cases (numR l 4 s).2.er with
  | none => rfl
  | some q => rfl
theorem At.count {l : List Int} {s : RS} {pre : List Int} (hby : ∀ x ∈ l, 0 ≤ x ∧ x < 256) (h : At l s pre) (lim : Int) : At l (countR l lim s).2 (pre ++ beN (countR l lim s).1 4) :=
 ⟨by rw [countR_at]; exact numR_at0 h.at0, fun he => by
  obtain ⟨e1, e2, e3, e4⟩ := countR_ok he
  rw [e1, e2]
  exact (h.num hby 4).tk e4⟩
theorem hasR_at (len n : Int) (s : RS) : (hasR len n s).at_ = s.at_ := by
 unfold hasR
 by_cases h : len - s.at_ < n
 ·
  rw [if_pos h]; rfl
 ·
  rw [if_neg h]
theorem At.text {l : List Int} {s : RS} {pre : List Int} (hby : ∀ x ∈ l, 0 ≤ x ∧ x < 256) (h : At l s pre) : At l (textR l s).2 (pre ++ beN ((textR l s).1.size : Int) 4 ++ bytesOf (textR l s).1) := by
 constructor
 ·
  cases he : (textR l s).2.er with
  | none => exact Int.le_trans h.at0 (textR_ok hby h.at0 he).2.1
  | some q =>
   unfold textR at he ⊢
   cases hh : (hasR l.length (countR l 24 s).1 (countR l 24 s).2).er with
   | some q => simp only []; rw [hasR_at, countR_at]; exact numR_at0 h.at0
   | none => rw [hh] at he; cases he
 ·
  intro he
  obtain ⟨k1, k2, k3, k4, k5⟩ := textR_ok hby h.at0 he
  exact ⟨k3, by rw [k5, (h.tk k1).2]⟩
end Go.Proofs.YtiaohbbafaaibabDoor.P

/- OWN TEXT: plain laws of the reader: what is written is read as it; a byte changed is not read. -/
namespace Go.Proofs.YtiaohbbafaaibabDoor.P
open Go.RowKit Go.Maps Go.Proofs.YtiaohbbafaaibabDoorW.PrintWords Go.Proofs.YtiaohbbafaaibabDoorW.PrintLast Go.Proofs.YtiaohbbafaaibabDoorW.PrintMore Go.Proofs.YtiaohbbafaaibabDoor.Arr Go.Proofs.YtiaohbbafaaibabDoor.MapB
set_option linter.unusedVariables false
theorem beN_range (v : Int) : ∀ n, ∀ x ∈ beN v n, 0 ≤ x ∧ x < 256
  | 0, x, h => by cases h
  | n + 1, x, h => by
    rcases List.mem_cons.1 h with rfl | h
    · exact ⟨Int.emod_nonneg _ (by decide), Int.emod_lt_of_pos _ (by decide)⟩
    · exact beN_range v n x h
theorem emod_two (v k : Int) (hk : 0 < k) : v / k % 256 * k + v % k = v % (k * 256) := by
 have h1 := Int.mul_ediv_add_emod v k
 have h2 := Int.mul_ediv_add_emod (v / k) 256
 have h3 := Int.emod_nonneg v (Int.ne_of_gt hk)
 have h4 := Int.emod_lt_of_pos v hk
 have h5 := Int.emod_nonneg (v / k) (show (256 : Int) ≠ 0 by decide)
 have h6 := Int.emod_lt_of_pos (v / k) (show (0 : Int) < 256 by decide)
 have hs : v / k % 256 * k ≤ 255 * k := Int.mul_le_mul_of_nonneg_right (by omega) (by omega)
 have hs0 : 0 ≤ v / k % 256 * k := Int.mul_nonneg h5 (by omega)
 have e : v = (v / k % 256 * k + v % k) + k * 256 * (v / k / 256) := by
  generalize v / k = q at h1 h2
  have h7 : k * q = k * 256 * (q / 256) + q % 256 * k := by
   conv => lhs; rw [← h2]
   rw [Int.mul_add, ← Int.mul_assoc, Int.mul_comm k (q % 256)]
  omega
 have hlt : v / k % 256 * k + v % k < k * 256 := by omega
 have hge : 0 ≤ v / k % 256 * k + v % k := by omega
 generalize v / k % 256 * k + v % k = z at e hlt hge ⊢
 generalize v / k / 256 = y at e
 rw [e, Int.add_mul_emod_self_left, Int.emod_eq_of_lt hge hlt]
theorem beV_beN : ∀ (n : Nat) (v : Int), beV (beN v n) = v % 256 ^ n
  | 0, v => by show (0 : Int) = v % 1; omega
  | n + 1, v => by
    show beV ((v / 256 ^ n) % 256 :: beN v n) = _
    rw [beV_cons, beN_length, beV_beN n v, Int.pow_succ]
    exact emod_two v _ (pow256_pos n)
def Ahead (l pre rest : List Int) (s : RS) : Prop := l = pre ++ rest ∧ s = ⟨(pre.length : Int), none⟩
theorem numR_go {l pre rest : List Int} {s : RS} {v : Int} {n : Nat} (h : Ahead l pre (beN v n ++ rest) s) (hv : 0 ≤ v ∧ v < 256 ^ n) : (numR l n s).1 = v ∧ Ahead l (pre ++ beN v n) rest (numR l n s).2 := by
 obtain ⟨rfl, rfl⟩ := h
 unfold numR
 simp only []
 rw [if_neg (by simp only [List.length_append, beN_length]; omega)]
 rw [Int.toNat_natCast, ← List.append_assoc, show pre.length + n = (pre ++ beN v n).length by rw [List.length_append, beN_length], List.take_left, List.drop_left, beV_beN, Int.emod_eq_of_lt hv.1 hv.2]
 exact ⟨rfl, rfl, by rw [List.length_append, beN_length]; simp⟩
theorem countR_go {l pre rest : List Int} {s : RS} {v lim : Int} (h : Ahead l pre (beN v 4 ++ rest) s) (hv : 0 ≤ v ∧ v < 4294967296) (hl : v ≤ lim) : (countR l lim s).1 = v ∧ Ahead l (pre ++ beN v 4) rest (countR l lim s).2 := by
 have h256 : (256 : Int) ^ 4 = 4294967296 := by decide
 obtain ⟨h1, h2⟩ := numR_go h (by rw [h256]; exact hv)
 unfold countR
 rw [h1, if_neg (by omega)]
 have he : (numR l 4 s).2.er = none := by rw [h2.2]
 rw [he]
 exact ⟨rfl, h2⟩
theorem str_bytes (s : ByteArray) : strOfNums (bytesOf s) = s := by
 apply ByteArray.ext
 apply Array.ext'
 rw [strOfNums_data]
 unfold bytesOf
 rw [List.map_map]
 conv => rhs; rw [← List.map_id s.data.toList]
 apply List.map_congr_left
 intro x hx
 show UInt8.ofNat ((x.toNat : Int)).toNat = x
 rw [Int.toNat_natCast, UInt8.ofNat_toNat]
theorem textR_go {l pre rest : List Int} {s : RS} {t : ByteArray} (h : Ahead l pre (beN (t.size : Int) 4 ++ bytesOf t ++ rest) s) (ht : t.size ≤ 24) : (textR l s).1 = t ∧ Ahead l (pre ++ (beN (t.size : Int) 4 ++ bytesOf t)) rest (textR l s).2 := by
 rw [List.append_assoc] at h
 obtain ⟨h1, h2⟩ := countR_go (lim := 24) h ⟨by omega, by omega⟩ (by omega)
 obtain ⟨e1, e2⟩ := h2
 unfold textR
 have hlen : (bytesOf t).length = t.size := bytesOf_length t
 have hh : hasR (l.length : Int) (countR l 24 s).1 (countR l 24 s).2 = (countR l 24 s).2 := by
  unfold hasR
  rw [if_neg]
  rw [h1, e2, e1]
  simp only [List.length_append, hlen]
  omega
 rw [hh]
 have he : (countR l 24 s).2.er = none := by rw [e2]
 rw [he]
 simp only []
 rw [h1, e2]
 simp only []
 rw [Int.toNat_natCast, Int.toNat_natCast]
 have hx : (l.take ((pre ++ beN (t.size : Int) 4).length + t.size)).drop (pre ++ beN (t.size : Int) 4).length = bytesOf t := by
  rw [e1, ← List.append_assoc, show (pre ++ beN (t.size : Int) 4).length + t.size = ((pre ++ beN (t.size : Int) 4) ++ bytesOf t).length by simp only [List.length_append, hlen], List.take_left, List.drop_left]
 rw [hx, str_bytes]
 refine ⟨rfl, by rw [e1, List.append_assoc, List.append_assoc, List.append_assoc], ?_⟩
 show RS.mk _ none = _
 congr 1
 simp only [List.length_append, hlen]
 omega
theorem each_go {α : Type} {l : List Int} (enc : α → List Int) (f : RO → RO) (upd : RO → List α → RS → RO) (hu0 : ∀ a, upd a [] a.rs = a) (hu : ∀ a x xs s t, upd (upd a [x] s) xs t = upd a (x :: xs) t) (hr : ∀ a xs s, (upd a xs s).rs = s) (ok : α → Prop)
    (hf : ∀ a x pre rest, ok x → Ahead l pre (enc x ++ rest) a.rs → ∃ s, f a = upd a [x] s ∧ Ahead l (pre ++ enc x) rest s) :
    ∀ (xs : List α) (a : RO) (pre rest : List Int), (∀ x ∈ xs, ok x) → Ahead l pre (xs.flatMap enc ++ rest) a.rs → ∃ s, eachR f RO.rs xs.length a = upd a xs s ∧ Ahead l (pre ++ xs.flatMap enc) rest s
  | [], a, pre, rest, _, h => ⟨a.rs, (hu0 a).symm, by rw [List.flatMap_nil, List.append_nil]; exact h⟩
  | x :: xs, a, pre, rest, ho, h => by
    rw [List.flatMap_cons, List.append_assoc] at h
    have he : a.rs.er = none := by rw [h.2]
    obtain ⟨s, h1, h2⟩ := hf a x pre _ (ho x (List.mem_cons_self ..)) h
    rw [List.length_cons, eachR_go f RO.rs xs.length he, h1]
    obtain ⟨t, k1, k2⟩ := each_go enc f upd hu0 hu hr ok hf xs (upd a [x] s) (pre ++ enc x) rest (fun y hy => ho y (List.mem_cons_of_mem _ hy)) (by rw [hr]; exact h2)
    exact ⟨t, by rw [k1, hu], by rw [List.flatMap_cons, ← List.append_assoc]; exact k2⟩
theorem magic_go (r : List Int) : magicE ([80, 76, 79, 49] ++ r) 4 = none := by
 have step : ∀ i : Nat, i < 4 → magicE ([80, 76, 79, 49] ++ r) i = none → magicE ([80, 76, 79, 49] ++ r) (i + 1) = none := by
  intro i hi h
  simp only [magicE]
  rw [h]
  simp only []
  rw [if_neg]
  intro hc
  rcases hc with hc | hc
  ·
   rw [List.length_append] at hc
   have : ([80, 76, 79, 49] : List Int).length = 4 := rfl
   omega
  ·
   match i, hi with
   | 0, _ => exact hc rfl
   | 1, _ => exact hc rfl
   | 2, _ => exact hc rfl
   | 3, _ => exact hc rfl
 exact step 3 (by omega) (step 2 (by omega) (step 1 (by omega) (step 0 (by omega) rfl)))
theorem wrap_mU {x : Int} (h : -9223372036854775808 ≤ x ∧ x < 9223372036854775808) : wrap64 (mU x) = x := by
 unfold mU wrap64
 omega
section
variable (nm : ByteArray) (code : List Int) (dat : Int) (data : List Int) (syms : List Sym) (rels : List Rel)
theorem written_read (hk : WOk nm code dat data syms rels) (hrc : rels.length ≤ code.length) (h64 : ∀ x ∈ data, -9223372036854775808 ≤ x ∧ x < 9223372036854775808) (hc : (chkO nm code dat data syms rels).1 = 0) :
  readC (writeB nm code dat data syms rels) = (0, 0) ∧ ∃ s, ra5 (writeB nm code dat data syms rels) = ⟨nm, code, dat, data, syms, rels, s⟩ := by
 obtain ⟨l, hl⟩ : ∃ l, l = writeB nm code dat data syms rels := ⟨_, rfl⟩
 rw [← hl]
 have hA : Ahead l [80, 76, 79, 49] (beN (nm.size : Int) 4 ++ bytesOf nm ++ (beN (code.length : Int) 4 ++ ((code.flatMap fun x => beN x 4) ++ (beN dat 4 ++ (beN (data.length : Int) 4 ++ ((data.flatMap fun x => beN (mU x) 8) ++ (beN (syms.length : Int) 4 ++ (syms.flatMap symB ++ (beN (rels.length : Int) 4 ++ (rels.flatMap relB ++ (beN (sumN (headB nm code dat data syms rels)) 4 ++ [])))))))))))  ⟨4, magicE l 4⟩ := by
  constructor
  ·
   rw [hl]; unfold writeB headB; simp only [List.append_assoc, List.append_nil]
  ·
   have : magicE l 4 = none := by
    rw [hl]; unfold writeB headB; simp only [List.append_assoc]
    exact magic_go _
   rw [this]
   rfl
 obtain ⟨t1, h1⟩ := textR_go hA hk.hnm
 obtain ⟨c1, h2⟩ := countR_go (lim := 16384) h1 ⟨by omega, by have := hk.hcode; omega⟩ (by have := hk.hcode; omega)
 have e0 : ra0 l = ⟨nm, [], 0, [], [], [], (textR l ⟨4, magicE l 4⟩).2⟩ := by unfold ra0; rw [t1]
 obtain ⟨s1, e1, h3⟩ := each_go (fun x => beN x 4) (f1 l) (fun a xs s => { a with code := a.code ++ xs, rs := s }) (fun a => by simp only [List.append_nil]) (fun a x xs s t => by simp only [List.append_assoc]; rfl) (fun a xs s => rfl) (fun x => 0 ≤ x ∧ x < 4294967296)
  (fun a x pre rest ox h => by
   have h256 : (256 : Int) ^ 4 = 4294967296 := by decide
   obtain ⟨k1, k2⟩ := numR_go h (by rw [h256]; exact ox)
   exact ⟨_, by unfold f1; rw [k1], k2⟩) code (cntR l 16384 (ra0 l)) _ _ (fun x hx => by
    obtain ⟨i, hi, rfl⟩ := List.getElem_of_mem hx
    have := hk.hwords i hi
    rw [rd_get hi] at this
    exact this) (show Ahead l _ _ (countR l 16384 (ra0 l).rs).2 by rw [e0]; exact h2)
 have e1' : ra1 l = ⟨nm, code, 0, [], [], [], s1⟩ := by
  unfold ra1
  have : (countR l 16384 (ra0 l).rs).1.toNat = code.length := by rw [e0]; show (countR l 16384 (textR l ⟨4, magicE l 4⟩).2).1.toNat = _; rw [c1]; exact Int.toNat_natCast _
  rw [this, e1]
  unfold cntR
  rw [e0]
  simp only [List.nil_append]
 obtain ⟨c2, h4⟩ := countR_go (lim := 2147483647) h3 ⟨hk.hdat.1, by have := hk.hdat.2; omega⟩ hk.hdat.2
 have e2 : ra2 l = ⟨nm, code, dat, [], [], [], (countR l 2147483647 s1).2⟩ := by unfold ra2 cntR; rw [e1', c2]
 obtain ⟨c3, h5⟩ := countR_go (lim := 4096) h4 ⟨by omega, by have := hk.hdata; omega⟩ (by have := hk.hdata; omega)
 obtain ⟨s3, e3, h6⟩ := each_go (fun x => beN (mU x) 8) (f2 l) (fun a xs s => { a with data := a.data ++ xs, rs := s }) (fun a => by simp only [List.append_nil]) (fun a x xs s t => by simp only [List.append_assoc]; rfl) (fun a xs s => rfl) (fun x => -9223372036854775808 ≤ x ∧ x < 9223372036854775808)
  (fun a x pre rest ox h => by
   have h256 : (256 : Int) ^ 8 = 18446744073709551616 := by decide
   obtain ⟨k1, k2⟩ := numR_go h (by rw [h256]; exact u64_range x)
   exact ⟨_, by unfold f2; rw [k1, wrap_mU ox], k2⟩) data (cntR l 4096 (ra2 l)) _ _ h64 (show Ahead l _ _ (countR l 4096 (ra2 l).rs).2 by rw [e2]; exact h5)
 have e3' : ra3 l = ⟨nm, code, dat, data, [], [], s3⟩ := by
  unfold ra3
  have : (countR l 4096 (ra2 l).rs).1.toNat = data.length := by rw [e2]; show (countR l 4096 (countR l 2147483647 s1).2).1.toNat = _; rw [c3]; exact Int.toNat_natCast _
  rw [this, e3]
  unfold cntR
  rw [e2]
  simp only [List.nil_append]
 obtain ⟨c4, h7⟩ := countR_go (lim := 256) h6 ⟨by omega, by have := hk.hsyms; omega⟩ (by have := hk.hsyms; omega)
 obtain ⟨s4, e4, h8⟩ := each_go symB (f3 l) (fun a xs s => { a with syms := a.syms ++ xs, rs := s }) (fun a => by simp only [List.append_nil]) (fun a x xs s t => by simp only [List.append_assoc]; rfl) (fun a xs s => rfl) (fun x => x.f0.size ≤ 24 ∧ (0 ≤ x.f1 ∧ x.f1 ≤ 3) ∧ 0 ≤ x.f2 ∧ x.f2 ≤ 2147483647)
  (fun a x pre rest ox h => by
   unfold symB at h
   simp only [List.append_assoc] at h
   rw [← List.append_assoc] at h
   obtain ⟨k1, k2⟩ := textR_go h ox.1
   obtain ⟨k3, k4⟩ := countR_go (lim := 3) k2 ⟨ox.2.1.1, by have := ox.2.1.2; omega⟩ ox.2.1.2
   obtain ⟨k5, k6⟩ := countR_go (lim := 2147483647) k4 ⟨ox.2.2.1, by have := ox.2.2.2; omega⟩ ox.2.2.2
   refine ⟨_, by unfold f3; rw [k1, k3, k5], ?_⟩
   unfold symB
   simpa only [List.append_assoc] using k6) syms (cntR l 256 (ra3 l)) _ _ (fun x hx => by
    obtain ⟨i, hi, rfl⟩ := List.getElem_of_mem hx
    have := hk.hsym i hi
    rw [sy_getW hi] at this
    exact this) (show Ahead l _ _ (countR l 256 (ra3 l).rs).2 by rw [e3']; exact h7)
 have e4' : ra4 l = ⟨nm, code, dat, data, syms, [], s4⟩ := by
  unfold ra4
  have : (countR l 256 (ra3 l).rs).1.toNat = syms.length := by rw [e3']; show (countR l 256 s3).1.toNat = _; rw [c4]; exact Int.toNat_natCast _
  rw [this, e4]
  unfold cntR
  rw [e3']
  simp only [List.nil_append]
 obtain ⟨c5, h9⟩ := countR_go (lim := (code.length : Int)) h8 ⟨by omega, by have := hk.hrels; omega⟩ (by omega)
 obtain ⟨s5, e5, h10⟩ := each_go relB (f4 l) (fun a xs s => { a with rels := a.rels ++ xs, rs := s }) (fun a => by simp only [List.append_nil]) (fun a x xs s t => by simp only [List.append_assoc]; rfl) (fun a xs s => rfl) (fun x => (0 ≤ x.f0 ∧ x.f0 ≤ 2147483647) ∧ 0 ≤ x.f1 ∧ x.f1 ≤ 2147483647)
  (fun a x pre rest ox h => by
   unfold relB at h
   simp only [List.append_assoc] at h
   obtain ⟨k3, k4⟩ := countR_go (lim := 2147483647) h ⟨ox.1.1, by have := ox.1.2; omega⟩ ox.1.2
   obtain ⟨k5, k6⟩ := countR_go (lim := 2147483647) k4 ⟨ox.2.1, by have := ox.2.2; omega⟩ ox.2.2
   refine ⟨_, by unfold f4; rw [k3, k5], ?_⟩
   unfold relB
   simpa only [List.append_assoc] using k6) rels (cntR l (code.length : Int) (ra4 l)) _ _ (fun x hx => by
    obtain ⟨i, hi, rfl⟩ := List.getElem_of_mem hx
    have := hk.hrel i hi
    rw [rl_getW hi] at this
    exact this) (show Ahead l _ _ (countR l (code.length : Int) (ra4 l).rs).2 by rw [e4']; exact h9)
 have e5' : ra5 l = ⟨nm, code, dat, data, syms, rels, s5⟩ := by
  unfold ra5
  have hcl : ((ra4 l).code.length : Int) = (code.length : Int) := by rw [e4']
  rw [hcl]
  have : (countR l (code.length : Int) (ra4 l).rs).1.toNat = rels.length := by rw [e4']; show (countR l (code.length : Int) s4).1.toNat = _; rw [c5]; exact Int.toNat_natCast _
  rw [this, e5]
  unfold cntR
  rw [e4']
  simp only [List.nil_append]
 have h256 : (256 : Int) ^ 4 = 4294967296 := by decide
 obtain ⟨n1, h11⟩ := numR_go h10 (by rw [h256]; exact sumN_range _)
 have hs5 : (ra5 l).rs = s5 := by rw [e5']
 have hhead : ∀ P : List Int, l = P ++ (beN (sumN (headB nm code dat data syms rels)) 4 ++ []) → l.take P.length = headB nm code dat data syms rels := by
  intro P hP
  have h1 : headB nm code dat data syms rels ++ beN (sumN (headB nm code dat data syms rels)) 4 = P ++ (beN (sumN (headB nm code dat data syms rels)) 4 ++ []) := by rw [← hP, hl]; rfl
  rw [List.append_nil] at h1
  have h2 : P = headB nm code dat data syms rels := (List.append_cancel_right h1).symm
  rw [hl, h2]
  exact List.take_left
 have hend : (endS l) = (numR l 4 s5).2 := by
  have h6 : (a6 l).rs = (numR l 4 s5).2 := by unfold a6; rw [hs5]
  unfold endS
  rw [h6]
  have he : (numR l 4 s5).2.er = none := by rw [h11.2]
  rw [he]
  simp only []
  rw [if_neg]
  rw [h11.2]
  have := congrArg List.length h11.1
  rw [List.append_nil] at this
  show ¬ ((List.length _ : Nat) : Int) < (l.length : Int)
  omega
 refine ⟨?_, s5, e5'⟩
 unfold readC
 have he : (endS l).er = none := by rw [hend, h11.2]
 rw [he]
 simp only []
 rw [hs5, n1, h10.2]
 simp only []
 rw [Int.toNat_natCast, hhead _ h10.1, if_pos rfl]
 unfold chkR
 rw [e5']
 simp only []
 rw [if_pos hc]
end
theorem bytesOf_range (s : ByteArray) : ∀ x ∈ bytesOf s, 0 ≤ x ∧ x < 256 := by
 intro x hx
 unfold bytesOf at hx
 obtain ⟨b, _, rfl⟩ := List.mem_map.1 hx
 have := b.toNat_lt
 omega
theorem writeB_by (nm : ByteArray) (code : List Int) (dat : Int) (data : List Int) (syms : List Sym) (rels : List Rel) : ∀ x ∈ writeB nm code dat data syms rels, 0 ≤ x ∧ x < 256 := by
 intro x hx
 unfold writeB headB at hx
 simp only [List.mem_append, List.mem_flatMap] at hx
 have hB := fun v n => beN_range v n x
 have hS := fun s => bytesOf_range s x
 rcases hx with (((((((((((hx | hx) | hx) | hx) | hx) | hx) | hx) | hx) | hx) | hx) | hx) | hx) | hx
 all_goals first
  | exact hB _ _ hx
  | exact hS _ hx
  | skip
 ·
  simp only [List.mem_cons, List.not_mem_nil, or_false] at hx
  omega
 ·
  obtain ⟨a, _, hx⟩ := hx
  exact hB _ _ hx
 ·
  obtain ⟨a, _, hx⟩ := hx
  exact hB _ _ hx
 ·
  obtain ⟨a, _, hx⟩ := hx
  unfold symB at hx
  simp only [List.mem_append] at hx
  rcases hx with ((hx | hx) | hx) | hx
  ·
   exact hB _ _ hx
  ·
   exact hS _ hx
  ·
   exact hB _ _ hx
  ·
   exact hB _ _ hx
 ·
  obtain ⟨a, _, hx⟩ := hx
  unfold relB at hx
  simp only [List.mem_append] at hx
  rcases hx with hx | hx
  ·
   exact hB _ _ hx
  ·
   exact hB _ _ hx
end Go.Proofs.YtiaohbbafaaibabDoor.P

/- OWN TEXT: plain laws for the statement WireRound: what is heavy, copies, equality; an object that may be written. -/
namespace Go.Proofs.YtiaohbbafaaibabDoor.P
open Go.RowKit Go.Maps Go.Proofs.YtiaohbbafaaibabDoorW.PrintWords Go.Proofs.YtiaohbbafaaibabDoorW.PrintLast Go.Proofs.YtiaohbbafaaibabDoorW.PrintMore Go.Proofs.YtiaohbbafaaibabDoor.Arr Go.Proofs.YtiaohbbafaaibabDoor.MapB
set_option linter.unusedVariables false
theorem Ev.countE {α : Type} {g : Nat → Int → Option α} {r : α} {n : Nat} (step : ∀ i : Nat, i < n → Ev (fun k => g k ((i + 1 : Nat) : Int)) r → Ev (fun k => g k (i : Int)) r) (last : Ev (fun k => g k (n : Int)) r) : Ev (fun k => g k ((0 : Nat) : Int)) r := by
 have : ∀ d i : Nat, i + d = n → Ev (fun k => g k (i : Int)) r := by
  intro d
  induction d with
  | zero => intro i hi; rw [show i = n by omega]; exact last
  | succ d ih => intro i hi; exact step i (by omega) (ih (i + 1) (by omega))
 exact this n 0 (by omega)
theorem eqWordsE (l : List Int) (hl : l.length ≤ 1000000000) : Ev (fun k => pleatref00_EqWords.f k l l) true := by
 unfold pleatref00_EqWords.f
 refine Ev.iteT rfl (Ev.countE (g := fun k i => pleatref00_EqWords.l0 k l l i) (n := l.length) (fun i hi IH => ?_) ?_)
 ·
  refine Ev.succ (Ev.iteT (by omega) (Ev.iteT (by omega) (Ev.iteT (by omega) (Ev.iteT rfl ?_))))
  rw [wrapS hi (by omega)]
  exact IH
 ·
  exact Ev.succ (Ev.iteF (by omega) (Ev.val rfl))
theorem eqLongsE (l : List Int) (hl : l.length ≤ 1000000000) : Ev (fun k => pleatref00_EqLongs.f k l l) true := by
 unfold pleatref00_EqLongs.f
 refine Ev.iteT rfl (Ev.countE (g := fun k i => pleatref00_EqLongs.l0 k l l i) (n := l.length) (fun i hi IH => ?_) ?_)
 ·
  refine Ev.succ (Ev.iteT (by omega) (Ev.iteT (by omega) (Ev.iteT (by omega) (Ev.iteT rfl ?_))))
  rw [wrapS hi (by omega)]
  exact IH
 ·
  exact Ev.succ (Ev.iteF (by omega) (Ev.val rfl))
section
variable {nm : ByteArray} {code : List Int} {dat : Int} {data : List Int} {syms : List Sym} {rels : List Rel}
structure Lite (nm : ByteArray) (code : List Int) (data : List Int) (syms : List Sym) (rels : List Rel) : Prop where
  hn : nm.size ≤ 1048576
  h1 : code.length ≤ 32768
  h3 : data.length ≤ 32768
  h4 : syms.length ≤ 1048576
  h5 : rels.length ≤ 32768
theorem OkO.wok (h : OkO nm code dat data syms rels) (hw : wordsO code = true) : WOk nm code dat data syms rels := by
 obtain ⟨s0, s1, s2, s3, s4, s5⟩ := sizeS_ok h.osize
 refine ⟨nameS_len s0, s1, fun i hi => ?_, ⟨s4, by omega⟩, by omega, s2, fun i hi => ?_, by omega, fun i hi => ?_⟩
 ·
  rw [P.rd_get hi]
  exact wordsO_at hw (List.getElem_mem hi)
 ·
  obtain ⟨e0, _, e1, e2, e3, e4, _⟩ := symE_ok (h.osyms i hi)
  exact ⟨nameS_len e0, ⟨e1, e2⟩, e3, by show (sy syms i).f2 ≤ _; omega⟩
 ·
  obtain ⟨e0, e1, e2, e3, _⟩ := relE_ok (h.orels i hi)
  have := rel_lo h hi
  exact ⟨⟨this, by show (rl rels i).f0 ≤ _; omega⟩, e2, by show (rl rels i).f1 ≤ _; omega⟩
theorem flatMap_short {α : Type} (f : α → List Int) (k : Nat) : ∀ xs : List α, (∀ x ∈ xs, (f x).length ≤ k) → (xs.flatMap f).length ≤ xs.length * k
  | [], _ => by simp
  | x :: xs, h => by
    have h1 := h x (List.mem_cons_self ..)
    have h2 := flatMap_short f k xs (fun y hy => h y (List.mem_cons_of_mem _ hy))
    rw [List.flatMap_cons, List.length_append, List.length_cons, Nat.succ_mul]
    omega
theorem writeB_short (h : WOk nm code dat data syms rels) : (writeB nm code dat data syms rels).length ≤ 1000000 := by
 have a1 := flatMap_short (fun x : Int => beN x 4) 4 code (fun x _ => by rw [beN_length]; omega)
 have a2 := flatMap_short (fun x : Int => beN (mU x) 8) 8 data (fun x _ => by rw [beN_length]; omega)
 have a3 := flatMap_short symB 36 syms (fun x hx => by
  obtain ⟨i, hi, rfl⟩ := List.getElem_of_mem hx
  have := (h.hsym i hi).1
  rw [sy_getW hi] at this
  unfold symB
  simp only [List.length_append, beN_length, bytesOf_length]
  omega)
 have a4 := flatMap_short relB 8 rels (fun x _ => by unfold relB; simp only [List.length_append, beN_length]; omega)
 have h1 := h.hnm
 have h2 := h.hcode
 have h3 := h.hdata
 have h4 := h.hsyms
 have h5 := h.hrels
 unfold writeB headB
 simp only [List.length_append, beN_length, bytesOf_length, List.length_cons, List.length_nil]
 omega
theorem OkO.fewer (h : OkO nm code dat data syms rels) : rels.length ≤ code.length := (sizeS_ok h.osize).2.2.2.1
end
end Go.Proofs.YtiaohbbafaaibabDoor.P

/- What the Go functions named below come to, as plain functions, each with its proof; written by this session's prt.py over the kit's print. -/
namespace Go.Proofs.YtiaohbbafaaibabDoor.P
open Go.RowKit Go.Proofs.YtiaohbbafaaibabDoorW.PrintWords Go.Proofs.YtiaohbbafaaibabDoorW.PrintLast Go.Proofs.YtiaohbbafaaibabDoorW.PrintMore
attribute [local go_sem] max2_int min2_int max_two min_two max_three min_three max_four min_four   -- for this text's walks alone
set_option linter.unusedVariables false
set_option linter.unusedSimpArgs false
def pleatref00_EqImage.f (k : Nat) (l0_0 : List Int) (a0_1 : Int) (l0_2 : List Int) (l1_0 : List Int) (a1_1 : Int) (l1_2 : List Int) : Option (Bool) := if a0_1 = a1_1 then ((pleatref00_EqWords.f k l0_0 l1_0).bind fun t409 => (if t409 = true then ((pleatref00_EqLongs.f k l0_2 l1_2).bind fun t410 => (some t410)) else (some false))) else (some false)
theorem pleatref00_EqImage.mono : ∀ a0 a1 a2 a3 a4 a5 k, LeO (pleatref00_EqImage.f k a0 a1 a2 a3 a4 a5) (pleatref00_EqImage.f (k + 1) a0 a1 a2 a3 a4 a5) := by
 intro a0 a1 a2 a3 a4 a5 k
 unfold pleatref00_EqImage.f
 repeat' first
   | (with_reducible first | exact pleatref00_EqLongs.mono _ _ _ | exact pleatref00_EqWords.mono _ _ _ | exact LeO.refl _ | exact LeO.none _ | refine LeO.ite ?_ ?_ | refine LeO.bind ?_ (fun _ => ?_))
set_option maxHeartbeats 8000000 in
set_option maxRecDepth 100000 in
theorem pleatref00_EqImage.calls (k : Nat) (A0_0 : Option Addr) (c0_0 : Nat) (l0_0 : List Int) (a0_1 : Int) (A0_2 : Option Addr) (c0_2 : Nat) (l0_2 : List Int) (A1_0 : Option Addr) (c1_0 : Nat) (l1_0 : List Int) (a1_1 : Int) (A1_2 : Option Addr) (c1_2 : Nat) (l1_2 : List Int) (r : Bool) (w : World) (hr0_0 : Kd.C (Kd.int .u32) w A0_0 l0_0.length l0_0) (hc0_0 : l0_0.length ≤ c0_0) (hr0_2 : Kd.C (Kd.int .i64) w A0_2 l0_2.length l0_2) (hc0_2 : l0_2.length ≤ c0_2) (hr1_0 : Kd.C (Kd.int .u32) w A1_0 l1_0.length l1_0) (hc1_0 : l1_0.length ≤ c1_0) (hr1_2 : Kd.C (Kd.int .i64) w A1_2 l1_2.length l1_2) (hc1_2 : l1_2.length ≤ c1_2) (h : pleatref00_EqImage.f k l0_0 a0_1 l0_2 l1_0 a1_1 l1_2 = some r) :
  Calls Tryd.prog 26 #[.agg #[.slice A0_0 l0_0.length c0_0, .int .i64 a0_1, .slice A0_2 l0_2.length c0_2], .agg #[.slice A1_0 l1_0.length c1_0, .int .i64 a1_1, .slice A1_2 l1_2.length c1_2]] w fun e w' => e = .returned (.bool r) ∧ Below w.heap.size w w' := by
 have hu46 := Tryd.underlying46
 have HR0_0 := Aside0.mk hr0_0
 have HC0_0 := Aside0.mk hc0_0
 clear hr0_0 hc0_0
 have HR0_2 := Aside0.mk hr0_2
 have HC0_2 := Aside0.mk hc0_2
 clear hr0_2 hc0_2
 have HR1_0 := Aside0.mk hr1_0
 have HC1_0 := Aside0.mk hc1_0
 clear hr1_0 hc1_0
 have HR1_2 := Aside0.mk hr1_2
 have HC1_2 := Aside0.mk hc1_2
 clear hr1_2 hc1_2
 have HB := Aside0.mk (Below.refl w.heap.size w)
 have H : (if a0_1 = a1_1 then ((pleatref00_EqWords.f k l0_0 l1_0).bind fun t409 => (if t409 = true then ((pleatref00_EqLongs.f k l0_2 l1_2).bind fun t410 => (some t410)) else (some false))) else (some false)) = some r := h
 clear h
 by_cases c3 : a0_1 = a1_1
 ·
  rw [if_pos c3] at H
  have c3b0 : (a0_1 == a1_1) = true := beq_iff_eq.mpr c3
  have c3b1 : (a0_1 != a1_1) = false := bne_eq_false_iff_eq.mpr c3
  clear c3
  replace H := Option.bind_eq_some_iff.mp H
  obtain ⟨t409, A40, H⟩ := H
  try dsimp only at H
  have A4 := Aside0.mk A40
  clear A40
  by_cases c5 : t409 = true
  ·
   subst c5
   rw [if_pos rfl] at H
   replace H := Option.bind_eq_some_iff.mp H
   obtain ⟨t410, A60, H⟩ := H
   try dsimp only at H
   have A6 := Aside0.mk A60
   clear A60
   obtain rfl := Option.some.inj H
   go_enter Tryd.func26, Tryd.ntmps26
   go_wp2_with (first | ((with_reducible refine gate_dst (N := 2) rfl ?_); refine box_event ?hg (N := 2) ?hd (cs := #[.slice A0_0 l0_0.length c0_0, .int .i64 a0_1, .slice A0_2 l0_2.length c0_2]) (t := 46) ?hr ?_; (case hd => rfl); (case hg => rfl); (case hr => go_simp; try rfl); intro gb407 hg w7 hbox hb; have BK407 := Aside0.mk (hbox); have GW407 := Aside0.mk (gwQ hg HB.out); have GE407 := Aside0.mk (gwQ hg HB.out); replace HB := Aside0.mk (bsQ hb HB.out); clear hb hbox hg) | ((with_reducible refine gate_dst (N := 3) rfl ?_); refine box_event ?hg (N := 3) ?hd (cs := #[.slice A1_0 l1_0.length c1_0, .int .i64 a1_1, .slice A1_2 l1_2.length c1_2]) (t := 46) ?hr ?_; (case hd => rfl); (case hg => rfl); (case hr => go_simp; try rfl); intro gb408 hg w8 hbox hb; have n0_ := Aside0.mk (bbQ hb BK407.out); have n1_ := Aside0.mk (bs1Q hb (by repeat with_reducible first | exact HB.out | apply pw_below_drewN | apply below_drew1 | refine below_set ?_ GE407.out)); have n2_ := Aside0.mk (hbox); have n3_ := Aside0.mk (gw1Q hg (by repeat with_reducible first | exact HB.out | apply pw_below_drewN | apply below_drew1 | refine below_set ?_ GE407.out)); have n4_ := Aside0.mk (gw1Q hg (by repeat with_reducible first | exact HB.out | apply pw_below_drewN | apply below_drew1 | refine below_set ?_ GE407.out)); have n5_ := Aside0.mk ((by rw [hg]; exact Nat.ne_of_lt (blk_lt (g := gb407) (o := .cells #[.slice A0_0 l0_0.length c0_0, .int .i64 a0_1, .slice A0_2 l0_2.length c0_2] 46 (0, 0)) (by exact BK407.out)) : gb407 ≠ gb408)); have n6_ := Aside0.mk ((by rw [hg]; exact Nat.ne_of_gt (blk_lt (g := gb407) (o := .cells #[.slice A0_0 l0_0.length c0_0, .int .i64 a0_1, .slice A0_2 l0_2.length c0_2] 46 (0, 0)) (by exact BK407.out)) : gb408 ≠ gb407)); clear BK407; clear HB; have BK407 := n0_; have HB := n1_; have BK408 := n2_; have GW408 := n3_; have GE408 := n4_; have NB407_408 := n5_; have NB408_407 := n6_; clear n0_ n1_ n2_ n3_ n4_ n5_ n6_; clear hb hbox hg; have hnb9 := NB407_408.out; have hnc9 := NB408_407.out; obtain ⟨hcz10_0, hcz10_1, hcz10_2⟩ := bcQ3 BK407.out; obtain ⟨hfz10_0, hfz10_1, hfz10_2⟩ := fzQ3 BK407.out; obtain ⟨hcz11_0, hcz11_1, hcz11_2⟩ := bcQ3 BK408.out; obtain ⟨hfz11_0, hfz11_1, hfz11_2⟩ := fzQ3 BK408.out) | (go_at_call 53; (with_reducible refine (pleatref00_EqWords.calls k _ _ l0_0 _ _ l1_0 true _ ?side1 ?side2 ?side3 ?side4 A4.out).mono ?_); (case side1 => exact cbQ HB.out HR0_0.out); (case side2 => exact HC0_0.out); (case side3 => exact cbQ HB.out HR1_0.out); (case side4 => exact HC1_0.out); rintro e w' ⟨rfl, ⟨nd, rfl⟩⟩) | (go_at_call 54; (with_reducible refine (pleatref00_EqLongs.calls k _ _ l0_2 _ _ l1_2 t410 _ ?side1 ?side2 ?side3 ?side4 A6.out).mono ?_); (case side1 => repeat (first | exact (Kd.C_below HR0_2.out (by repeat with_reducible first | exact HB.out | apply pw_below_drewN | apply below_drew1 | refine below_set ?_ GE407.out | refine below_set ?_ GE408.out)) | (with_reducible refine Kd.C_alloc ?_ _) | (with_reducible refine Kd.C_drewN ?_ _) | (with_reducible refine Kd.C_drew ?_))); (case side2 => exact HC0_2.out); (case side3 => repeat (first | exact (Kd.C_below HR1_2.out (by repeat with_reducible first | exact HB.out | apply pw_below_drewN | apply below_drew1 | refine below_set ?_ GE407.out | refine below_set ?_ GE408.out)) | (with_reducible refine Kd.C_alloc ?_ _) | (with_reducible refine Kd.C_drewN ?_ _) | (with_reducible refine Kd.C_drew ?_))); (case side4 => exact HC1_2.out); rintro e w' ⟨rfl, ⟨nd, rfl⟩⟩))
   go_ret
   exact ⟨by first | rfl | (simp [errW_none, errW_some] <;> rfl) | (simp [*, errW_none, errW_some] <;> rfl), by repeat with_reducible first | exact HB.out | apply pw_below_drewN | apply below_drew1 | refine below_set ?_ GE407.out | refine below_set ?_ GE408.out⟩
  ·
   replace c5 := Bool.eq_false_iff.mpr c5
   subst c5
   rw [if_neg Bool.false_ne_true] at H
   obtain rfl := Option.some.inj H
   go_enter Tryd.func26, Tryd.ntmps26
   go_wp2_with (first | ((with_reducible refine gate_dst (N := 2) rfl ?_); refine box_event ?hg (N := 2) ?hd (cs := #[.slice A0_0 l0_0.length c0_0, .int .i64 a0_1, .slice A0_2 l0_2.length c0_2]) (t := 46) ?hr ?_; (case hd => rfl); (case hg => rfl); (case hr => go_simp; try rfl); intro gb407 hg w12 hbox hb; have BK407 := Aside0.mk (hbox); have GW407 := Aside0.mk (gwQ hg HB.out); have GE407 := Aside0.mk (gwQ hg HB.out); replace HB := Aside0.mk (bsQ hb HB.out); clear hb hbox hg) | ((with_reducible refine gate_dst (N := 3) rfl ?_); refine box_event ?hg (N := 3) ?hd (cs := #[.slice A1_0 l1_0.length c1_0, .int .i64 a1_1, .slice A1_2 l1_2.length c1_2]) (t := 46) ?hr ?_; (case hd => rfl); (case hg => rfl); (case hr => go_simp; try rfl); intro gb408 hg w13 hbox hb; have n0_ := Aside0.mk (bbQ hb BK407.out); have n1_ := Aside0.mk (bs1Q hb (by repeat with_reducible first | exact HB.out | apply pw_below_drewN | apply below_drew1 | refine below_set ?_ GE407.out)); have n2_ := Aside0.mk (hbox); have n3_ := Aside0.mk (gw1Q hg (by repeat with_reducible first | exact HB.out | apply pw_below_drewN | apply below_drew1 | refine below_set ?_ GE407.out)); have n4_ := Aside0.mk (gw1Q hg (by repeat with_reducible first | exact HB.out | apply pw_below_drewN | apply below_drew1 | refine below_set ?_ GE407.out)); have n5_ := Aside0.mk ((by rw [hg]; exact Nat.ne_of_lt (blk_lt (g := gb407) (o := .cells #[.slice A0_0 l0_0.length c0_0, .int .i64 a0_1, .slice A0_2 l0_2.length c0_2] 46 (0, 0)) (by exact BK407.out)) : gb407 ≠ gb408)); have n6_ := Aside0.mk ((by rw [hg]; exact Nat.ne_of_gt (blk_lt (g := gb407) (o := .cells #[.slice A0_0 l0_0.length c0_0, .int .i64 a0_1, .slice A0_2 l0_2.length c0_2] 46 (0, 0)) (by exact BK407.out)) : gb408 ≠ gb407)); clear BK407; clear HB; have BK407 := n0_; have HB := n1_; have BK408 := n2_; have GW408 := n3_; have GE408 := n4_; have NB407_408 := n5_; have NB408_407 := n6_; clear n0_ n1_ n2_ n3_ n4_ n5_ n6_; clear hb hbox hg; have hnb14 := NB407_408.out; have hnc14 := NB408_407.out; obtain ⟨hcz15_0, hcz15_1, hcz15_2⟩ := bcQ3 BK407.out; obtain ⟨hfz15_0, hfz15_1, hfz15_2⟩ := fzQ3 BK407.out; obtain ⟨hcz16_0, hcz16_1, hcz16_2⟩ := bcQ3 BK408.out; obtain ⟨hfz16_0, hfz16_1, hfz16_2⟩ := fzQ3 BK408.out) | (go_at_call 53; (with_reducible refine (pleatref00_EqWords.calls k _ _ l0_0 _ _ l1_0 false _ ?side1 ?side2 ?side3 ?side4 A4.out).mono ?_); (case side1 => exact cbQ HB.out HR0_0.out); (case side2 => exact HC0_0.out); (case side3 => exact cbQ HB.out HR1_0.out); (case side4 => exact HC1_0.out); rintro e w' ⟨rfl, ⟨nd, rfl⟩⟩))
   go_ret
   exact ⟨by first | rfl | (simp [errW_none, errW_some] <;> rfl) | (simp [*, errW_none, errW_some] <;> rfl), by repeat with_reducible first | exact HB.out | apply pw_below_drewN | apply below_drew1 | refine below_set ?_ GE407.out | refine below_set ?_ GE408.out⟩
 ·
  rw [if_neg c3] at H
  have c3b0 : (a0_1 == a1_1) = false := beq_eq_false_iff_ne.mpr c3
  have c3b1 : (a0_1 != a1_1) = true := bne_iff_ne.mpr c3
  obtain rfl := Option.some.inj H
  go_enter Tryd.func26, Tryd.ntmps26
  go_wp2_with (first | ((with_reducible refine gate_dst (N := 2) rfl ?_); refine box_event ?hg (N := 2) ?hd (cs := #[.slice A0_0 l0_0.length c0_0, .int .i64 a0_1, .slice A0_2 l0_2.length c0_2]) (t := 46) ?hr ?_; (case hd => rfl); (case hg => rfl); (case hr => go_simp; try rfl); intro gb407 hg w17 hbox hb; have BK407 := Aside0.mk (hbox); have GW407 := Aside0.mk (gwQ hg HB.out); have GE407 := Aside0.mk (gwQ hg HB.out); replace HB := Aside0.mk (bsQ hb HB.out); clear hb hbox hg) | ((with_reducible refine gate_dst (N := 3) rfl ?_); refine box_event ?hg (N := 3) ?hd (cs := #[.slice A1_0 l1_0.length c1_0, .int .i64 a1_1, .slice A1_2 l1_2.length c1_2]) (t := 46) ?hr ?_; (case hd => rfl); (case hg => rfl); (case hr => go_simp; try rfl); intro gb408 hg w18 hbox hb; have n0_ := Aside0.mk (bbQ hb BK407.out); have n1_ := Aside0.mk (bs1Q hb (by repeat with_reducible first | exact HB.out | apply pw_below_drewN | apply below_drew1 | refine below_set ?_ GE407.out)); have n2_ := Aside0.mk (hbox); have n3_ := Aside0.mk (gw1Q hg (by repeat with_reducible first | exact HB.out | apply pw_below_drewN | apply below_drew1 | refine below_set ?_ GE407.out)); have n4_ := Aside0.mk (gw1Q hg (by repeat with_reducible first | exact HB.out | apply pw_below_drewN | apply below_drew1 | refine below_set ?_ GE407.out)); have n5_ := Aside0.mk ((by rw [hg]; exact Nat.ne_of_lt (blk_lt (g := gb407) (o := .cells #[.slice A0_0 l0_0.length c0_0, .int .i64 a0_1, .slice A0_2 l0_2.length c0_2] 46 (0, 0)) (by exact BK407.out)) : gb407 ≠ gb408)); have n6_ := Aside0.mk ((by rw [hg]; exact Nat.ne_of_gt (blk_lt (g := gb407) (o := .cells #[.slice A0_0 l0_0.length c0_0, .int .i64 a0_1, .slice A0_2 l0_2.length c0_2] 46 (0, 0)) (by exact BK407.out)) : gb408 ≠ gb407)); clear BK407; clear HB; have BK407 := n0_; have HB := n1_; have BK408 := n2_; have GW408 := n3_; have GE408 := n4_; have NB407_408 := n5_; have NB408_407 := n6_; clear n0_ n1_ n2_ n3_ n4_ n5_ n6_; clear hb hbox hg; have hnb19 := NB407_408.out; have hnc19 := NB408_407.out; obtain ⟨hcz20_0, hcz20_1, hcz20_2⟩ := bcQ3 BK407.out; obtain ⟨hfz20_0, hfz20_1, hfz20_2⟩ := fzQ3 BK407.out; obtain ⟨hcz21_0, hcz21_1, hcz21_2⟩ := bcQ3 BK408.out; obtain ⟨hfz21_0, hfz21_1, hfz21_2⟩ := fzQ3 BK408.out))
  go_ret
  exact ⟨by first | rfl | (simp [errW_none, errW_some] <;> rfl) | (simp [*, errW_none, errW_some] <;> rfl), by repeat with_reducible first | exact HB.out | apply pw_below_drewN | apply below_drew1 | refine below_set ?_ GE407.out | refine below_set ?_ GE408.out⟩

-- NOT PRINTED: function 4 (pleatlaw09_LinkStands)
end Go.Proofs.YtiaohbbafaaibabDoor.P

/- OWN TEXT: what the law of link asks of an image, over plain lists. -/
namespace Go.Proofs.YtiaohbbafaaibabDoor.P
open Go.RowKit Go.Maps Go.Proofs.YtiaohbbafaaibabDoorW.PrintWords Go.Proofs.YtiaohbbafaaibabDoorW.PrintLast Go.Proofs.YtiaohbbafaaibabDoorW.PrintMore Go.Proofs.YtiaohbbafaaibabDoor.Arr Go.Proofs.YtiaohbbafaaibabDoor.MapB Go.Proofs.YtiaohbbafaaibabDoor.SymM
set_option linter.unusedVariables false
set_option linter.unusedSimpArgs false
theorem fillN_len {dat : Nat} {data : List Int} {s : FS} : ∀ (k : Nat) {t : FS}, fillN dat data s k = .ok t → t.ms.length = s.ms.length
  | 0, t, h => by
    obtain rfl : s = t := Except.ok.inj h
    rfl
  | k + 1, t, h => by
    have h : stepN dat data k (fillN dat data s k) = .ok t := h
    cases hf : fillN dat data s k with
    | error a => rw [hf] at h; cases h
    | ok u =>
      rw [hf] at h
      have h : (if u.tk (dat + k) = true then Except.error (dat + k) else Except.ok (⟨fun j => decide (j = dat + k) || u.tk j, u.ms.set (dat + k) (rd data (k : Int))⟩ : FS)) = .ok t := h
      split at h
      · cases h
      · obtain rfl := Except.ok.inj h
        show (u.ms.set _ _).length = _
        rw [List.length_set, fillN_len k hf]
theorem fillL_len {l : List ObjT} {mem : Int} : ∀ (i : Nat) {s : FS}, fillL l mem i = .ok s → s.ms.length = mem.toNat
  | 0, s, h => by
    obtain rfl := Except.ok.inj h
    exact List.length_replicate
  | i + 1, s, h => by
    have h : fillO mem (ob l i) i (fillL l mem i) = .ok s := h
    cases hf : fillL l mem i with
    | error a => rw [hf] at h; cases h
    | ok u =>
      rw [hf] at h
      have h : (if (ob l i).f2 + ((ob l i).f3.length : Int) > mem then Except.error (25, (i : Int), 0) else endO i (fillN (ob l i).f2.toNat (ob l i).f3 u (ob l i).f3.length)) = .ok s := h
      split at h
      · cases h
      · cases hn : fillN (ob l i).f2.toNat (ob l i).f3 u (ob l i).f3.length with
        | error a => rw [hn] at h; cases h
        | ok t =>
          rw [hn] at h
          obtain rfl : t = s := Except.ok.inj h
          rw [fillN_len _ hn, fillL_len i hf]
theorem fillL_ne {l : List ObjT} {mem : Int} : ∀ (i : Nat) {e : Int × Int × Int}, fillL l mem i = .error e → e.1 ≠ 0
  | 0, e, h => by cases h
  | i + 1, e, h => by
    have h : fillO mem (ob l i) i (fillL l mem i) = .error e := h
    cases hf : fillL l mem i with
    | error a =>
      rw [hf] at h
      obtain rfl : a = e := Except.error.inj h
      exact fillL_ne i hf
    | ok u =>
      rw [hf] at h
      have h : (if (ob l i).f2 + ((ob l i).f3.length : Int) > mem then Except.error (25, (i : Int), 0) else endO i (fillN (ob l i).f2.toNat (ob l i).f3 u (ob l i).f3.length)) = .error e := h
      split at h
      · obtain rfl := Except.error.inj h
        show (25 : Int) ≠ 0
        decide
      · cases hn : fillN (ob l i).f2.toNat (ob l i).f3 u (ob l i).f3.length with
        | error a =>
          rw [hn] at h
          obtain rfl := Except.error.inj h
          show (43 : Int) ≠ 0
          decide
        | ok t => rw [hn] at h; cases h
theorem fillR_len {l : List ObjT} {mem : Int} (h : (fillR l mem).2.1 = 0) : (fillR l mem).1.length = mem.toNat := by
 unfold fillR at h ⊢
 cases hf : fillL l mem l.length with
 | error e => rw [hf] at h; exact absurd h (fillL_ne _ hf)
 | ok s => exact fillL_len _ hf
theorem err_zero {l : List ObjT} {entry : ByteArray} {mem r2 : Int} (h : errL l entry mem r2 = 0) : (0 ≤ mem ∧ mem ≤ 4096) ∧ r2 = 0 ∧ (findR (gObj l l.length) entry).2.2 = true ∧ bigL l = false ∧ (fillR l mem).2.1 = 0 := by
 unfold errL at h
 split at h
 ·
  cases h
 split at h
 ·
  cases h
 split at h
 ·
  rename_i hz; exact absurd h hz
 split at h
 ·
  cases h
 split at h
 ·
  cases h
 rename_i h1 h2 h3 h4 h5
 exact ⟨⟨by omega, by omega⟩, by simpa using h3, by simpa using h4, by simpa using h5, h⟩
theorem img_ok {T : List Int} {en : Int} {M : List Int} (h0 : 0 < T.length) (h1 : T.length ≤ 16384) (hm : M.length ≤ 4096) (e0 : 0 ≤ en) (e1 : en < (T.length : Int)) (hw : ∀ p : Nat, p < T.length → (0 ≤ rd T (p : Int) ∧ rd T (p : Int) < 4294967296) ∧ ((tgtS (rd T (p : Int))).2 = true → (tgtS (rd T (p : Int))).1 < (T.length : Int))) (hl : rd T ((T.length - 1 : Nat) : Int) = 0) : Ev (fun k => image_Check.f k T en M) (0, 0) := by
 unfold image_Check.f
 refine Ev.iteF (by omega) (Ev.iteF (by omega) (Ev.iteF (by omega) (Ev.iteF (by omega) (Ev.iteF (by omega) ?_))))
 refine Ev.countE (g := fun k i => image_Check.l0 k (T.length : Int) T (T.length : Int) i T en M) (n := T.length) (fun i hi ih => ?_) ?_
 ·
  refine Ev.succ ?_
  simp only [image_Check.l0]
  have hwi := hw i hi
  refine Ev.iteT (by omega) (Ev.iteT (by omega) (Ev.iteT (by omega) (Ev.bind (tgt1 hwi.1.1 hwi.1.2) (Ev.ite2 (fun ht => Ev.iteF (by have := hwi.2 ht; omega) ?_) (fun _ => ?_)))))
  ·
   rw [show wrap64 ((i : Int) + 1) = ((i + 1 : Nat) : Int) from by rw [wrap64_id (by omega) (by omega)]; rfl]
   exact ih
  ·
   rw [show wrap64 ((i : Int) + 1) = ((i + 1 : Nat) : Int) from by rw [wrap64_id (by omega) (by omega)]; rfl]
   exact ih
 ·
  refine Ev.succ ?_
  simp only [image_Check.l0]
  have hx : wrap64 ((T.length : Int) - 1) = ((T.length - 1 : Nat) : Int) := by rw [wrap64_id (by omega) (by omega)]; omega
  rw [hx, hl]
  refine Ev.iteF (by omega) (Ev.iteT (by omega) (Ev.iteT (by omega) (Ev.bind (dec1 (w := 0) (by decide) (by decide)) (Ev.iteT (by kernel_rfl) (Ev.val rfl)))))
theorem copyImgE {T : List Int} {en : Int} {M : List Int} (h1 : T.length ≤ 16384) (hm : M.length ≤ 4096) : pleatref00_CopyImage.f T en M = some (T, en, M) := by
 unfold pleatref00_CopyImage.f pleatref00_CopyWords.f pleatref00_CopyLongs.f
 simp only [List.length_nil, Nat.zero_add, List.nil_append]
 rw [if_pos (by omega), if_pos (by omega)]
 rfl
theorem eqImgE {T : List Int} {en : Int} {M : List Int} (h1 : T.length ≤ 16384) (hm : M.length ≤ 4096) : Ev (fun k => pleatref00_EqImage.f k T en M T en M) true := by
 unfold pleatref00_EqImage.f
 exact Ev.iteT rfl (Ev.bind (eqWordsE T (by omega)) (Ev.iteT rfl (Ev.bind (eqLongsE M (by omega)) (Ev.val rfl))))
structure Std (l : List ObjT) (d : List (List DefT)) (entry : ByteArray) (mem : Int) (T M : List Int) (en : Int) (o : Nat) (a : Int) : Prop where
  lk : LinkOK l d
  big : bigL l = false
  m0 : 0 ≤ mem ∧ mem ≤ 4096
  fd : findR (gObj l l.length) entry = ((o : Int), a, true)
  ol : o < l.length
  a0 : 0 ≤ a ∧ a ≤ ((ob l o).f1.length : Int)
  tx : T = relT l d l.length
  tl : T.length = baseL l l.length
  t0 : 0 < T.length ∧ T.length ≤ 16384
  ml : (M.length : Int) = mem
  ent : en = (baseL l o : Int) + a
  bs : basesR l = (BL l, 0)
  img : Ev (fun k => image_Check.f k T en M) (0, 0)
theorem std_of {l : List ObjT} {d : List (List DefT)} {entry : ByteArray} {mem r2 r3 r4 : Int} (hS : Small l) (hres : resolveR l = some (d, r2, r3, r4)) (he : errL l entry mem r2 = 0) : r2 = 0 ∧ ∃ o a, Std l d entry mem (txtL l d entry mem r2) (memL l entry mem r2) (entL l entry mem r2) o a := by
 obtain ⟨hm, hr, hf, hb, hfl⟩ := err_zero he
 subst hr
 have hL := linkOK_of hS hres
 obtain ⟨o, a, e, ho, a0, a1⟩ := find_dst hL.fine hf
 have hT : txtL l d entry mem 0 = relT l d l.length := by unfold txtL; rw [if_neg (by rw [he]; decide)]
 have hM : memL l entry mem 0 = (fillR l mem).1 := by unfold memL; rw [if_neg (by rw [he]; decide)]
 have hE : entL l entry mem 0 = (baseL l o : Int) + a := by
  unfold entL
  rw [if_neg (by rw [he]; decide), e]
  show (baseL l ((o : Int)).toNat : Int) + a = _
  rw [Int.toNat_natCast]
 have hbo := big_not hb ho
 have hlt := baseL_lt (l := l) ho
 have htl : (relT l d l.length).length = baseL l l.length := relT_len l d l.length
 have hlen : baseL l l.length ≤ 16384 := by
  have h1 := big_not hb (i := l.length - 1) (by omega)
  have h2 := baseL_succ l (l.length - 1)
  rw [show l.length - 1 + 1 = l.length by omega] at h2
  omega
 have hml : (fillR l mem).1.length = mem.toNat := fillR_len hfl
 refine ⟨rfl, o, a, hL, hb, hm, e, ho, ⟨a0, a1⟩, hT, by rw [hT, htl], by rw [hT, htl]; omega, by rw [hM, hml]; omega, hE, ?_, ?_⟩
 ·
  unfold basesR BL
  rw [if_neg (by have := hL.len; omega), if_neg (by rw [hb]; decide)]
 ·
  rw [hT, hM, hE]
  refine img_ok (by omega) (by omega) (by omega) (by omega) (by rw [htl]; omega) (fun p hp => ?_) ?_
  ·
   have h := all_words hL hb (p := p) (by omega)
   rw [htl]
   exact h
  ·
   rw [htl]
   exact last_trap hL (by omega)
end Go.Proofs.YtiaohbbafaaibabDoor.P

/- What the Go functions named below come to, as plain functions, each with its proof; written by this session's prt.py over the kit's print. -/
namespace Go.Proofs.YtiaohbbafaaibabDoor.P
open Go.RowKit Go.Proofs.YtiaohbbafaaibabDoorW.PrintWords Go.Proofs.YtiaohbbafaaibabDoorW.PrintLast Go.Proofs.YtiaohbbafaaibabDoorW.PrintMore
attribute [local go_sem] max2_int min2_int max_two min_two max_three min_three max_four min_four   -- for this text's walks alone
set_option linter.unusedVariables false
set_option linter.unusedSimpArgs false
mutual
def pleatref00_SizeObjects.l0 : Nat → List (S27) → Int → Int → Option (Int)
 | 0, _, _, _ => none
 | k + 1, x0, x3, x4 => if x4 < (x0.length : Int) then (pleatref00_SizeObjects.j1 k x0 x3 x4 (decide (x3 ≤ 2147483647))) else (pleatref00_SizeObjects.j1 k x0 x3 x4 false)
def pleatref00_SizeObjects.j1 : Nat → List (S27) → Int → Int → Bool → Option (Int)
 | 0, _, _, _, _ => none
 | k + 1, x0, x3, x4, x15 => if x15 = true then (if 0 ≤ x4 then (if x4 < (x0.length : Int) then (pleatref00_SizeObjects.l1 k x0 (wrap64 ((wrap64 ((wrap64 ((wrap64 ((wrap64 (x3 + (((rd_T27 x0 x4).f0).size : Int))) + (wrap64 (4 * (((rd_T27 x0 x4).f1).length : Int))))) + (wrap64 (8 * (((rd_T27 x0 x4).f3).length : Int))))) + (((rd_T27 x0 x4).f5).length : Int))) + (((rd_T27 x0 x4).f4).length : Int))) x4 0) else (none)) else (none)) else (some x3)
def pleatref00_SizeObjects.l1 : Nat → List (S27) → Int → Int → Int → Option (Int)
 | 0, _, _, _, _ => none
 | k + 1, x0, x3, x4, x5 => if 0 ≤ x4 then (if x4 < (x0.length : Int) then (if x5 < (((rd_T27 x0 x4).f4).length : Int) then (if x3 ≤ 2147483647 then (if 0 ≤ x5 then (pleatref00_SizeObjects.l1 k x0 (wrap64 (x3 + (((rd_T75 ((rd_T27 x0 x4).f4) x5).f0).size : Int))) x4 (wrap64 (x5 + 1))) else (none)) else (pleatref00_SizeObjects.l0 k x0 x3 (wrap64 (x4 + 1)))) else (pleatref00_SizeObjects.l0 k x0 x3 (wrap64 (x4 + 1)))) else (none)) else (none)
end
def pleatref00_SizeObjects.f (k : Nat) (l0 : List (S27)) : Option (Int) := pleatref00_SizeObjects.l0 k l0 (l0.length : Int) 0
theorem pleatref00_SizeObjects.mono_l : ∀ k, (∀ y0 y1 y2, LeO (pleatref00_SizeObjects.l0 k y0 y1 y2) (pleatref00_SizeObjects.l0 (k + 1) y0 y1 y2)) ∧ (∀ y0 y1 y2 y3, LeO (pleatref00_SizeObjects.j1 k y0 y1 y2 y3) (pleatref00_SizeObjects.j1 (k + 1) y0 y1 y2 y3)) ∧ (∀ y0 y1 y2 y3, LeO (pleatref00_SizeObjects.l1 k y0 y1 y2 y3) (pleatref00_SizeObjects.l1 (k + 1) y0 y1 y2 y3))
 | 0 => ⟨fun _ _ _ r h => by simp [pleatref00_SizeObjects.l0] at h, fun _ _ _ _ r h => by simp [pleatref00_SizeObjects.j1] at h, fun _ _ _ _ r h => by simp [pleatref00_SizeObjects.l1] at h⟩
 | k + 1 => by
  obtain ⟨ih0, ih1, ih2⟩ := pleatref00_SizeObjects.mono_l k
  refine ⟨?_, ?_, ?_⟩
  ·
   intro y0 y1 y2
   unfold pleatref00_SizeObjects.l0
   repeat' first
   | (with_reducible first | exact ih0 _ _ _ | exact ih1 _ _ _ _ | exact ih2 _ _ _ _ | exact LeO.refl _ | exact LeO.none _ | refine LeO.ite ?_ ?_ | refine LeO.bind ?_ (fun _ => ?_))
  ·
   intro y0 y1 y2 y3
   unfold pleatref00_SizeObjects.j1
   repeat' first
   | (with_reducible first | exact ih0 _ _ _ | exact ih1 _ _ _ _ | exact ih2 _ _ _ _ | exact LeO.refl _ | exact LeO.none _ | refine LeO.ite ?_ ?_ | refine LeO.bind ?_ (fun _ => ?_))
  ·
   intro y0 y1 y2 y3
   unfold pleatref00_SizeObjects.l1
   repeat' first
   | (with_reducible first | exact ih0 _ _ _ | exact ih1 _ _ _ _ | exact ih2 _ _ _ _ | exact LeO.refl _ | exact LeO.none _ | refine LeO.ite ?_ ?_ | refine LeO.bind ?_ (fun _ => ?_))
theorem pleatref00_SizeObjects.mono : ∀ a0 k, LeO (pleatref00_SizeObjects.f k a0) (pleatref00_SizeObjects.f (k + 1) a0) := by
 intro a0 k
 obtain ⟨ih0, ih1, ih2⟩ := pleatref00_SizeObjects.mono_l k
 unfold pleatref00_SizeObjects.f
 repeat' first
   | (with_reducible first | exact ih0 _ _ _ | exact ih1 _ _ _ _ | exact ih2 _ _ _ _ | exact LeO.refl _ | exact LeO.none _ | refine LeO.ite ?_ ?_ | refine LeO.bind ?_ (fun _ => ?_))
set_option maxHeartbeats 8000000 in
set_option maxRecDepth 100000 in
theorem pleatref00_SizeObjects.calls (k : Nat) (A0 : Option Addr) (c0 : Nat) (l0 : List (S27)) (r : Int) (w : World) (hr0 : Kd.C k27 w A0 l0.length l0) (hc0 : l0.length ≤ c0) (h : pleatref00_SizeObjects.f k l0 = some r) :
  Calls Tryd.prog 58 #[.slice A0 l0.length c0] w fun e w' => e = .returned (.int .i64 r) ∧ Drawn0 w w' := by
 have HR0 := Aside0.mk hr0
 have HC0 := Aside0.mk hc0
 clear hr0 hc0
 have H : (pleatref00_SizeObjects.l0 k l0 (l0.length : Int) 0) = some r := h
 clear h
 have H' := Aside0.mk H
 clear H
 go_enter Tryd.func58, Tryd.ntmps58
 go_wp2
 repeat (go_quiet (fail); try go_wp2)
 go_loopg [3, 4] k (fun kq v3 v4 w' => ∃ (x3_1 : Int) (x4_1 : Int), v3 = .int .i64 x3_1 ∧ v4 = .int .i64 x4_1 ∧ Aside0 (pleatref00_SizeObjects.l0 kq l0 x3_1 x4_1 = some r) ∧ Aside0 (kq ≤ k) ∧ Drawn0 w w')
 case atStart => exact ⟨((l0.length : Int)), (0), (by first | rfl | (simp; done) | (simp [*]; done)), (by first | rfl | (simp; done) | (simp [*]; done)), H', ⟨Nat.le_refl _⟩, by repeat (first | exact Drawn0.refl _ | apply Drawn0.step)⟩
 case round =>
  clear H'
  obtain ⟨x3_1, x4_1, rfl, rfl, HA, HK1, ⟨m1, rfl⟩⟩ := hrel
  cases gk with
  | zero => exact absurd HA.out (by simp [pleatref00_SizeObjects.l0])
  | succ k1 =>
   have H := HA.out
   clear HA
   simp only [pleatref00_SizeObjects.l0] at H
   have HC2 := Aside0.mk H
   clear H
   go_upto_region 3 with (fail)
   repeat (go_quiet (fail); go_upto_region 3 with (fail))
   go_cut [15] (fun v15 wc => ∃ (kq : Nat) (x15_1 : Bool), v15 = .bool x15_1 ∧ Aside0 (pleatref00_SizeObjects.j1 kq l0 x3_1 x4_1 x15_1 = some r) ∧ Aside0 (kq ≤ k1) ∧ Drawn0 w wc)
   case first =>
    have H := HC2.out
    clear HC2
    by_cases c3 : x4_1 < (l0.length : Int)
    ·
     rw [if_pos c3] at H
     have c3b0 : decide (x4_1 < (l0.length : Int)) = true := decide_eq_true c3
     clear c3
     (first | rw [c3b0] | (simp only [i64_w, i32_w]; rw [c3b0]) | skip)
     have H' := Aside0.mk H
     clear H
     go_wp2
     repeat (go_quiet (fail); try go_wp2)
     go_meet
     case rel => exact ⟨_, (decide (x3_1 ≤ 2147483647)), (by first | rfl | (simp; done) | (simp [*]; done)), H', ⟨by have := HK1.out; first | omega | exact Nat.le_refl _⟩, by repeat (first | exact Drawn0.refl _ | apply Drawn0.step)⟩
    ·
     rw [if_neg c3] at H
     have c3b0 : decide (x4_1 < (l0.length : Int)) = false := decide_eq_false c3
     clear c3
     (first | rw [c3b0] | (simp only [i64_w, i32_w]; rw [c3b0]) | skip)
     have H' := Aside0.mk H
     clear H
     go_wp2
     repeat (go_quiet (fail); try go_wp2)
     go_meet
     case rel => exact ⟨_, (false), (by first | rfl | (simp; done) | (simp [*]; done)), H', ⟨by have := HK1.out; first | omega | exact Nat.le_refl _⟩, by repeat (first | exact Drawn0.refl _ | apply Drawn0.step)⟩
   case rest =>
    clear HC2
    try clear p2
    try clear c3
    try clear c3b0
    obtain ⟨kq, x15_1, rfl, HA, HJ1, ⟨mc1, rfl⟩⟩ := hcut
    cases kq with
    | zero => exact absurd HA.out (by simp [pleatref00_SizeObjects.j1])
    | succ kj1 =>
     have H := HA.out
     clear HA
     simp only [pleatref00_SizeObjects.j1] at H
     by_cases c4 : x15_1 = true
     ·
      subst c4
      rw [if_pos rfl] at H
      by_cases c5 : 0 ≤ x4_1
      ·
       rw [if_pos c5] at H
       have c5b0 : decide (0 ≤ x4_1) = true := decide_eq_true c5
       clear c5
       by_cases c6 : x4_1 < (l0.length : Int)
       ·
        rw [if_pos c6] at H
        have c6b0 : decide (x4_1 < (l0.length : Int)) = true := decide_eq_true c6
        clear c6
        have H' := Aside0.mk H
        clear H
        have p331 : 0 ≤ (x4_1 : Int) := of_decide_eq_true ‹_›
        have q331 : x4_1 < (l0.length : Int) := of_decide_eq_true ‹_›
        obtain ⟨ad331, A331_1, c331_1, A331_3, c331_3, A331_4, c331_4, A331_5, c331_5, e331, hx331_0, hx331_1, hx331_2, hx331_3, hx331_4, hx331_5, -, -, -, -, -, -, -, -⟩ := at_T27 HR0.out x4_1 p331 q331
        cases e331
        replace p331 := eq_true p331
        replace q331 := eq_true q331
        go_wp2
        repeat (go_quiet (fail); try go_wp2)
        go_loopg [3, 5] kj1 (fun kq v3 v5 w' => ∃ (x3_3 : Int) (x5_3 : Int), v3 = .int .i64 x3_3 ∧ v5 = .int .i64 x5_3 ∧ Aside0 (pleatref00_SizeObjects.l1 kq l0 x3_3 x4_1 x5_3 = some r) ∧ Aside0 (kq ≤ kj1) ∧ Drawn0 w w')
        case atStart => exact ⟨(wrap64 ((wrap64 ((wrap64 ((wrap64 ((wrap64 (x3_1 + (((rd_T27 l0 x4_1).f0).size : Int))) + (wrap64 (4 * (((rd_T27 l0 x4_1).f1).length : Int))))) + (wrap64 (8 * (((rd_T27 l0 x4_1).f3).length : Int))))) + (((rd_T27 l0 x4_1).f5).length : Int))) + (((rd_T27 l0 x4_1).f4).length : Int))), (0), (by first | rfl | (simp; done) | (simp [*]; done)), (by first | rfl | (simp; done) | (simp [*]; done)), H', ⟨Nat.le_refl _⟩, by repeat (first | exact Drawn0.refl _ | apply Drawn0.step)⟩
        case round =>
         clear H'
         try clear c1
         try clear p2
         try clear c3
         try clear c3b0
         try clear p3
         try clear q3
         try clear hx3
         try clear c4
         try clear c5
         try clear c5b0
         try clear c6
         try clear c6b0
         try clear p6
         try clear hx331_0
         try clear hx331_1
         try clear hx331_2
         try clear hx331_3
         try clear hx331_4
         try clear hx331_5
         try clear hx331_0
         try clear hx331_1
         try clear hx331_2
         try clear hx331_3
         try clear hx331_4
         try clear hx331_5
         try clear hx331_0
         try clear hx331_1
         try clear hx331_2
         try clear hx331_3
         try clear hx331_4
         try clear hx331_5
         try clear hx331_0
         try clear hx331_1
         try clear hx331_2
         try clear hx331_3
         try clear hx331_4
         try clear hx331_5
         try clear hx331_0
         try clear hx331_1
         try clear hx331_2
         try clear hx331_3
         try clear hx331_4
         try clear hx331_5
         try clear p2
         try clear p331
         try clear p331
         try clear p331
         try clear p331
         try clear p331
         try clear q331
         try clear q331
         try clear q331
         try clear q331
         try clear q331
         obtain ⟨x3_3, x5_3, rfl, rfl, HA, HK3, ⟨m3, rfl⟩⟩ := hrel
         cases gk with
         | zero => exact absurd HA.out (by simp [pleatref00_SizeObjects.l1])
         | succ k3 =>
          have H := HA.out
          clear HA
          simp only [pleatref00_SizeObjects.l1] at H
          by_cases c7 : 0 ≤ x4_1
          ·
           rw [if_pos c7] at H
           have c7b0 : decide (0 ≤ x4_1) = true := decide_eq_true c7
           clear c7
           by_cases c8 : x4_1 < (l0.length : Int)
           ·
            rw [if_pos c8] at H
            have c8b0 : decide (x4_1 < (l0.length : Int)) = true := decide_eq_true c8
            clear c8
            by_cases c9 : x5_3 < (((rd_T27 l0 x4_1).f4).length : Int)
            ·
             rw [if_pos c9] at H
             have c9b0 : decide (x5_3 < (((rd_T27 l0 x4_1).f4).length : Int)) = true := decide_eq_true c9
             clear c9
             by_cases c10 : x3_3 ≤ 2147483647
             ·
              rw [if_pos c10] at H
              have c10b0 : decide (x3_3 ≤ 2147483647) = true := decide_eq_true c10
              clear c10
              by_cases c11 : 0 ≤ x5_3
              ·
               rw [if_pos c11] at H
               have c11b0 : decide (0 ≤ x5_3) = true := decide_eq_true c11
               clear c11
               have H' := Aside0.mk H
               clear H
               have p336 : 0 ≤ (x4_1 : Int) := of_decide_eq_true ‹_›
               have q336 : x4_1 < (l0.length : Int) := of_decide_eq_true ‹_›
               obtain ⟨ad336, A336_1, c336_1, A336_3, c336_3, A336_4, c336_4, A336_5, c336_5, e336, hx336_0, hx336_1, hx336_2, hx336_3, hx336_4, hx336_5, -, -, -, -, -, -, -, -⟩ := at_T27 HR0.out x4_1 p336 q336
               obtain rfl : ad331 = ad336 := (by injection e336)
               replace p336 := eq_true p336
               replace q336 := eq_true q336
               have p337 : 0 ≤ (x4_1 : Int) := of_decide_eq_true ‹_›
               have q337 : x4_1 < (l0.length : Int) := of_decide_eq_true ‹_›
               obtain ⟨ad337, A337_1, c337_1, A337_3, c337_3, A337_4, c337_4, A337_5, c337_5, e337, hx337_0, hx337_1, hx337_2, hx337_3, hx337_4, hx337_5, -, -, -, -, hl337_4, hi337_4, -, -⟩ := at_T27 HR0.out x4_1 p337 q337
               obtain rfl : ad331 = ad337 := (by injection e337)
               have HR337_4 := Aside0.mk hi337_4
               have HC337_4 := Aside0.mk hl337_4
               clear hi337_4 hl337_4
               replace p337 := eq_true p337
               replace q337 := eq_true q337
               have ea_ := Option.some.inj (hx336_1.symm.trans hx337_1)
               injection ea_ with ea_ en_ ec_
               subst ea_
               subst ec_
               clear en_
               have ea_ := Option.some.inj (hx336_3.symm.trans hx337_3)
               injection ea_ with ea_ en_ ec_
               subst ea_
               subst ec_
               clear en_
               have ea_ := Option.some.inj (hx336_4.symm.trans hx337_4)
               injection ea_ with ea_ en_ ec_
               subst ea_
               subst ec_
               clear en_
               have ea_ := Option.some.inj (hx336_5.symm.trans hx337_5)
               injection ea_ with ea_ en_ ec_
               subst ea_
               subst ec_
               clear en_
               have p338 : 0 ≤ (x5_3 : Int) := of_decide_eq_true ‹_›
               have q338 : x5_3 < (((rd_T27 l0 x4_1).f4).length : Int) := of_decide_eq_true ‹_›
               obtain ⟨ad338, e338, hx338_0, hx338_1, hx338_2⟩ := at_T75 HR337_4.out x5_3 p338 q338
               cases e338
               replace p338 := eq_true p338
               replace q338 := eq_true q338
               go_wp2
               repeat (go_quiet (fail); try go_wp2)
               go_roundg k3
               case measure => have := HK1.out; have := HJ1.out; have := HK3.out; omega
               case rel => exact ⟨(wrap64 (x3_3 + (((rd_T75 ((rd_T27 l0 x4_1).f4) x5_3).f0).size : Int))), (wrap64 (x5_3 + 1)), (by first | rfl | (simp; done) | (simp [*]; done)), (by first | rfl | (simp; done) | (simp [*]; done)), H', ⟨by have := HK1.out; have := HJ1.out; have := HK3.out; omega⟩, by repeat (first | exact Drawn0.refl _ | apply Drawn0.step)⟩
              ·
               rw [if_neg c11] at H
               exact absurd H (by simp)
             ·
              rw [if_neg c10] at H
              have c10b0 : decide (x3_3 ≤ 2147483647) = false := decide_eq_false c10
              clear c10
              have H' := Aside0.mk H
              clear H
              have p336 : 0 ≤ (x4_1 : Int) := of_decide_eq_true ‹_›
              have q336 : x4_1 < (l0.length : Int) := of_decide_eq_true ‹_›
              obtain ⟨ad336, A336_1, c336_1, A336_3, c336_3, A336_4, c336_4, A336_5, c336_5, e336, hx336_0, hx336_1, hx336_2, hx336_3, hx336_4, hx336_5, -, -, -, -, -, -, -, -⟩ := at_T27 HR0.out x4_1 p336 q336
              obtain rfl : ad331 = ad336 := (by injection e336)
              replace p336 := eq_true p336
              replace q336 := eq_true q336
              go_wp2
              repeat (go_quiet (fail); try go_wp2)
              go_roundg k3
              case measure => have := HK1.out; have := HJ1.out; have := HK3.out; omega
              case rel => exact ⟨(x3_3), (wrap64 (x4_1 + 1)), (by first | rfl | (simp; done) | (simp [*]; done)), (by first | rfl | (simp; done) | (simp [*]; done)), H', ⟨by have := HK1.out; have := HJ1.out; have := HK3.out; omega⟩, by repeat (first | exact Drawn0.refl _ | apply Drawn0.step)⟩
            ·
             rw [if_neg c9] at H
             have c9b0 : decide (x5_3 < (((rd_T27 l0 x4_1).f4).length : Int)) = false := decide_eq_false c9
             clear c9
             have H' := Aside0.mk H
             clear H
             have p336 : 0 ≤ (x4_1 : Int) := of_decide_eq_true ‹_›
             have q336 : x4_1 < (l0.length : Int) := of_decide_eq_true ‹_›
             obtain ⟨ad336, A336_1, c336_1, A336_3, c336_3, A336_4, c336_4, A336_5, c336_5, e336, hx336_0, hx336_1, hx336_2, hx336_3, hx336_4, hx336_5, -, -, -, -, -, -, -, -⟩ := at_T27 HR0.out x4_1 p336 q336
             obtain rfl : ad331 = ad336 := (by injection e336)
             replace p336 := eq_true p336
             replace q336 := eq_true q336
             go_wp2
             repeat (go_quiet (fail); try go_wp2)
             go_roundg k3
             case measure => have := HK1.out; have := HJ1.out; have := HK3.out; omega
             case rel => exact ⟨(x3_3), (wrap64 (x4_1 + 1)), (by first | rfl | (simp; done) | (simp [*]; done)), (by first | rfl | (simp; done) | (simp [*]; done)), H', ⟨by have := HK1.out; have := HJ1.out; have := HK3.out; omega⟩, by repeat (first | exact Drawn0.refl _ | apply Drawn0.step)⟩
           ·
            rw [if_neg c8] at H
            exact absurd H (by simp)
          ·
           rw [if_neg c7] at H
           exact absurd H (by simp)
       ·
        rw [if_neg c6] at H
        exact absurd H (by simp)
      ·
       rw [if_neg c5] at H
       exact absurd H (by simp)
     ·
      replace c4 := Bool.eq_false_iff.mpr c4
      subst c4
      rw [if_neg Bool.false_ne_true] at H
      obtain rfl := Option.some.inj H
      go_wp2
      repeat (go_quiet (fail); try go_wp2)
      go_ret
      exact ⟨by first | rfl | (simp; done) | (simp [*]; done), by repeat (first | exact Drawn0.refl _ | apply Drawn0.step)⟩


def pleatlaw09_heavy.f (k : Nat) (l0 : List (S27)) : Option (Bool) := if (l0.length : Int) > 64 then (some true) else ((pleatref00_SizeObjects.f k l0).bind fun t339 => ((pleatref00_Long.f t339).bind fun t340 => (if t340 = true then (some true) else ((pleatref00_SizeObjects.f k l0).bind fun t341 => (some (decide (t341 > 524288)))))))
theorem pleatlaw09_heavy.mono : ∀ a0 k, LeO (pleatlaw09_heavy.f k a0) (pleatlaw09_heavy.f (k + 1) a0) := by
 intro a0 k
 unfold pleatlaw09_heavy.f
 repeat' first
   | (with_reducible first | exact pleatref00_SizeObjects.mono _ _ | exact LeO.refl _ | exact LeO.none _ | refine LeO.ite ?_ ?_ | refine LeO.bind ?_ (fun _ => ?_))
set_option maxHeartbeats 8000000 in
set_option maxRecDepth 100000 in
theorem pleatlaw09_heavy.calls (k : Nat) (A0 : Option Addr) (c0 : Nat) (l0 : List (S27)) (r : Bool) (w : World) (hr0 : Kd.C k27 w A0 l0.length l0) (hc0 : l0.length ≤ c0) (h : pleatlaw09_heavy.f k l0 = some r) :
  Calls Tryd.prog 14 #[.slice A0 l0.length c0] w fun e w' => e = .returned (.bool r) ∧ Drawn0 w w' := by
 have HR0 := Aside0.mk hr0
 have HC0 := Aside0.mk hc0
 clear hr0 hc0
 have H : (if (l0.length : Int) > 64 then (some true) else ((pleatref00_SizeObjects.f k l0).bind fun t339 => ((pleatref00_Long.f t339).bind fun t340 => (if t340 = true then (some true) else ((pleatref00_SizeObjects.f k l0).bind fun t341 => (some (decide (t341 > 524288)))))))) = some r := h
 clear h
 by_cases c2 : (l0.length : Int) > 64
 ·
  rw [if_pos c2] at H
  have c2b0 : decide (64 < (l0.length : Int)) = true := decide_eq_true c2
  have c2b1 : decide (64 < l0.length) = true := decide_eq_true (by omega)
  clear c2
  obtain rfl := Option.some.inj H
  go_enter Tryd.func14, Tryd.ntmps14
  go_wp2
  go_ret
  exact ⟨by first | rfl | (simp; done) | (simp [*]; done), by repeat (first | exact Drawn0.refl _ | apply Drawn0.step)⟩
 ·
  rw [if_neg c2] at H
  have c2b0 : decide (64 < (l0.length : Int)) = false := decide_eq_false c2
  have c2b1 : decide (64 < l0.length) = false := decide_eq_false (by omega)
  clear c2
  replace H := Option.bind_eq_some_iff.mp H
  obtain ⟨t339, A30, H⟩ := H
  try dsimp only at H
  have A3 := Aside0.mk A30
  clear A30
  replace H := Option.bind_eq_some_iff.mp H
  obtain ⟨t340, A40, H⟩ := H
  try dsimp only at H
  have A4 := Aside0.mk A40
  clear A40
  by_cases c5 : t340 = true
  ·
   subst c5
   rw [if_pos rfl] at H
   obtain rfl := Option.some.inj H
   go_enter Tryd.func14, Tryd.ntmps14
   go_wp2_with (first | (go_at_call 58; (with_reducible refine (pleatref00_SizeObjects.calls k _ _ l0 t339 _ ?side1 ?side2 A3.out).mono ?_); (case side1 => repeat (first | exact HR0.out | (with_reducible refine Kd.C_alloc ?_ _) | (with_reducible refine Kd.C_drewN ?_ _) | (with_reducible refine Kd.C_drew ?_))); (case side2 => exact HC0.out); rintro e w' ⟨rfl, ⟨nd, rfl⟩⟩) | (go_at_call 57; (with_reducible refine (pleatref00_Long.calls t339 true _ A4.out).mono ?_); rintro e w' ⟨rfl, ⟨nd, rfl⟩⟩))
   go_ret
   exact ⟨by first | rfl | (simp; done) | (simp [*]; done), by repeat (first | exact Drawn0.refl _ | apply Drawn0.step)⟩
  ·
   replace c5 := Bool.eq_false_iff.mpr c5
   subst c5
   rw [if_neg Bool.false_ne_true] at H
   replace H := Option.bind_eq_some_iff.mp H
   obtain ⟨t341, A60, H⟩ := H
   try dsimp only at H
   have A6 := Aside0.mk A60
   clear A60
   obtain rfl := Option.some.inj H
   go_enter Tryd.func14, Tryd.ntmps14
   go_wp2_with (first | (go_at_call 58; (with_reducible refine (pleatref00_SizeObjects.calls k _ _ l0 t339 _ ?side1 ?side2 A3.out).mono ?_); (case side1 => repeat (first | exact HR0.out | (with_reducible refine Kd.C_alloc ?_ _) | (with_reducible refine Kd.C_drewN ?_ _) | (with_reducible refine Kd.C_drew ?_))); (case side2 => exact HC0.out); rintro e w' ⟨rfl, ⟨nd, rfl⟩⟩) | (go_at_call 57; (with_reducible refine (pleatref00_Long.calls t339 false _ A4.out).mono ?_); rintro e w' ⟨rfl, ⟨nd, rfl⟩⟩) | (go_at_call 58; (with_reducible refine (pleatref00_SizeObjects.calls k _ _ l0 t341 _ ?side1 ?side2 A6.out).mono ?_); (case side1 => repeat (first | exact HR0.out | (with_reducible refine Kd.C_alloc ?_ _) | (with_reducible refine Kd.C_drewN ?_ _) | (with_reducible refine Kd.C_drew ?_))); (case side2 => exact HC0.out); rintro e w' ⟨rfl, ⟨nd, rfl⟩⟩))
   have hq_ : t341 = t339 := Option.some.inj (A6.out.symm.trans A3.out)
   go_ret
   exact ⟨by first | rfl | (simp; done) | (simp [*]; done), by repeat (first | exact Drawn0.refl _ | apply Drawn0.step)⟩
end Go.Proofs.YtiaohbbafaaibabDoor.P

/- OWN TEXT: what more than a statement looks at is, and copies, over plain lists of objects. -/
set_option linter.unusedVariables false
set_option linter.unusedSimpArgs false
namespace Go.Proofs.YtiaohbbafaaibabDoor.P
open Go.RowKit Go.Maps Go.Proofs.YtiaohbbafaaibabDoorW.PrintWords Go.Proofs.YtiaohbbafaaibabDoorW.PrintLast Go.Proofs.YtiaohbbafaaibabDoorW.PrintMore Go.Proofs.YtiaohbbafaaibabDoor.Arr Go.Proofs.YtiaohbbafaaibabDoor.MapB Go.Proofs.YtiaohbbafaaibabDoor.SymM

structure Bits (l : List ObjT) : Prop where
  nm : ∀ p, p < l.length → (ob l p).f0.size ≤ 140737488351232
  code : ∀ p, p < l.length → (ob l p).f1.length ≤ 140737488351232
  data : ∀ p, p < l.length → (ob l p).f3.length ≤ 140737488351232
  syms : ∀ p, p < l.length → (ob l p).f4.length ≤ 140737488351232
  rels : ∀ p, p < l.length → (ob l p).f5.length ≤ 140737488351232
  names : ∀ p, p < l.length → ∀ q, q < (ob l p).f4.length → (sy (ob l p).f4 q).f0.size ≤ 140737488351232
def Within (l : List ObjT) (r : Int) (p : Nat) : Prop := ((ob l p).f1.length : Int) ≤ r ∧ ((ob l p).f3.length : Int) ≤ r ∧ ((ob l p).f4.length : Int) ≤ r ∧ ((ob l p).f5.length : Int) ≤ r
theorem wrapA {m : Int} {s : Nat} (h0 : 0 ≤ m) (h1 : m ≤ 2147483647) (h3 : s ≤ 140737488351232) : wrap64 (m + (s : Int)) = m + (s : Int) := wrap64_id (by omega) (by omega)
theorem sizes8 {l : List ObjT} (hB : Bits l) (hl : l.length ≤ 1000000) : ∃ r : Int, Ev (fun K => pleatref00_SizeObjects.f K l) r ∧ (r ≤ 2147483647 → ∀ p, p < l.length → Within l r p) := by
 have main : ∀ d p : Nat, ∀ n : Int, p + d = l.length → 0 ≤ n → n ≤ 4000000000000000 → ∃ r : Int, Ev (fun K => pleatref00_SizeObjects.l0 K l n (p : Int)) r ∧ n ≤ r ∧ (r ≤ 2147483647 → ∀ q, p ≤ q → q < l.length → Within l r q) := by
  intro d
  induction d with
  | zero =>
   intro p n hp h0 h1
   refine ⟨n, ?_, Int.le_refl n, fun _ q h2 h3 => by omega⟩
   refine Ev.succ ?_
   simp only [pleatref00_SizeObjects.l0]
   refine Ev.iteF (by omega) ?_
   refine Ev.succ ?_
   simp only [pleatref00_SizeObjects.j1]
   exact Ev.iteF (by decide) (Ev.val rfl)
  | succ d ih =>
   intro p n hp h0 h1
   have hlt : p < l.length := by omega
   by_cases hn : n ≤ 2147483647
   ·
    have b0 := hB.nm p hlt
    have b1 := hB.code p hlt
    have b3 := hB.data p hlt
    have b4 := hB.syms p hlt
    have b5 := hB.rels p hlt
    obtain ⟨n1, hn1⟩ : ∃ n1 : Int, n1 = n + ((ob l p).f0.size : Int) + 4 * ((ob l p).f1.length : Int) + 8 * ((ob l p).f3.length : Int) + ((ob l p).f5.length : Int) + ((ob l p).f4.length : Int) := ⟨_, rfl⟩
    have inner : ∀ e q : Nat, ∀ m : Int, q + e = (ob l p).f4.length → 0 ≤ m → n1 ≤ m → m ≤ 4000000000000000 → ∃ r : Int, Ev (fun K => pleatref00_SizeObjects.l1 K l m (p : Int) (q : Int)) r ∧ m ≤ r ∧ (r ≤ 2147483647 → ∀ q, p + 1 ≤ q → q < l.length → Within l r q) := by
     intro e
     induction e with
     | zero =>
      intro q m hq h0m hm hm2
      obtain ⟨r, h2, h3, h4⟩ := ih (p + 1) m (by omega) h0m hm2
      refine ⟨r, ?_, h3, h4⟩
      refine Ev.succ ?_
      simp only [pleatref00_SizeObjects.l1]
      refine Ev.iteT (by omega) (Ev.iteT (by omega) (Ev.iteF ?_ ?_))
      ·
       show ¬ (q : Int) < ((ob l p).f4.length : Int)
       omega
      ·
       simp only [wrapS hlt (show l.length ≤ 1000000000 by omega)]
       exact h2
     | succ e ihe =>
      intro q m hq h0m hm hm2
      by_cases hm3 : m ≤ 2147483647
      ·
       have bq := hB.names p hlt q (by omega)
       obtain ⟨r, h2, h3, h4⟩ := ihe (q + 1) (m + ((sy (ob l p).f4 q).f0.size : Int)) (by omega) (Int.add_nonneg h0m (Int.natCast_nonneg _)) (by omega) (by omega)
       refine ⟨r, ?_, by omega, h4⟩
       refine Ev.succ ?_
       simp only [pleatref00_SizeObjects.l1]
       refine Ev.iteT (by omega) (Ev.iteT (by omega) (Ev.iteT ?_ (Ev.iteT hm3 (Ev.iteT (by omega) ?_))))
       ·
        show (q : Int) < ((ob l p).f4.length : Int)
        omega
       ·
        have hw : wrap64 ((q : Int) + 1) = ((q + 1 : Nat) : Int) := by rw [wrap64_id (by omega) (by omega)]; rfl
        have hw2 : wrap64 (m + ((rd_T75 (rd_T27 l (p : Int)).f4 (q : Int)).f0.size : Int)) = m + ((sy (ob l p).f4 q).f0.size : Int) := by
         show wrap64 (m + ((sy (ob l p).f4 q).f0.size : Int)) = _
         exact wrapA h0m hm3 bq
        simp only [hw, hw2]
        exact h2
      ·
       obtain ⟨r, h2, h3, h4⟩ := ih (p + 1) m (by omega) h0m hm2
       refine ⟨r, ?_, h3, h4⟩
       refine Ev.succ ?_
       simp only [pleatref00_SizeObjects.l1]
       refine Ev.iteT (by omega) (Ev.iteT (by omega) (Ev.iteT ?_ (Ev.iteF hm3 ?_)))
       ·
        show (q : Int) < ((ob l p).f4.length : Int)
        omega
       ·
        simp only [wrapS hlt (show l.length ≤ 1000000000 by omega)]
        exact h2
    obtain ⟨r, h2, h3, h4⟩ := inner (ob l p).f4.length 0 n1 (by omega) (by omega) (Int.le_refl _) (by omega)
    refine ⟨r, ?_, by omega, fun hr q h5 h6 => ?_⟩
    ·
     refine Ev.succ ?_
     simp only [pleatref00_SizeObjects.l0]
     refine Ev.iteT (by omega) ?_
     simp only [show decide (n ≤ 2147483647) = true from decide_eq_true hn]
     refine Ev.succ ?_
     simp only [pleatref00_SizeObjects.j1]
     refine Ev.iteT (by trivial) (Ev.iteT (by omega) (Ev.iteT (by omega) ?_))
     have hw : wrap64 (wrap64 (wrap64 (wrap64 (wrap64 (n + ((rd_T27 l (p : Int)).f0.size : Int)) + wrap64 (4 * ((rd_T27 l (p : Int)).f1.length : Int))) + wrap64 (8 * ((rd_T27 l (p : Int)).f3.length : Int))) + ((rd_T27 l (p : Int)).f5.length : Int)) + ((rd_T27 l (p : Int)).f4.length : Int)) = n1 := by
      show wrap64 (wrap64 (wrap64 (wrap64 (wrap64 (n + ((ob l p).f0.size : Int)) + wrap64 (4 * ((ob l p).f1.length : Int))) + wrap64 (8 * ((ob l p).f3.length : Int))) + ((ob l p).f5.length : Int)) + ((ob l p).f4.length : Int)) = n1
      rw [wrap64_id (x := n + ((ob l p).f0.size : Int)) (by omega) (by omega), wrap64_id (x := 4 * ((ob l p).f1.length : Int)) (by omega) (by omega), wrap64_id (x := 8 * ((ob l p).f3.length : Int)) (by omega) (by omega), wrap64_id (x := n + ((ob l p).f0.size : Int) + 4 * ((ob l p).f1.length : Int)) (by omega) (by omega), wrap64_id (x := n + ((ob l p).f0.size : Int) + 4 * ((ob l p).f1.length : Int) + 8 * ((ob l p).f3.length : Int)) (by omega) (by omega), wrap64_id (x := n + ((ob l p).f0.size : Int) + 4 * ((ob l p).f1.length : Int) + 8 * ((ob l p).f3.length : Int) + ((ob l p).f5.length : Int)) (by omega) (by omega), hn1, wrap64_id (by omega) (by omega)]
     simp only [hw]
     exact h2
    ·
     by_cases e : q = p
     ·
      subst e
      unfold Within
      omega
     ·
      exact h4 hr q (by omega) h6
   ·
    refine ⟨n, ?_, Int.le_refl n, fun hr => absurd hr (by omega)⟩
    refine Ev.succ ?_
    simp only [pleatref00_SizeObjects.l0]
    refine Ev.iteT (by omega) ?_
    simp only [show decide (n ≤ 2147483647) = false from decide_eq_false hn]
    refine Ev.succ ?_
    simp only [pleatref00_SizeObjects.j1]
    exact Ev.iteF (by decide) (Ev.val rfl)
 obtain ⟨r, h1, h2, h3⟩ := main l.length 0 (l.length : Int) (by omega) (by omega) (by omega)
 exact ⟨r, h1, fun hr p hp => h3 hr p (Nat.zero_le _) hp⟩
theorem heavy9 {l : List ObjT} (hB : Bits l) : ∃ b, Ev (fun K => pleatlaw09_heavy.f K l) b ∧ (b = false → l.length ≤ 64 ∧ ∀ p, p < l.length → Within l 524288 p) := by
 by_cases c : (l.length : Int) > 64
 ·
  refine ⟨true, ?_, fun h => by cases h⟩
  unfold pleatlaw09_heavy.f
  exact Ev.iteT c (Ev.val rfl)
 ·
  obtain ⟨r, h1, h2⟩ := sizes8 hB (by omega)
  by_cases c2 : r > 2147483647
  ·
   refine ⟨true, ?_, fun h => by cases h⟩
   unfold pleatlaw09_heavy.f
   refine Ev.iteF c (Ev.bind h1 (Ev.bind0 (a := true) ?_ (Ev.iteT rfl (Ev.val rfl))))
   unfold pleatref00_Long.f
   rw [decide_eq_true c2]
  ·
   by_cases c3 : r > 524288
   ·
    refine ⟨true, ?_, fun h => by cases h⟩
    unfold pleatlaw09_heavy.f
    refine Ev.iteF c (Ev.bind h1 (Ev.bind0 (a := false) ?_ (Ev.iteF (by decide) (Ev.bind h1 (Ev.val (decide_eq_true c3))))))
    unfold pleatref00_Long.f
    rw [decide_eq_false c2]
   ·
    refine ⟨false, ?_, fun _ => ⟨by omega, fun p hp => ?_⟩⟩
    ·
     unfold pleatlaw09_heavy.f
     refine Ev.iteF c (Ev.bind h1 (Ev.bind0 (a := false) ?_ (Ev.iteF (by decide) (Ev.bind h1 (Ev.val (decide_eq_false c3))))))
     unfold pleatref00_Long.f
     rw [decide_eq_false c2]
    ·
     have := h2 (by omega) p hp
     unfold Within at this ⊢
     omega
theorem copyO9 (nm : ByteArray) (code : List Int) (dat : Int) (data : List Int) (syms : List Sym) (rels : List Rel) (h1 : syms.length ≤ 1048576) (h2 : code.length ≤ 1048576) (h3 : data.length ≤ 1048576) (h4 : rels.length ≤ 1048576) : pleatref00_CopyObject.f nm code dat data syms rels = some (nm, code, dat, data, syms, rels) := by
 unfold pleatref00_CopyObject.f pleatref00_CopyWords.f pleatref00_CopyLongs.f pleatref00_CopySymbols.f pleatref00_CopyRelocs.f
 simp only [List.length_nil, Nat.zero_add, List.nil_append]
 rw [if_pos (by omega), if_pos (by omega), if_pos (by omega), if_pos (by omega)]
 rfl
theorem copy8 {l : List ObjT} (hl : l.length ≤ 1000000) (hW : ∀ p, p < l.length → Within l 524288 p) : Ev (fun K => pleatref00_CopyObjects.f K l) l := by
 have main : ∀ d p : Nat, p + d = l.length → Ev (fun K => pleatref00_CopyObjects.l0 K l (l.take p) (p : Int)) l := by
  intro d
  induction d with
  | zero =>
   intro p hp
   refine Ev.succ (Ev.iteF (by omega) (Ev.val ?_))
   exact List.take_of_length_le (by omega)
  | succ d ih =>
   intro p hp
   have hlt : p < l.length := by omega
   have hw := hW p hlt
   unfold Within at hw
   have hob : ob l p = l[p] := by
    unfold ob rd_T27
    rw [Int.toNat_natCast, List.getD_eq_getElem?_getD, List.getElem?_eq_getElem hlt]
    rfl
   refine Ev.succ (Ev.iteT (by omega) (Ev.iteT (by omega) (Ev.bind0 (copyO9 _ _ _ _ _ _ ?_ ?_ ?_ ?_) (Ev.iteT (by rw [List.length_take]; omega) ?_))))
   ·
    show (ob l p).f4.length ≤ 1048576
    omega
   ·
    show (ob l p).f1.length ≤ 1048576
    omega
   ·
    show (ob l p).f3.length ≤ 1048576
    omega
   ·
    show (ob l p).f5.length ≤ 1048576
    omega
   ·
    simp only [wrapS hlt (show l.length ≤ 1000000000 by omega)]
    have h := ih (p + 1) (by omega)
    rw [List.take_succ_eq_append_getElem hlt, ← hob] at h
    exact h
 exact main l.length 0 (by omega)
theorem small_of {l : List ObjT} (hl : l.length ≤ 64) (hW : ∀ p, p < l.length → Within l 524288 p) (hw : ∀ p, p < l.length → wordsO (ob l p).f1 = true) : Small l := by
 refine ⟨by omega, fun p hp => ?_, fun p hp => ?_, fun p hp => ?_, hw⟩
 all_goals (have h := hW p hp; unfold Within at h; omega)
end Go.Proofs.YtiaohbbafaaibabDoor.P

/- errors.As at the reader's own error: the kit's worked example, turned to this program's numbers. -/
namespace Go.Proofs.YtiaohbbafaaibabDoor.P
open Go.RowKit Go.Extern.Stop Go.Stop Go.Extern

theorem as_nil (t : Value) (w : World) :
  Calls Tryd.prog 38 #[.nilIface, t] w fun e w' => e = .returned (.bool false) ∧ w' = w := by
 go_enter Tryd.func38, Tryd.ntmps38
 go_wp2
 go_ret
 exact ⟨rfl, rfl⟩

theorem As.valueOf27 (t : Addr) (w : World) : (ReflectliteValue.unpack (.iface 90 (.pointer (some t)))).run Tryd.prog w
  = .ok (.agg #[.pointer (some ⟨1, 90, none⟩), .pointer (some ⟨w.heap.size, 0, none⟩), .int .u64 150]) (w.alloc (.cells #[.pointer (some t)] 90)) := by kernel_rfl
theorem As.type27 (a : Addr) (w : World) : (ReflectliteValue.methodAny (ReflectliteValue.valueError "reflectlite.Value.Type" 0) (fun t _ _ _ => ReflectliteType.toType t) #[.agg #[.pointer (some ⟨1, 90, none⟩), .pointer (some a), .int .u64 150]]).run Tryd.prog w
    = .ok (.iface 161 (.agg #[.pointer (some ⟨1, 90, none⟩)])) w := by kernel_rfl
theorem As.methodKind (h : Value) (w : World) : (Go.method 302 161 (.agg #[h]) "Kind").run Tryd.prog w = .ok (97, h) w := by kernel_rfl
theorem As.kind27 (w : World) : ((ReflectliteType.abiMethod fun t => (fun a : Nat => Value.int IntKind.u8 (a : Int)) <$> Rtype.kind t) #[.pointer (some ⟨1, 90, none⟩)]).run Tryd.prog w = .ok (.int .u8 22) w := by kernel_rfl
theorem As.kind25 (w : World) : ((ReflectliteType.abiMethod fun t => (fun a : Nat => Value.int IntKind.u8 (a : Int)) <$> Rtype.kind t) #[.pointer (some ⟨1, 88, none⟩)]).run Tryd.prog w = .ok (.int .u8 22) w := by kernel_rfl

theorem rlm (z : Sem Value) (f : TypeId → Addr → Nat → Nat → Sem Value) (v : Value) :
  ReflectliteValue.method z f #[v] = (do match ← ReflectliteValue.parts v with | none => z | some (t, a, fl) => f t a fl (fl % 32)) := rfl
theorem As.parts27 (a : Addr) (w : World) : (ReflectliteValue.parts (.agg #[.pointer (some ⟨1, 90, none⟩), .pointer (some a), .int .u64 150])).run Tryd.prog w = .ok (some (90, a, 150)) w := by kernel_rfl
theorem As.isNil27 (a p : Addr) (W : World) (ha : W.cell? a = some (.pointer (some p))) :
  (ReflectliteValue.method (ReflectliteValue.valueError "reflectlite.Value.IsNil" 0) ReflectliteValue.isNil #[.agg #[.pointer (some ⟨1, 90, none⟩), .pointer (some a), .int .u64 150]]).run Tryd.prog W = .ok (.bool false) W := by
 rw [rlm]
 simp only [Sem.run_bind, As.parts27, Result.andThen]
 simp [ReflectliteValue.isNil, loadVar, isAgg, underlying, Tryd.underlying90, ha, Result.andThen]

theorem As.methodElem (h : Value) (w : World) : (Go.method 302 161 (.agg #[h]) "Elem").run Tryd.prog w = .ok (108, .agg #[h]) w := by kernel_rfl
theorem As.methodImplements (h : Value) (w : World) : (Go.method 302 161 (.agg #[h]) "Implements").run Tryd.prog w = .ok (109, .agg #[h]) w := by kernel_rfl
theorem As.methodAssignableTo (h : Value) (w : World) : (Go.method 302 161 (.agg #[h]) "AssignableTo").run Tryd.prog w = .ok (106, .agg #[h]) w := by kernel_rfl
theorem As.elem27 (w : World) : (ReflectliteType.method ReflectliteType.elem #[.agg #[.pointer (some ⟨1, 90, none⟩)]]).run Tryd.prog w = .ok (.iface 161 (.agg #[.pointer (some ⟨1, 88, none⟩)])) w := by kernel_rfl
theorem As.implements25 (w : World) : (ReflectliteType.relation "Implements" ReflectliteType.implements_ #[.agg #[.pointer (some ⟨1, 88, none⟩)], .iface 161 (.agg #[.pointer (some ⟨1, 79, none⟩)])]).run Tryd.prog w = .ok (.bool true) w := by kernel_rfl
theorem As.typeOf25 (v : Value) (w : World) : (ReflectliteType.typeOf #[.iface 88 v]).run Tryd.prog w = .ok (.iface 161 (.agg #[.pointer (some ⟨1, 88, none⟩)])) w := by kernel_rfl
theorem As.assignable25 (w : World) : (ReflectliteType.relation "AssignableTo" ReflectliteType.assignableTo #[.agg #[.pointer (some ⟨1, 88, none⟩)], .iface 161 (.agg #[.pointer (some ⟨1, 88, none⟩)])]).run Tryd.prog w = .ok (.bool true) w := by kernel_rfl
theorem As.valueOf25 (e : Addr) (w : World) : (ReflectliteValue.unpack (.iface 88 (.pointer (some e)))).run Tryd.prog w
  = .ok (.agg #[.pointer (some ⟨1, 88, none⟩), .pointer (some ⟨w.heap.size, 0, none⟩), .int .u64 150]) (w.alloc (.cells #[.pointer (some e)] 88)) := by kernel_rfl

theorem As.elemOf27 (w : World) : (Rtype.elem? 90).run Tryd.prog w = .ok (some 88) w := by kernel_rfl
theorem As.mk25 (p : Addr) (w : World) : (ReflectliteValue.mk 88 p ReflectliteValue.flagAddr).run Tryd.prog w = .ok (.agg #[.pointer (some ⟨1, 88, none⟩), .pointer (some p), .int .u64 406]) w := by kernel_rfl
theorem As.elemV27 (a p : Addr) (W : World) (ha : W.cell? a = some (.pointer (some p))) :
  (ReflectliteValue.method (ReflectliteValue.valueError "reflectlite.Value.Elem" 0) ReflectliteValue.elem #[.agg #[.pointer (some ⟨1, 90, none⟩), .pointer (some a), .int .u64 150]]).run Tryd.prog W
   = .ok (.agg #[.pointer (some ⟨1, 88, none⟩), .pointer (some p), .int .u64 406]) W := by
 rw [rlm]
 simp only [Sem.run_bind, As.parts27, Result.andThen]
 simp [ReflectliteValue.elem, loadVar, isAgg, underlying, Tryd.underlying90, ha, Result.andThen, As.elemOf27, As.mk25]
theorem rls (v x : Value) : ReflectliteValue.set #[v, x] = (do
    let (some (dst, a, fl), some (src, b, _)) := (← ReflectliteValue.parts v, ← ReflectliteValue.parts x)
      | unsupported (.noEntry "extern/(internal/reflectlite.Value).Set.zeroValue")
    if fl / ReflectliteValue.flagAddr % 2 == 0 then unsupported (.noEntry "extern/(internal/reflectlite.Value).Set.unaddressable")
    let val ← loadVar src b
    if ← Rtype.directlyAssignable dst src then storeVar dst a val
    else if ← Rtype.implements dst src then
      if (← Rtype.kind src) == 20 then
        match val with
        | .nilIface => unsupported (.noEntry "extern/reflectlite: a nil value of one interface type handed on as a value of another")
        | _ => storeVar dst a val
      else storeVar dst a (.iface src val)
    else panicString ("reflectlite.Set: value of type " ++ (← Rtype.spelt src) ++ " is not assignable to type " ++ (← Rtype.spelt dst))
    pure (.tuple #[])) := rfl
theorem As.parts25a (a : Addr) (w : World) : (ReflectliteValue.parts (.agg #[.pointer (some ⟨1, 88, none⟩), .pointer (some a), .int .u64 406])).run Tryd.prog w = .ok (some (88, a, 406)) w := by kernel_rfl
theorem As.parts25 (a : Addr) (w : World) : (ReflectliteValue.parts (.agg #[.pointer (some ⟨1, 88, none⟩), .pointer (some a), .int .u64 150])).run Tryd.prog w = .ok (some (88, a, 150)) w := by kernel_rfl
theorem As.direct25 (w : World) : (Rtype.directlyAssignable 88 88).run Tryd.prog w = .ok true w := by kernel_rfl
theorem As.set25 (ta b e : Addr) (old : Value) (W : World) (hb : W.cell? b = some (.pointer (some e))) (ht : W.cell? ta = some old) (hf : W.frozen? ta = false) :
  (ReflectliteValue.set #[.agg #[.pointer (some ⟨1, 88, none⟩), .pointer (some ta), .int .u64 406], .agg #[.pointer (some ⟨1, 88, none⟩), .pointer (some b), .int .u64 150]]).run Tryd.prog W
   = .ok (.tuple #[]) (W.setCell ta (.pointer (some e))) := by
 rw [rls]
 simp only [Sem.run_bind, As.parts25a, As.parts25, Result.andThen]
 simp [ReflectliteValue.flagAddr, loadVar, isAgg, underlying, Tryd.underlying88, hb, Result.andThen, As.direct25, storeVar, Value.cells, storeCells, Addr.add]
 rw [run_store Tryd.prog W ta _ _ (by rfl)]
 simp [ht, hf]

set_option maxHeartbeats 4000000 in
theorem as_hit (e t : Addr) (old : Value) (w : World) (hg : w.cell? ⟨0, 0, none⟩ = some (.iface 161 (.agg #[.pointer (some ⟨1, 79, none⟩)]))) (ht0 : w.cell? t = some old) (hf0 : w.frozen? t = false) :
  Calls Tryd.prog 38 #[.iface 88 (.pointer (some e)), .iface 90 (.pointer (some t))] w fun ev w' => ev = .returned (.bool true) ∧ w' = ((((w.alloc (.cells #[.pointer (some t)] 90)).alloc (.cells #[.pointer (some ⟨1, 90, none⟩), .pointer (some ⟨w.heap.size, 0, none⟩), .int .u64 150] 141)).alloc (.cells #[.pointer (some ⟨1, 90, none⟩), .pointer (some ⟨w.heap.size, 0, none⟩), .int .u64 150] 141)).alloc (.cells #[.pointer (some e)] 88)).setCell t (.pointer (some e)) := by
 have h6 := @run_callFunc_extern Tryd.prog 72 _ (fun args => ReflectliteValue.unpack (args.getD 0 (.tuple #[]))) Tryd.func72 (by kernel_rfl) (by kernel_rfl) (by kernel_rfl) (by kernel_rfl)
 have h7 := @run_callFunc_extern Tryd.prog 73 _ (ReflectliteValue.methodAny (ReflectliteValue.valueError "reflectlite.Value.Type" 0) (fun t _ _ _ => ReflectliteType.toType t)) Tryd.func73 (by kernel_rfl) (by kernel_rfl) (by kernel_rfl) (by kernel_rfl)
 have h8 := @run_callFunc_extern Tryd.prog 74 _ (ReflectliteValue.method (ReflectliteValue.valueError "reflectlite.Value.IsNil" 0) ReflectliteValue.isNil) Tryd.func74 (by kernel_rfl) (by kernel_rfl) (by kernel_rfl) (by kernel_rfl)
 have h27 := @run_callFunc_extern Tryd.prog 97 _ (ReflectliteType.abiMethod fun t => do pure (.int .u8 (← Rtype.kind t))) Tryd.func97 (by kernel_rfl) (by kernel_rfl) (by kernel_rfl) (by kernel_rfl)
 have h37 := @run_callFunc_extern Tryd.prog 108 _ (ReflectliteType.method ReflectliteType.elem) Tryd.func108 (by kernel_rfl) (by kernel_rfl) (by kernel_rfl) (by kernel_rfl)
 have h38 := @run_callFunc_extern Tryd.prog 109 _ (ReflectliteType.relation "Implements" ReflectliteType.implements_) Tryd.func109 (by kernel_rfl) (by kernel_rfl) (by kernel_rfl) (by kernel_rfl)
 have h10 := @run_callFunc_extern Tryd.prog 80 _ ReflectliteType.typeOf Tryd.func80 (by kernel_rfl) (by kernel_rfl) (by kernel_rfl) (by kernel_rfl)
 have h35 := @run_callFunc_extern Tryd.prog 106 _ (ReflectliteType.relation "AssignableTo" ReflectliteType.assignableTo) Tryd.func106 (by kernel_rfl) (by kernel_rfl) (by kernel_rfl) (by kernel_rfl)
 have h11 := @run_callFunc_extern Tryd.prog 81 _ (ReflectliteValue.method (ReflectliteValue.valueError "reflectlite.Value.Elem" 0) ReflectliteValue.elem) Tryd.func81 (by kernel_rfl) (by kernel_rfl) (by kernel_rfl) (by kernel_rfl)
 have h12 := @run_callFunc_extern Tryd.prog 82 _ ReflectliteValue.set Tryd.func82 (by kernel_rfl) (by kernel_rfl) (by kernel_rfl) (by kernel_rfl)
 have tO := As.typeOf25
 have mA := As.methodAssignableTo
 have a25 := As.assignable25
 have v25 := As.valueOf25
 have f6 := As.valueOf27
 have f7 := As.type27
 have mK := As.methodKind
 have mE := As.methodElem
 have mI := As.methodImplements
 have k27 := As.kind27
 have k25 := As.kind25
 have e27 := As.elem27
 have i25 := As.implements25
 have n8 := As.isNil27 ⟨w.heap.size, 0, none⟩ t ((w.alloc (.cells #[.pointer (some t)] 90)).alloc (.cells #[.pointer (some ⟨1, 90, none⟩), .pointer (some ⟨w.heap.size, 0, none⟩), .int .u64 150] 141)) (by simp)
 have hlt : 0 < w.heap.size := by
  rcases Nat.eq_zero_or_pos w.heap.size with h0 | h
  ·
   simp [World.cell?, h0] at hg
  ·
   exact h
 have hg2 : ((w.alloc (.cells #[.pointer (some t)] 90)).alloc (.cells #[.pointer (some ⟨1, 90, none⟩), .pointer (some ⟨w.heap.size, 0, none⟩), .int .u64 150] 141)).cell? ⟨0, 0, none⟩ = some (.iface 161 (.agg #[.pointer (some ⟨1, 79, none⟩)])) := by
  rw [World.cell?_alloc_lt _ _ ⟨0, 0, none⟩ (by simp), World.cell?_alloc_lt _ _ ⟨0, 0, none⟩ hlt]; exact hg
 have htl : t.block < w.heap.size := by
  rcases Nat.lt_or_ge t.block w.heap.size with h | h
  ·
   exact h
  ·
   simp [World.cell?, Array.getElem?_eq_none h] at ht0
 have el := As.elemV27 ⟨w.heap.size, 0, none⟩ t (((w.alloc (.cells #[.pointer (some t)] 90)).alloc (.cells #[.pointer (some ⟨1, 90, none⟩), .pointer (some ⟨w.heap.size, 0, none⟩), .int .u64 150] 141)).alloc (.cells #[.pointer (some ⟨1, 90, none⟩), .pointer (some ⟨w.heap.size, 0, none⟩), .int .u64 150] 141)) (by rw [World.cell?_alloc_lt _ _ ⟨w.heap.size, 0, none⟩ (by simp; omega)]; simp)
 have st := As.set25 t ⟨w.heap.size + 1 + 1 + 1, 0, none⟩ e old ((((w.alloc (.cells #[.pointer (some t)] 90)).alloc (.cells #[.pointer (some ⟨1, 90, none⟩), .pointer (some ⟨w.heap.size, 0, none⟩), .int .u64 150] 141)).alloc (.cells #[.pointer (some ⟨1, 90, none⟩), .pointer (some ⟨w.heap.size, 0, none⟩), .int .u64 150] 141)).alloc (.cells #[.pointer (some e)] 88))
  (by rw [World.cell?_alloc_at _ _ _ _ (by simp)]; rfl)
  (by rw [World.cell?_alloc_lt _ _ t (by simp; omega), World.cell?_alloc_lt _ _ t (by simp; omega), World.cell?_alloc_lt _ _ t (by simp; omega), World.cell?_alloc_lt _ _ t htl]; exact ht0)
  (by rw [World.frozen?_alloc_old _ _ t (by simp; omega), World.frozen?_alloc_old _ _ t (by simp; omega), World.frozen?_alloc_old _ _ t (by simp; omega), World.frozen?_alloc_old _ _ t (Nat.ne_of_lt htl)]; exact hf0)
 go_enter Tryd.func38, Tryd.ntmps38
 go_wp2
 refine wp_loop_rounds 1 ?_
 rw [rounds_succ]
 go_wp2
 go_ret
 exact ⟨rfl, rfl⟩
end Go.Proofs.YtiaohbbafaaibabDoor.P
