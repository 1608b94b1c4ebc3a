/- OWN TEXT and printed parts of this claim, laid together: WireS, ObjL, ObjF, P1, P2, HWid, P18, WireE, ObjM, WireF, HTd. -/
import Derived.Test.YtiaohbbafaaibabGreatDoorZrM8
import Derived.Test.YtiaohbbafaaibabGreatDoorZrM4
import Derived.Test.YtiaohbbafaaibabGreatDoorZrM0
import Derived.Test.YtiaohbbafaaibabGreatDoorZrM7
import Derived.Test.YtiaohbbafaaibabGreatDoorZrM5
import Derived.Test.YtiaohbbafaaibabGreatDoorZrM6
/- OWN TEXT: plain laws of the reader: what is written is read as it; a byte changed is not read. -/
namespace Go.Proofs.YtiaohbbafaaibabGreatDoor.P
open Go.RowKit Go.Maps Go.Proofs.YtiaohbbafaaibabGreatDoorW.PrintWords Go.Proofs.YtiaohbbafaaibabGreatDoorW.PrintLast Go.Proofs.YtiaohbbafaaibabGreatDoorW.PrintMore Go.Proofs.YtiaohbbafaaibabGreatDoor.Arr Go.Proofs.YtiaohbbafaaibabGreatDoor.MapB
set_option linter.unusedVariables false
theorem emod_two (v k : Int) (hk : 0 < k) : v / k % 256 * k + v % k = v % (k * 256) := by
 have h1 := Int.mul_ediv_add_emod v k
 have h2 := Int.mul_ediv_add_emod (v / k) 256
 have h3 := Int.emod_nonneg v (Int.ne_of_gt hk)
 have h4 := Int.emod_lt_of_pos v hk
 have h5 := Int.emod_nonneg (v / k) (show (256 : Int) ≠ 0 by decide)
 have h6 := Int.emod_lt_of_pos (v / k) (show (0 : Int) < 256 by decide)
 have hs : v / k % 256 * k ≤ 255 * k := Int.mul_le_mul_of_nonneg_right (by omega) (by omega)
 have hs0 : 0 ≤ v / k % 256 * k := Int.mul_nonneg h5 (by omega)
 have e : v = (v / k % 256 * k + v % k) + k * 256 * (v / k / 256) := by
  generalize v / k = q at h1 h2
  have h7 : k * q = k * 256 * (q / 256) + q % 256 * k := by
   conv => lhs; rw [← h2]
   rw [Int.mul_add, ← Int.mul_assoc, Int.mul_comm k (q % 256)]
  omega
 have hlt : v / k % 256 * k + v % k < k * 256 := by omega
 have hge : 0 ≤ v / k % 256 * k + v % k := by omega
 generalize v / k % 256 * k + v % k = z at e hlt hge ⊢
 generalize v / k / 256 = y at e
 rw [e, Int.add_mul_emod_self_left, Int.emod_eq_of_lt hge hlt]
theorem beV_beN : ∀ (n : Nat) (v : Int), beV (beN v n) = v % 256 ^ n
  | 0, v => by show (0 : Int) = v % 1; omega
  | n + 1, v => by
    show beV ((v / 256 ^ n) % 256 :: beN v n) = _
    rw [beV_cons, beN_length, beV_beN n v, Int.pow_succ]
    exact emod_two v _ (pow256_pos n)
def Ahead (l pre rest : List Int) (s : RS) : Prop := l = pre ++ rest ∧ s = ⟨(pre.length : Int), none⟩
theorem numR_go {l pre rest : List Int} {s : RS} {v : Int} {n : Nat} (h : Ahead l pre (beN v n ++ rest) s) (hv : 0 ≤ v ∧ v < 256 ^ n) : (numR l n s).1 = v ∧ Ahead l (pre ++ beN v n) rest (numR l n s).2 := by
 obtain ⟨rfl, rfl⟩ := h
 unfold numR
 simp only []
 rw [if_neg (by simp only [List.length_append, beN_length]; omega)]
 rw [Int.toNat_natCast, ← List.append_assoc, show pre.length + n = (pre ++ beN v n).length by rw [List.length_append, beN_length], List.take_left, List.drop_left, beV_beN, Int.emod_eq_of_lt hv.1 hv.2]
 exact ⟨rfl, rfl, by rw [List.length_append, beN_length]; simp⟩
theorem countR_go {l pre rest : List Int} {s : RS} {v lim : Int} (h : Ahead l pre (beN v 4 ++ rest) s) (hv : 0 ≤ v ∧ v < 4294967296) (hl : v ≤ lim) : (countR l lim s).1 = v ∧ Ahead l (pre ++ beN v 4) rest (countR l lim s).2 := by
 have h256 : (256 : Int) ^ 4 = 4294967296 := by decide
 obtain ⟨h1, h2⟩ := numR_go h (by rw [h256]; exact hv)
 unfold countR
 rw [h1, if_neg (by omega)]
 have he : (numR l 4 s).2.er = none := by rw [h2.2]
 rw [he]
 exact ⟨rfl, h2⟩
theorem str_bytes (s : ByteArray) : strOfNums (bytesOf s) = s := by
 apply ByteArray.ext
 apply Array.ext'
 rw [strOfNums_data]
 unfold bytesOf
 rw [List.map_map]
 conv => rhs; rw [← List.map_id s.data.toList]
 apply List.map_congr_left
 intro x hx
 show UInt8.ofNat ((x.toNat : Int)).toNat = x
 rw [Int.toNat_natCast, UInt8.ofNat_toNat]
theorem textR_go {l pre rest : List Int} {s : RS} {t : ByteArray} (h : Ahead l pre (beN (t.size : Int) 4 ++ bytesOf t ++ rest) s) (ht : t.size ≤ 24) : (textR l s).1 = t ∧ Ahead l (pre ++ (beN (t.size : Int) 4 ++ bytesOf t)) rest (textR l s).2 := by
 rw [List.append_assoc] at h
 obtain ⟨h1, h2⟩ := countR_go (lim := 24) h ⟨by omega, by omega⟩ (by omega)
 obtain ⟨e1, e2⟩ := h2
 unfold textR
 have hlen : (bytesOf t).length = t.size := bytesOf_length t
 have hh : hasR (l.length : Int) (countR l 24 s).1 (countR l 24 s).2 = (countR l 24 s).2 := by
  unfold hasR
  rw [if_neg]
  rw [h1, e2, e1]
  simp only [List.length_append, hlen]
  omega
 rw [hh]
 have he : (countR l 24 s).2.er = none := by rw [e2]
 rw [he]
 simp only []
 rw [h1, e2]
 simp only []
 rw [Int.toNat_natCast, Int.toNat_natCast]
 have hx : (l.take ((pre ++ beN (t.size : Int) 4).length + t.size)).drop (pre ++ beN (t.size : Int) 4).length = bytesOf t := by
  rw [e1, ← List.append_assoc, show (pre ++ beN (t.size : Int) 4).length + t.size = ((pre ++ beN (t.size : Int) 4) ++ bytesOf t).length by simp only [List.length_append, hlen], List.take_left, List.drop_left]
 rw [hx, str_bytes]
 refine ⟨rfl, by rw [e1, List.append_assoc, List.append_assoc, List.append_assoc], ?_⟩
 show RS.mk _ none = _
 congr 1
 simp only [List.length_append, hlen]
 omega
theorem each_go {α : Type} {l : List Int} (enc : α → List Int) (f : RO → RO) (upd : RO → List α → RS → RO) (hu0 : ∀ a, upd a [] a.rs = a) (hu : ∀ a x xs s t, upd (upd a [x] s) xs t = upd a (x :: xs) t) (hr : ∀ a xs s, (upd a xs s).rs = s) (ok : α → Prop)
    (hf : ∀ a x pre rest, ok x → Ahead l pre (enc x ++ rest) a.rs → ∃ s, f a = upd a [x] s ∧ Ahead l (pre ++ enc x) rest s) :
    ∀ (xs : List α) (a : RO) (pre rest : List Int), (∀ x ∈ xs, ok x) → Ahead l pre (xs.flatMap enc ++ rest) a.rs → ∃ s, eachR f RO.rs xs.length a = upd a xs s ∧ Ahead l (pre ++ xs.flatMap enc) rest s
  | [], a, pre, rest, _, h => ⟨a.rs, (hu0 a).symm, by rw [List.flatMap_nil, List.append_nil]; exact h⟩
  | x :: xs, a, pre, rest, ho, h => by
    rw [List.flatMap_cons, List.append_assoc] at h
    have he : a.rs.er = none := by rw [h.2]
    obtain ⟨s, h1, h2⟩ := hf a x pre _ (ho x (List.mem_cons_self ..)) h
    rw [List.length_cons, eachR_go f RO.rs xs.length he, h1]
    obtain ⟨t, k1, k2⟩ := each_go enc f upd hu0 hu hr ok hf xs (upd a [x] s) (pre ++ enc x) rest (fun y hy => ho y (List.mem_cons_of_mem _ hy)) (by rw [hr]; exact h2)
    exact ⟨t, by rw [k1, hu], by rw [List.flatMap_cons, ← List.append_assoc]; exact k2⟩
theorem magic_go (r : List Int) : magicE ([80, 76, 79, 49] ++ r) 4 = none := by
 have step : ∀ i : Nat, i < 4 → magicE ([80, 76, 79, 49] ++ r) i = none → magicE ([80, 76, 79, 49] ++ r) (i + 1) = none := by
  intro i hi h
  simp only [magicE]
  rw [h]
  simp only []
  rw [if_neg]
  intro hc
  rcases hc with hc | hc
  ·
   rw [List.length_append] at hc
   have : ([80, 76, 79, 49] : List Int).length = 4 := rfl
   omega
  ·
   match i, hi with
   | 0, _ => exact hc rfl
   | 1, _ => exact hc rfl
   | 2, _ => exact hc rfl
   | 3, _ => exact hc rfl
 exact step 3 (by omega) (step 2 (by omega) (step 1 (by omega) (step 0 (by omega) rfl)))
theorem wrap_mU {x : Int} (h : -9223372036854775808 ≤ x ∧ x < 9223372036854775808) : wrap64 (mU x) = x := by
 unfold mU wrap64
 omega
section
variable (nm : ByteArray) (code : List Int) (dat : Int) (data : List Int) (syms : List Sym) (rels : List Rel)
theorem written_read (hk : WOk nm code dat data syms rels) (hrc : rels.length ≤ code.length) (h64 : ∀ x ∈ data, -9223372036854775808 ≤ x ∧ x < 9223372036854775808) (hc : (chkO nm code dat data syms rels).1 = 0) :
    readC (writeB nm code dat data syms rels) = (0, 0) ∧ ∃ s, ra5 (writeB nm code dat data syms rels) = ⟨nm, code, dat, data, syms, rels, s⟩ := by
  obtain ⟨l, hl⟩ : ∃ l, l = writeB nm code dat data syms rels := ⟨_, rfl⟩
  rw [← hl]
  have hA : Ahead l [80, 76, 79, 49] (beN (nm.size : Int) 4 ++ bytesOf nm ++ (beN (code.length : Int) 4 ++ ((code.flatMap fun x => beN x 4) ++ (beN dat 4 ++ (beN (data.length : Int) 4 ++ ((data.flatMap fun x => beN (mU x) 8) ++ (beN (syms.length : Int) 4 ++ (syms.flatMap symB ++ (beN (rels.length : Int) 4 ++ (rels.flatMap relB ++ (beN (sumN (headB nm code dat data syms rels)) 4 ++ [])))))))))))  ⟨4, magicE l 4⟩ := by
    constructor
    · rw [hl]; unfold writeB headB; simp only [List.append_assoc, List.append_nil]
    · have : magicE l 4 = none := by
        rw [hl]; unfold writeB headB; simp only [List.append_assoc]
        exact magic_go _
      rw [this]
      rfl
  obtain ⟨t1, h1⟩ := textR_go hA hk.hnm
  obtain ⟨c1, h2⟩ := countR_go (lim := 16384) h1 ⟨by omega, by have := hk.hcode; omega⟩ (by have := hk.hcode; omega)
  have e0 : ra0 l = ⟨nm, [], 0, [], [], [], (textR l ⟨4, magicE l 4⟩).2⟩ := by unfold ra0; rw [t1]
  obtain ⟨s1, e1, h3⟩ := each_go (fun x => beN x 4) (f1 l) (fun a xs s => { a with code := a.code ++ xs, rs := s }) (fun a => by simp only [List.append_nil]) (fun a x xs s t => by simp only [List.append_assoc]; rfl) (fun a xs s => rfl) (fun x => 0 ≤ x ∧ x < 4294967296)
    (fun a x pre rest ox h => by
      have h256 : (256 : Int) ^ 4 = 4294967296 := by decide
      obtain ⟨k1, k2⟩ := numR_go h (by rw [h256]; exact ox)
      exact ⟨_, by unfold f1; rw [k1], k2⟩) code (cntR l 16384 (ra0 l)) _ _ (fun x hx => by
        obtain ⟨i, hi, rfl⟩ := List.getElem_of_mem hx
        have := hk.hwords i hi
        rw [rd_get hi] at this
        exact this) (show Ahead l _ _ (countR l 16384 (ra0 l).rs).2 by rw [e0]; exact h2)
  have e1' : ra1 l = ⟨nm, code, 0, [], [], [], s1⟩ := by
    unfold ra1
    have : (countR l 16384 (ra0 l).rs).1.toNat = code.length := by rw [e0]; show (countR l 16384 (textR l ⟨4, magicE l 4⟩).2).1.toNat = _; rw [c1]; exact Int.toNat_natCast _
    rw [this, e1]
    unfold cntR
    rw [e0]
    simp only [List.nil_append]
  obtain ⟨c2, h4⟩ := countR_go (lim := 2147483647) h3 ⟨hk.hdat.1, by have := hk.hdat.2; omega⟩ hk.hdat.2
  have e2 : ra2 l = ⟨nm, code, dat, [], [], [], (countR l 2147483647 s1).2⟩ := by unfold ra2 cntR; rw [e1', c2]
  obtain ⟨c3, h5⟩ := countR_go (lim := 4096) h4 ⟨by omega, by have := hk.hdata; omega⟩ (by have := hk.hdata; omega)
  obtain ⟨s3, e3, h6⟩ := each_go (fun x => beN (mU x) 8) (f2 l) (fun a xs s => { a with data := a.data ++ xs, rs := s }) (fun a => by simp only [List.append_nil]) (fun a x xs s t => by simp only [List.append_assoc]; rfl) (fun a xs s => rfl) (fun x => -9223372036854775808 ≤ x ∧ x < 9223372036854775808)
    (fun a x pre rest ox h => by
      have h256 : (256 : Int) ^ 8 = 18446744073709551616 := by decide
      obtain ⟨k1, k2⟩ := numR_go h (by rw [h256]; exact u64_range x)
      exact ⟨_, by unfold f2; rw [k1, wrap_mU ox], k2⟩) data (cntR l 4096 (ra2 l)) _ _ h64 (show Ahead l _ _ (countR l 4096 (ra2 l).rs).2 by rw [e2]; exact h5)
  have e3' : ra3 l = ⟨nm, code, dat, data, [], [], s3⟩ := by
    unfold ra3
    have : (countR l 4096 (ra2 l).rs).1.toNat = data.length := by rw [e2]; show (countR l 4096 (countR l 2147483647 s1).2).1.toNat = _; rw [c3]; exact Int.toNat_natCast _
    rw [this, e3]
    unfold cntR
    rw [e2]
    simp only [List.nil_append]
  obtain ⟨c4, h7⟩ := countR_go (lim := 256) h6 ⟨by omega, by have := hk.hsyms; omega⟩ (by have := hk.hsyms; omega)
  obtain ⟨s4, e4, h8⟩ := each_go symB (f3 l) (fun a xs s => { a with syms := a.syms ++ xs, rs := s }) (fun a => by simp only [List.append_nil]) (fun a x xs s t => by simp only [List.append_assoc]; rfl) (fun a xs s => rfl) (fun x => x.f0.size ≤ 24 ∧ (0 ≤ x.f1 ∧ x.f1 ≤ 3) ∧ 0 ≤ x.f2 ∧ x.f2 ≤ 2147483647)
    (fun a x pre rest ox h => by
      unfold symB at h
      simp only [List.append_assoc] at h
      rw [← List.append_assoc] at h
      obtain ⟨k1, k2⟩ := textR_go h ox.1
      obtain ⟨k3, k4⟩ := countR_go (lim := 3) k2 ⟨ox.2.1.1, by have := ox.2.1.2; omega⟩ ox.2.1.2
      obtain ⟨k5, k6⟩ := countR_go (lim := 2147483647) k4 ⟨ox.2.2.1, by have := ox.2.2.2; omega⟩ ox.2.2.2
      refine ⟨_, by unfold f3; rw [k1, k3, k5], ?_⟩
      unfold symB
      simpa only [List.append_assoc] using k6) syms (cntR l 256 (ra3 l)) _ _ (fun x hx => by
        obtain ⟨i, hi, rfl⟩ := List.getElem_of_mem hx
        have := hk.hsym i hi
        rw [sy_getW hi] at this
        exact this) (show Ahead l _ _ (countR l 256 (ra3 l).rs).2 by rw [e3']; exact h7)
  have e4' : ra4 l = ⟨nm, code, dat, data, syms, [], s4⟩ := by
    unfold ra4
    have : (countR l 256 (ra3 l).rs).1.toNat = syms.length := by rw [e3']; show (countR l 256 s3).1.toNat = _; rw [c4]; exact Int.toNat_natCast _
    rw [this, e4]
    unfold cntR
    rw [e3']
    simp only [List.nil_append]
  obtain ⟨c5, h9⟩ := countR_go (lim := (code.length : Int)) h8 ⟨by omega, by have := hk.hrels; omega⟩ (by omega)
  obtain ⟨s5, e5, h10⟩ := each_go relB (f4 l) (fun a xs s => { a with rels := a.rels ++ xs, rs := s }) (fun a => by simp only [List.append_nil]) (fun a x xs s t => by simp only [List.append_assoc]; rfl) (fun a xs s => rfl) (fun x => (0 ≤ x.f0 ∧ x.f0 ≤ 2147483647) ∧ 0 ≤ x.f1 ∧ x.f1 ≤ 2147483647)
    (fun a x pre rest ox h => by
      unfold relB at h
      simp only [List.append_assoc] at h
      obtain ⟨k3, k4⟩ := countR_go (lim := 2147483647) h ⟨ox.1.1, by have := ox.1.2; omega⟩ ox.1.2
      obtain ⟨k5, k6⟩ := countR_go (lim := 2147483647) k4 ⟨ox.2.1, by have := ox.2.2; omega⟩ ox.2.2
      refine ⟨_, by unfold f4; rw [k3, k5], ?_⟩
      unfold relB
      simpa only [List.append_assoc] using k6) rels (cntR l (code.length : Int) (ra4 l)) _ _ (fun x hx => by
        obtain ⟨i, hi, rfl⟩ := List.getElem_of_mem hx
        have := hk.hrel i hi
        rw [rl_getW hi] at this
        exact this) (show Ahead l _ _ (countR l (code.length : Int) (ra4 l).rs).2 by rw [e4']; exact h9)
  have e5' : ra5 l = ⟨nm, code, dat, data, syms, rels, s5⟩ := by
    unfold ra5
    have hcl : ((ra4 l).code.length : Int) = (code.length : Int) := by rw [e4']
    rw [hcl]
    have : (countR l (code.length : Int) (ra4 l).rs).1.toNat = rels.length := by rw [e4']; show (countR l (code.length : Int) s4).1.toNat = _; rw [c5]; exact Int.toNat_natCast _
    rw [this, e5]
    unfold cntR
    rw [e4']
    simp only [List.nil_append]
  have h256 : (256 : Int) ^ 4 = 4294967296 := by decide
  obtain ⟨n1, h11⟩ := numR_go h10 (by rw [h256]; exact sumN_range _)
  have hs5 : (ra5 l).rs = s5 := by rw [e5']
  have hhead : ∀ P : List Int, l = P ++ (beN (sumN (headB nm code dat data syms rels)) 4 ++ []) → l.take P.length = headB nm code dat data syms rels := by
    intro P hP
    have h1 : headB nm code dat data syms rels ++ beN (sumN (headB nm code dat data syms rels)) 4 = P ++ (beN (sumN (headB nm code dat data syms rels)) 4 ++ []) := by rw [← hP, hl]; rfl
    rw [List.append_nil] at h1
    have h2 : P = headB nm code dat data syms rels := (List.append_cancel_right h1).symm
    rw [hl, h2]
    exact List.take_left
  have hend : (endS l) = (numR l 4 s5).2 := by
    have h6 : (a6 l).rs = (numR l 4 s5).2 := by unfold a6; rw [hs5]
    unfold endS
    rw [h6]
    have he : (numR l 4 s5).2.er = none := by rw [h11.2]
    rw [he]
    simp only []
    rw [if_neg]
    rw [h11.2]
    have := congrArg List.length h11.1
    rw [List.append_nil] at this
    show ¬ ((List.length _ : Nat) : Int) < (l.length : Int)
    omega
  refine ⟨?_, s5, e5'⟩
  unfold readC
  have he : (endS l).er = none := by rw [hend, h11.2]
  rw [he]
  simp only []
  rw [hs5, n1, h10.2]
  simp only []
  rw [Int.toNat_natCast, hhead _ h10.1, if_pos rfl]
  unfold chkR
  rw [e5']
  simp only []
  rw [if_pos hc]
end
end Go.Proofs.YtiaohbbafaaibabGreatDoor.P

/- OWN TEXT: objects over plain lists: names, what is found by a name or a place, the reference's check: all come to the same as the program's. -/
set_option linter.unusedVariables false
set_option linter.unusedSimpArgs false
namespace Go.Proofs.YtiaohbbafaaibabGreatDoor.P
open Go.RowKit Go.Maps Go.Proofs.YtiaohbbafaaibabGreatDoorW.PrintWords Go.Proofs.YtiaohbbafaaibabGreatDoorW.PrintLast Go.Proofs.YtiaohbbafaaibabGreatDoorW.PrintMore Go.Proofs.YtiaohbbafaaibabGreatDoor.MapB

theorem Ev.upto {α : Type} {g : Nat → Int → Option α} {r : α} {n : Nat} (p : Nat → Prop) (step : ∀ i : Nat, i < n → p i → (p (i + 1) → Ev (fun k => g k ((i + 1 : Nat) : Int)) r) → Ev (fun k => g k (i : Int)) r) (last : p n → Ev (fun k => g k (n : Int)) r) : ∀ i : Nat, i ≤ n → p i → Ev (fun k => g k (i : Int)) r := by
  have : ∀ d i : Nat, i + d = n → p i → Ev (fun k => g k (i : Int)) r := by
    intro d
    induction d with
    | zero => intro i hi hp; obtain rfl : i = n := by omega
              exact last hp
    | succ d ih => intro i hi hp; exact step i (by omega) hp (ih (i + 1) (by omega))
  intro i hi
  exact this (n - i) i (by omega)
theorem wrapS {i n : Nat} (hi : i < n) (hn : n ≤ 1000000000) : wrap64 ((i : Int) + 1) = ((i + 1 : Nat) : Int) := by rw [wrap64_id (by omega) (by omega)]; rfl
theorem sy_get {l : List Sym} {i : Nat} (h : i < l.length) : rd_T65 l (i : Int) = l[i] := by
 unfold rd_T65
 simp [List.getD_eq_getElem?_getD, List.getElem?_eq_getElem h]
theorem rl_get {l : List Rel} {i : Nat} (h : i < l.length) : rd_T82 l (i : Int) = l[i] := by
 unfold rd_T82
 simp [List.getD_eq_getElem?_getD, List.getElem?_eq_getElem h]
theorem sy_at {l : List Sym} {i : Nat} (h : i < l.length) : sy l i = l[i] := sy_get h
theorem rl_at {l : List Rel} {i : Nat} (h : i < l.length) : rl l i = l[i] := rl_get h
theorem toList_loop (s : ByteArray) : ∀ (d i : Nat) (r : List UInt8), i + d = s.size → ByteArray.toList.loop s i r = r.reverse ++ s.data.toList.drop i := by
 intro d
 induction d with
 | zero =>
  intro i r hi
  rw [ByteArray.toList.loop, if_neg (by omega), List.drop_eq_nil_of_le (by rw [data_length]; omega), List.append_nil]
 | succ d ih =>
  intro i r hi
  have hlt : i < s.data.toList.length := by rw [data_length]; omega
  rw [ByteArray.toList.loop, if_pos (by omega), ih (i + 1) _ (by omega), List.drop_eq_getElem_cons hlt, List.reverse_cons, List.append_assoc]
  have e : s.get! i = s.data.toList[i] := by
   have h2 : i < s.data.size := by simpa using hlt
   simp only [ByteArray.get!]
   exact getElem!_pos s.data i h2
  rw [e]
  rfl
theorem toList_eq (s : ByteArray) : s.toList = s.data.toList := by
 have := toList_loop s s.size 0 [] (by omega)
 simpa [ByteArray.toList] using this
theorem toList_inj {a b : ByteArray} : a.toList = b.toList ↔ a = b := by
 rw [toList_eq, toList_eq]
 constructor
 ·
  intro h
  have : a.data = b.data := Array.toList_inj.1 h
  cases a; cases b; simp at this; subst this; rfl
 ·
  intro h; rw [h]
theorem key_inj {a b : ByteArray} : (keyN a).sameKey (keyN b) = true ↔ a = b := by
 unfold keyN
 show (a.data.toList == b.data.toList) = true ↔ _
 rw [beq_iff_eq, ← toList_eq, ← toList_eq]
 exact toList_inj
theorem seen_iff (l : List Sym) (s : ByteArray) : ∀ i, nameSeen l i (keyN s) = true ↔ ∃ j, j < i ∧ (sy l j).f0 = s
  | 0 => by simp [nameSeen]
  | i + 1 => by
    show addS (nameSeen l i) (keyN (sy l i).f0) (keyN s) = true ↔ _
    unfold addS
    rw [Bool.or_eq_true, seen_iff l s i, key_inj]
    constructor
    · rintro (h | ⟨j, hj, h⟩)
      · exact ⟨i, by omega, h.symm⟩
      · exact ⟨j, by omega, h⟩
    · rintro ⟨j, hj, h⟩
      by_cases e : j = i
      · subst e; exact .inl h.symm
      · exact .inr ⟨j, by omega, h⟩

def ofN (nm : ByteArray) : List Sym → Nat → Int
 | [], _ => -1
 | s :: r, i => if s.f0.toList = nm.toList then (i : Int) else ofN nm r (i + 1)
def atN (p : Int) : List Rel → Nat → Int
 | [], _ => -1
 | s :: r, i => if s.f0 = p then (i : Int) else atN p r (i + 1)
theorem ofN_at (nm : ByteArray) : ∀ (l : List Sym) (b i : Nat), (h : i < l.length) → l[i].f0 = nm → (∀ j, (hj : j < i) → (l[j]'(by omega)).f0 ≠ nm) → ofN nm l b = ((b + i : Nat) : Int)
  | s :: r, b, 0, h, hn, _ => by
    unfold ofN
    rw [if_pos (by rw [← hn]; rfl)]
    rfl
  | s :: r, b, i + 1, h, hn, hb => by
    unfold ofN
    have h0 : s.f0 ≠ nm := hb 0 (by omega)
    rw [if_neg (fun e => h0 (toList_inj.1 e)), ofN_at nm r (b + 1) i (by simpa using h) (by simpa using hn) (fun j hj => by have := hb (j + 1) (by omega); simpa using this)]
    congr 1
    omega
theorem ofN_lt (nm : ByteArray) : ∀ (l : List Sym) (b j : Nat), (h : j < l.length) → l[j].f0 = nm → ofN nm l b ≤ ((b + j : Nat) : Int)
  | s :: r, b, j, h, hn => by
    unfold ofN
    by_cases c : s.f0.toList = nm.toList
    · rw [if_pos c]; omega
    · rw [if_neg c]
      cases j with
      | zero => exact absurd (toList_inj.2 hn) c
      | succ j =>
        have := ofN_lt nm r (b + 1) j (by simpa using h) (by simpa using hn)
        omega
theorem ofN_seen {l : List Sym} {i : Nat} (h : i < l.length) : ofN (sy l i).f0 l 0 = (i : Int) ↔ nameSeen l i (keyN (sy l i).f0) = false := by
 rw [← Bool.not_eq_true, seen_iff]
 constructor
 ·
  rintro e ⟨j, hj, hn⟩
  rw [sy_at (by omega)] at hn
  have := ofN_lt (sy l i).f0 l 0 j (by omega) hn
  omega
 ·
  intro hn
  have := ofN_at (sy l i).f0 l 0 i h (by rw [sy_at h]) (fun j hj e => hn ⟨j, hj, by rw [sy_at (by omega)]; exact e⟩)
  rw [this]
  simp

theorem mark_of {l : List Rel} {k : Nat} : ∀ {n : Nat}, markB l n k = true → ∃ j, j < n ∧ k = (rl l j).f0.toNat
  | 0, h => by cases h
  | n + 1, h => by
    have h : (decide (k = (rl l n).f0.toNat) || markB l n k) = true := h
    rw [Bool.or_eq_true, decide_eq_true_eq] at h
    rcases h with h | h
    · exact ⟨n, by omega, h⟩
    · obtain ⟨j, hj, e⟩ := mark_of h
      exact ⟨j, by omega, e⟩
theorem relE_ok {code : List Int} {ns : Int} {l : List Rel} {i : Nat} (h : relE code ns l i = 0) : lastR l i < (rl l i).f0 ∧ (rl l i).f0 < (code.length : Int) ∧ 0 ≤ (rl l i).f1 ∧ (rl l i).f1 < ns ∧ (tgtS (rd code (rl l i).f0)).2 = true ∧ (tgtS (rd code (rl l i).f0)).1 = 0 := by
 rw [relE_eq] at h
 split at h
 ·
  exact absurd h (by decide)
 split at h
 ·
  exact absurd h (by decide)
 split at h
 ·
  exact absurd h (by decide)
 split at h
 ·
  exact absurd h (by decide)
 split at h
 ·
  rename_i h5
  split at h
  ·
   rename_i h6
   exact ⟨by omega, by omega, by omega, by omega, h5, h6⟩
  ·
   exact absurd h (by decide)
 ·
  exact absurd h (by decide)
theorem scan_plain {code : List Int} {ns : Int} {l : List Rel} (hz : ∀ j, j < l.length → relE code ns l j = 0) (k : Nat) : scanE code (markB l l.length) k = if (tgtS (rd code (k : Int))).2 = true then (if (tgtS (rd code (k : Int))).1 > (code.length : Int) then 22 else 0) else 0 := by
 rw [scanE_eq]
 by_cases h : (tgtS (rd code (k : Int))).2 = true
 ·
  rw [if_pos h, if_pos h]
  by_cases hn : markB l l.length k = true
  ·
   rw [if_pos hn]
   obtain ⟨j, hj, e⟩ := mark_of hn
   obtain ⟨h1, _, _, _, _, h6⟩ := relE_ok (hz j hj)
   have hlo := lastR_lo code ns l j (fun q hq => hz q (by omega))
   rw [show ((rl l j).f0) = (k : Int) by omega] at h6
   rw [if_neg (by omega)]
  ·
   rw [if_neg hn]
 ·
  rw [if_neg h, if_neg h]
theorem firstS_iff {g : Nat → Int} {n : Nat} (h : (firstS g n n).1 = 0) : ∀ j, j < n → g j = 0 := by
  intro j hj
  have key : ∀ d i, i + d = n → (∀ q, q < i → g q = 0) → ∀ q, q < n → g q = 0 := by
    intro d
    induction d with
    | zero => intro i hi hz q hq; exact hz q (by omega)
    | succ d ih =>
      intro i hi hz q hq
      by_cases e : g i = 0
      · exact ih (i + 1) (by omega) (fun p hp => by
          by_cases e2 : p = i
          · rw [e2]; exact e
          · exact hz p (by omega)) q hq
      · rw [firstS_at (by omega) hz e] at h
        exact absurd h e
  exact key n 0 (by omega) (fun q hq => absurd hq (Nat.not_lt_zero _)) j hj
end Go.Proofs.YtiaohbbafaaibabGreatDoor.P

/- OWN TEXT: what holds in an object that may be, over plain lists; a word more, a relocation less, a symbol twice. -/
set_option linter.unusedVariables false
set_option linter.unusedSimpArgs false
namespace Go.Proofs.YtiaohbbafaaibabGreatDoor.P
open Go.RowKit Go.Maps Go.Proofs.YtiaohbbafaaibabGreatDoorW.PrintWords Go.Proofs.YtiaohbbafaaibabGreatDoorW.PrintLast Go.Proofs.YtiaohbbafaaibabGreatDoorW.PrintMore Go.Proofs.YtiaohbbafaaibabGreatDoor.MapB

def plainE (code : List Int) (k : Nat) : Int := if (tgtS (rd code (k : Int))).2 = true then (if (tgtS (rd code (k : Int))).1 > (code.length : Int) then 22 else 0) else 0
structure OkO (nm : ByteArray) (code : List Int) (dat : Int) (data : List Int) (syms : List Sym) (rels : List Rel) : Prop where
  osize : (sizeS nm code dat data syms.length rels.length).1 = 0
  osyms : ∀ j, j < syms.length → symE syms (code.length : Int) j = 0
  orels : ∀ j, j < rels.length → relE code (syms.length : Int) rels j = 0
  oscan : ∀ k, k < code.length → plainE code k = 0
section
variable {nm : ByteArray} {code : List Int} {dat : Int} {data : List Int} {syms : List Sym} {rels : List Rel}
theorem symE_ok {l : List Sym} {n : Int} {i : Nat} (h : symE l n i = 0) : nameS (sy l i).f0 = true ∧ nameSeen l i (keyN (sy l i).f0) = false ∧ 0 ≤ (sy l i).f1 ∧ (sy l i).f1 ≤ 3 ∧ 0 ≤ (sy l i).f2 ∧ (sy l i).f2 ≤ n ∧ ((sy l i).f1 = 3 → (sy l i).f2 = 0) := by
 rw [symE_eq] at h
 split at h
 ·
  rename_i h0
  refine ⟨h0, ?_⟩
  split at h
  ·
   exact absurd h (by decide)
  rename_i h1
  refine ⟨by simpa using h1, ?_⟩
  split at h
  ·
   exact absurd h (by decide)
  split at h
  ·
   exact absurd h (by decide)
  split at h
  ·
   exact absurd h (by decide)
  split at h
  ·
   exact absurd h (by decide)
  split at h
  ·
   split at h
   ·
    exact ⟨by omega, by omega, by omega, by omega, fun _ => by assumption⟩
   ·
    exact absurd h (by decide)
  ·
   exact ⟨by omega, by omega, by omega, by omega, fun e => by contradiction⟩
 ·
  exact absurd h (by decide)
theorem symE_mk {l : List Sym} {n : Int} {i : Nat} (h0 : nameS (sy l i).f0 = true) (h1 : nameSeen l i (keyN (sy l i).f0) = false) (h2 : 0 ≤ (sy l i).f1) (h3 : (sy l i).f1 ≤ 3) (h4 : 0 ≤ (sy l i).f2) (h5 : (sy l i).f2 ≤ n) (h6 : (sy l i).f1 = 3 → (sy l i).f2 = 0) : symE l n i = 0 := by
 rw [symE_eq, if_pos h0, if_neg (by rw [h1]; decide), if_neg (by omega), if_neg (by omega), if_neg (by omega), if_neg (by omega)]
 by_cases c : (sy l i).f1 = 3
 ·
  rw [if_pos c, if_pos (h6 c)]
 ·
  rw [if_neg c]
theorem relE_mk {l : List Rel} {ns : Int} {i : Nat} (h1 : lastR l i < (rl l i).f0) (h2 : (rl l i).f0 < (code.length : Int)) (h3 : 0 ≤ (rl l i).f1) (h4 : (rl l i).f1 < ns) (h5 : (tgtS (rd code (rl l i).f0)).2 = true) (h6 : (tgtS (rd code (rl l i).f0)).1 = 0) : relE code ns l i = 0 := by
 rw [relE_eq, if_neg (by omega), if_neg (by omega), if_neg (by omega), if_neg (by omega), if_pos h5, if_pos h6]
theorem lastR_rise {ns : Int} (h : ∀ j, j < rels.length → relE code ns rels j = 0) : ∀ i, i < rels.length → ∀ j, j < i → (rl rels j).f0 < (rl rels i).f0
  | 0, _, j, hj => absurd hj (Nat.not_lt_zero _)
  | i + 1, hi, j, hj => by
    have h1 : (rl rels i).f0 < (rl rels (i + 1)).f0 := (relE_ok (h (i + 1) hi)).1
    by_cases e : j = i
    · rw [e]; exact h1
    · have := lastR_rise h i (by omega) j (by omega)
      omega
theorem atN_at (p : Int) : ∀ (l : List Rel) (b i : Nat), (h : i < l.length) → l[i].f0 = p → (∀ j, (hj : j < i) → (l[j]'(by omega)).f0 ≠ p) → atN p l b = ((b + i : Nat) : Int)
  | s :: r, b, 0, h, hn, _ => by
    unfold atN
    rw [if_pos (by rw [← hn]; rfl)]
    rfl
  | s :: r, b, i + 1, h, hn, hb => by
    unfold atN
    have h0 : s.f0 ≠ p := hb 0 (by omega)
    rw [if_neg h0, atN_at p r (b + 1) i (by simpa using h) (by simpa using hn) (fun j hj => by have := hb (j + 1) (by omega); simpa using this)]
    congr 1
    omega
theorem OkO.at (h : OkO nm code dat data syms rels) {i : Nat} (hi : i < rels.length) : atN (rl rels i).f0 rels 0 = (i : Int) := by
  have := atN_at (rl rels i).f0 rels 0 i hi (by rw [rl_at hi]) (fun j hj e => by
    have := lastR_rise h.orels i hi j hj
    rw [rl_at (show j < rels.length by omega), e] at this
    omega)
  rw [this]
  simp
theorem OkO.of (h : OkO nm code dat data syms rels) {i : Nat} (hi : i < syms.length) : ofN (sy syms i).f0 syms 0 = (i : Int) := (ofN_seen hi).2 (symE_ok (h.osyms i hi)).2.1
theorem rd_app {l m : List Int} {x : Int} (h0 : 0 ≤ x) (h1 : x < (l.length : Int)) : rd (l ++ m) x = rd l x := by
 unfold rd
 rw [List.getD_eq_getElem?_getD, List.getD_eq_getElem?_getD, List.getElem?_append_left (by omega)]
theorem rel_lo (h : OkO nm code dat data syms rels) {j : Nat} (hj : j < rels.length) : 0 ≤ (rl rels j).f0 := by
 have h1 := (relE_ok (h.orels j hj)).1
 have h2 := lastR_lo code (syms.length : Int) rels j (fun q hq => h.orels q (by omega))
 omega
set_option maxRecDepth 100000 in
theorem tgt_one : (tgtS 1).2 = false := by kernel_rfl
theorem sizeS_mk {ns nr : Nat} (h0 : nameS nm = true) (h1 : code.length ≤ 16384) (h2 : ns ≤ 256) (h3 : nr ≤ code.length) (h4 : 0 ≤ dat) (h5 : dat + (data.length : Int) ≤ 4096) : (sizeS nm code dat data ns nr).1 = 0 := by
 unfold sizeS
 rw [if_pos h0, if_neg (by omega), if_neg (by omega), if_neg (by omega), if_neg (by omega), if_neg (by omega), if_neg (by omega)]
theorem OkO.word (h : OkO nm code dat data syms rels) (hl : code.length < 16384) : OkO nm (code ++ [1]) dat data syms rels := by
 obtain ⟨a0, a1, a2, a3, a4, a5⟩ := sizeS_ok h.osize
 have hlen : (code ++ [1]).length = code.length + 1 := by simp
 refine ⟨sizeS_mk a0 (by omega) a2 (by omega) a4 a5, fun j hj => ?_, fun j hj => ?_, fun k hk => ?_⟩
 ·
  obtain ⟨b0, b1, b2, b3, b4, b5, b6⟩ := symE_ok (h.osyms j hj)
  exact symE_mk b0 b1 b2 b3 b4 (by omega) b6
 ·
  obtain ⟨b0, b1, b2, b3, b4, b5⟩ := relE_ok (h.orels j hj)
  have hlo := rel_lo h hj
  exact relE_mk b0 (by omega) b2 b3 (by rw [rd_app hlo b1]; exact b4) (by rw [rd_app hlo b1]; exact b5)
 ·
  unfold plainE
  by_cases e : k < code.length
  ·
   have hs := h.oscan k e
   unfold plainE at hs
   rw [rd_app (by omega) (by omega)]
   by_cases c : (tgtS (rd code (k : Int))).2 = true
   ·
    rw [if_pos c] at hs ⊢
    by_cases c2 : (tgtS (rd code (k : Int))).1 > (code.length : Int)
    ·
     rw [if_pos c2] at hs; exact absurd hs (by decide)
    ·
     rw [if_neg (by omega)]
   ·
    rw [if_neg c]
  ·
   obtain rfl : k = code.length := by omega
   have : rd (code ++ [1]) (code.length : Int) = 1 := by unfold rd; simp
   rw [this, tgt_one, if_neg (by decide)]
theorem rl_take {n j : Nat} (hj : j < n) : rl (rels.take n) j = rl rels j := by
 unfold rl rd_T82
 simp only [List.getD_eq_getElem?_getD, Int.toNat_natCast, List.getElem?_take_of_lt hj]
theorem lastR_take {n j : Nat} (hj : j ≤ n) : lastR (rels.take n) j = lastR rels j := by
 cases j with
 | zero => rfl
 | succ j => show (rl (rels.take n) j).f0 = (rl rels j).f0; rw [rl_take (by omega)]
theorem OkO.less (h : OkO nm code dat data syms rels) {n : Nat} (hn : n ≤ rels.length) : OkO nm code dat data syms (rels.take n) := by
 obtain ⟨a0, a1, a2, a3, a4, a5⟩ := sizeS_ok h.osize
 have hlen : (rels.take n).length = n := by simp; omega
 refine ⟨sizeS_mk a0 a1 a2 (by omega) a4 a5, h.osyms, fun j hj => ?_, h.oscan⟩
 rw [hlen] at hj
 obtain ⟨b0, b1, b2, b3, b4, b5⟩ := relE_ok (h.orels j (by omega))
 refine relE_mk ?_ ?_ ?_ ?_ ?_ ?_
 ·
  rw [rl_take hj, lastR_take (by omega)]; exact b0
 ·
  rw [rl_take hj]; exact b1
 ·
  rw [rl_take hj]; exact b2
 ·
  rw [rl_take hj]; exact b3
 ·
  rw [rl_take hj]; exact b4
 ·
  rw [rl_take hj]; exact b5
theorem sy_app {s : Sym} {j : Nat} (hj : j < syms.length) : sy (syms ++ [s]) j = sy syms j := by
 rw [sy_at (by simp; omega), sy_at hj, List.getElem_append_left hj]
theorem seen_app {s : Sym} : ∀ j, j ≤ syms.length → nameSeen (syms ++ [s]) j = nameSeen syms j
  | 0, _ => rfl
  | j + 1, h => by
    show addS (nameSeen (syms ++ [s]) j) (keyN (sy (syms ++ [s]) j).f0) = addS (nameSeen syms j) (keyN (sy syms j).f0)
    rw [seen_app j (by omega), sy_app (by omega)]
theorem OkO.twice (h : OkO nm code dat data syms rels) (hl : syms.length < 256) {p : Nat} (hp : p < syms.length) {s : Sym} (hs : s.f0 = (sy syms p).f0) : chkO nm code dat data (syms ++ [s]) rels = (26, (syms.length : Int)) := by
  obtain ⟨a0, a1, a2, a3, a4, a5⟩ := sizeS_ok h.osize
  have hlen : (syms ++ [s]).length = syms.length + 1 := by simp
  have hlast : sy (syms ++ [s]) syms.length = s := by rw [sy_at (by omega)]; simp
  have hsy : symsS (syms ++ [s]) (code.length : Int) = (26, (syms.length : Int)) := by
    have h26 : symE (syms ++ [s]) (code.length : Int) syms.length = 26 := by
      rw [symE_eq, hlast, if_pos (by rw [hs]; exact (symE_ok (h.osyms p hp)).1), if_pos (by rw [seen_app _ (Nat.le_refl _), seen_iff]; exact ⟨p, hp, hs.symm⟩)]
    have := firstS_at (g := symE (syms ++ [s]) (code.length : Int)) (n := (syms ++ [s]).length) (i := syms.length) (by omega) (fun j hj => by
      obtain ⟨b0, b1, b2, b3, b4, b5, b6⟩ := symE_ok (h.osyms j hj)
      rw [← sy_app (s := s) hj] at b0 b1 b2 b3 b4 b5 b6
      rw [← seen_app (s := s) j (by omega)] at b1
      exact symE_mk b0 b1 b2 b3 b4 b5 b6) (by rw [h26]; decide)
    rw [h26] at this
    exact this
  unfold chkO
  rw [if_pos (sizeS_mk a0 a1 (by omega) a3 a4 a5), hsy]
  exact if_neg (show ¬ (26 : Int) = 0 by decide)
end
end Go.Proofs.YtiaohbbafaaibabGreatDoor.P

/- What the Go functions named below come to, as plain functions, each with its proof; written by this session's prt.py over the kit's print. -/
namespace Go.Proofs.YtiaohbbafaaibabGreatDoor.P
open Go.RowKit Go.Proofs.YtiaohbbafaaibabGreatDoorW.PrintWords Go.Proofs.YtiaohbbafaaibabGreatDoorW.PrintLast Go.Proofs.YtiaohbbafaaibabGreatDoorW.PrintMore
attribute [local go_sem] max2_int min2_int max_two min_two max_three min_three max_four min_four   -- for this text's walks alone
set_option linter.unusedVariables false
set_option linter.unusedSimpArgs false

theorem eqA65 (d : Nat) (w : World) (x0 y0 : ByteArray) (x1 y1 : Int) (x2 y2 : Int) :
    (Op.equalIn (d + 2) 65 (.agg #[.string x0, .int .i8 x1, .int .i64 x2]) (.agg #[.string y0, .int .i8 y1, .int .i64 y2])).run Tryz.prog w = .ok (x0.toList == y0.toList && (x1 == y1 && (x2 == y2))) w := by
  refine eqA_of Tryz.underlying65 (by kernel_rfl) ?_
  refine eqf_cons (by rfl) (by go_simp; rfl) (by go_simp; rfl) (by go_simp) ?_
  refine eqf_cons (by rfl) (by go_simp; rfl) (by go_simp; rfl) (by go_simp) ?_
  exact eqf_last (by rfl) (by go_simp; rfl) (by go_simp; rfl) (by go_simp)
end Go.Proofs.YtiaohbbafaaibabGreatDoor.P

/- What the Go functions named below come to, as plain functions, each with its proof; written by this session's prt.py over the kit's print. -/
namespace Go.Proofs.YtiaohbbafaaibabGreatDoor.P
open Go.RowKit Go.Proofs.YtiaohbbafaaibabGreatDoorW.PrintWords Go.Proofs.YtiaohbbafaaibabGreatDoorW.PrintLast Go.Proofs.YtiaohbbafaaibabGreatDoorW.PrintMore
attribute [local go_sem] max2_int min2_int max_two min_two max_three min_three max_four min_four   -- for this text's walks alone
set_option linter.unusedVariables false
set_option linter.unusedSimpArgs false

theorem eqA82 (d : Nat) (w : World) (x0 y0 : Int) (x1 y1 : Int) :
    (Op.equalIn (d + 2) 82 (.agg #[.int .i64 x0, .int .i64 x1]) (.agg #[.int .i64 y0, .int .i64 y1])).run Tryz.prog w = .ok (x0 == y0 && (x1 == y1)) w := by
  refine eqA_of Tryz.underlying82 (by kernel_rfl) ?_
  refine eqf_cons (by rfl) (by go_simp; rfl) (by go_simp; rfl) (by go_simp) ?_
  exact eqf_last (by rfl) (by go_simp; rfl) (by go_simp; rfl) (by go_simp)
end Go.Proofs.YtiaohbbafaaibabGreatDoor.P

/- OWN TEXT: lists of their own with marks behind them: what is behind such a list, and that it is filled round by round. -/
namespace Go.Proofs.YtiaohbbafaaibabGreatDoor.P
open Go.RowKit Go.Proofs.YtiaohbbafaaibabGreatDoorW.PrintWords Go.Proofs.YtiaohbbafaaibabGreatDoorW.PrintLast Go.Proofs.YtiaohbbafaaibabGreatDoorW.PrintMore
set_option linter.unusedVariables false
set_option linter.unusedSimpArgs false

def mkB (i : Nat) : Int := (282 + 7 * (i : Int)) % 256
theorem mkB_eq {i : Int} (h0 : 0 ≤ i) (h1 : i ≤ 2000000000000000) : mkB i.toNat = (wrap64 ((wrap64 (279 + (wrap64 (7 * i)))) + 3)) % 256 := by
 rw [wrap64_id (x := 7 * i) (by omega) (by omega), wrap64_id (x := 279 + 7 * i) (by omega) (by omega), wrap64_id (by omega) (by omega)]
 unfold mkB
 omega
theorem getB {α : Type} {l : List α} {i : Int} {z : α} (h0 : 0 ≤ i) (h1 : decide (i < (l.length : Int)) = true) : l[i.toNat]? = some (l.getD i.toNat z) := by
 have h1 := of_decide_eq_true h1
 rw [List.getD_eq_getElem?_getD, List.getElem?_eq_getElem (by omega)]
 rfl
def marksL {α : Type} (mk : Nat → α) (n : Nat) : List α := (List.range 64).map fun j => mk (n + j)
theorem marksL_length {α : Type} (mk : Nat → α) (n : Nat) : (marksL mk n).length = 64 := by simp [marksL]
theorem marksL_at {α : Type} (mk : Nat → α) (n j : Nat) (h : j < 64) : (marksL mk n)[j]? = some (mk (n + j)) := by simp [marksL, h]
structure FillW {α : Type} (l : List α) (mk : Nat → α) (x : List α) (i : Int) : Prop where
  len : x.length = l.length + 64
  lo : 0 ≤ i
  big : l.length ≤ 1000000000000000
  same : ∀ j : Nat, (j : Int) < i → x[j]? = (l ++ marksL mk l.length)[j]?
theorem FillW.start {α : Type} {l : List α} {mk : Nat → α} {z : α} {x : List α} {j : Int} (hl : l.length ≤ 9223372036854775807) (hj : wrap64 ((l.length : Int) + 64) = j) (h0 : decide (0 ≤ j) = true) (h1 : decide (j.toNat ≤ 1000000000000000) = true) (hx : x = List.replicate j.toNat z) : FillW l mk x 0 := by
 have h0 := of_decide_eq_true h0
 have h1 := of_decide_eq_true h1
 have e : j = (l.length : Int) + 64 := by
  unfold wrap64 at hj
  omega
 exact ⟨by rw [hx, List.length_replicate]; omega, Int.le_refl _, by omega, fun j hj => by omega⟩
theorem FillW.copy {α : Type} {l : List α} {mk : Nat → α} {x y : List α} {i : Int} {v : α} (h : FillW l mk x i) (h0 : decide (i < (l.length : Int)) = true) (hv : l[i.toNat]? = some v) (hy : y = x.set i.toNat v) : FillW l mk y (wrap64 (i + 1)) := by
 have h0 := of_decide_eq_true h0
 have hb := h.big
 have hlo := h.lo
 have e : wrap64 (i + 1) = i + 1 := by unfold wrap64; omega
 refine ⟨by rw [hy, List.length_set, h.len], by omega, h.big, fun j hj => ?_⟩
 rw [e] at hj
 rw [hy]
 by_cases c : j = i.toNat
 ·
  subst c
  rw [List.getElem?_set_self (by rw [h.len]; omega), List.getElem?_append_left (by omega), hv]
 ·
  rw [List.getElem?_set_ne (by omega), h.same j (by omega)]
theorem FillW.mark {α : Type} {l : List α} {mk : Nat → α} {x y : List α} {i : Int} {v : α} (h : FillW l mk x i) (h0 : decide (i < (l.length : Int)) = false) (h1 : decide (i < (x.length : Int)) = true) (hv : mk i.toNat = v) (hy : y = x.set i.toNat v) : FillW l mk y (wrap64 (i + 1)) := by
 have h0 := of_decide_eq_false h0
 have h1 := of_decide_eq_true h1
 have hlen := h.len
 have hb := h.big
 have hlo := h.lo
 have e : wrap64 (i + 1) = i + 1 := by unfold wrap64; omega
 refine ⟨by rw [hy, List.length_set, h.len], by omega, h.big, fun j hj => ?_⟩
 rw [e] at hj
 rw [hy]
 by_cases c : j = i.toNat
 ·
  subst c
  rw [List.getElem?_set_self (by rw [h.len]; omega), List.getElem?_append_right (by omega), marksL_at _ _ _ (by omega), ← hv]
  congr 2
  omega
 ·
  rw [List.getElem?_set_ne (by omega), h.same j (by omega)]
theorem FillW.done {α : Type} {l : List α} {mk : Nat → α} {x : List α} {i : Int} (h : FillW l mk x i) (h1 : decide (i < (x.length : Int)) = false) : x = l ++ marksL mk l.length := by
 have h1 := of_decide_eq_false h1
 have hlen := h.len
 apply List.ext_getElem?
 intro j
 by_cases c : (j : Int) < i
 ·
  exact h.same j c
 ·
  rw [List.getElem?_eq_none (by omega), List.getElem?_eq_none (by rw [List.length_append, marksL_length]; omega)]
theorem FillW.lt {α : Type} {l : List α} {mk : Nat → α} {x : List α} {i : Int} (h : FillW l mk x i) : l.length ≤ 1000000000000000 := h.big
def WideC {α : Type} (d : Kd α) (e : Nat) (W : World) (base : Nat) (v : Value) (l : List α) (mk : Nat → α) : Prop :=
 ∃ A c, v = .slice A l.length c ∧ Kd.R d e W base (fun _ => True) (.slice A (l.length + 64) c) (l ++ marksL mk l.length)
theorem WideC.of {α : Type} {d : Kd α} {e : Nat} {W : World} {base : Nat} {A : Option Addr} {c n m : Nat} {x l : List α} {mk : Nat → α} (hR : Kd.R d e W base (fun _ => True) (.slice A n c) x) (hn : n = x.length) (hx : x = l ++ marksL mk l.length) (hm : m = l.length) : WideC d e W base (.slice A m c) l mk := by
 subst hx
 rw [List.length_append, marksL_length] at hn
 subst hn
 exact ⟨A, c, by rw [hm], hR⟩
theorem WideC.below {α : Type} {d : Kd α} {e : Nat} {W W1 : World} {base : Nat} {v : Value} {l : List α} {mk : Nat → α} (h : WideC d e W base v l mk) (hb : Below W.heap.size W W1) : WideC d e W1 base v l mk := by
 obtain ⟨A, c, h1, h2⟩ := h
 exact ⟨A, c, h1, Kd.R_below h2 hb⟩
theorem WideC.lower {α : Type} {d : Kd α} {e : Nat} {W : World} {base base' : Nat} {v : Value} {l : List α} {mk : Nat → α} (h : WideC d e W base v l mk) (hb : base' ≤ base) : WideC d e W base' v l mk := by
 obtain ⟨A, c, h1, h2⟩ := h
 exact ⟨A, c, h1, Kd.R_lower h2 hb⟩
theorem cut_wide {P : Program} (t e : TypeId) (kh : IntKind) {i : TypeInfo} (ht : P.underlying t = some (.slice e)) (hi : P.info? e = some i) (A : Option Addr) (n c : Nat) (j : Int) (h0 : 0 ≤ j) (hm : j ≤ c) :
  ∀ W : World, (Instr.slice t (.slice A n c) none (some (.int kh j)) none).run P W = .ok (.slice A j.toNat c) W := by
 intro W
 have hel : P.elem t = e := by simp [Program.elem, ht]
 have hu : P.underlying t = some (.slice (P.elem t)) := by rw [hel]; exact ht
 have ha : (A.map fun x => x.add 0) = A := by cases A <;> simp [Addr.add]
 rw [run_slice_h W t A n c hu kh j h0 (by omega), hel]
 simp [sizeOf, typeInfo, hi, sliced, Result.andThen, ha]
end Go.Proofs.YtiaohbbafaaibabGreatDoor.P

/- What the Go functions named below come to, as plain functions, each with its proof; written by this session's prt.py over the kit's print. -/
namespace Go.Proofs.YtiaohbbafaaibabGreatDoor.P
open Go.RowKit Go.Proofs.YtiaohbbafaaibabGreatDoorW.PrintWords Go.Proofs.YtiaohbbafaaibabGreatDoorW.PrintLast Go.Proofs.YtiaohbbafaaibabGreatDoorW.PrintMore
attribute [local go_sem] max2_int min2_int max_two min_two max_three min_three max_four min_four   -- for this text's walks alone
set_option linter.unusedVariables false
set_option linter.unusedSimpArgs false

attribute [local go_sem high] eqA65 eqA82
def pleatref00_EqBytes.l0 : Nat → List Int → List Int → Int → Option (Bool)
 | 0, _, _, _ => none
 | k + 1, x0, x1, x5 => if x5 < (x0.length : Int) then (if 0 ≤ x5 then (if x5 < (x1.length : Int) then (if (rd x0 x5) = (rd x1 x5) then (pleatref00_EqBytes.l0 k x0 x1 (wrap64 (x5 + 1))) else (some false)) else (none)) else (none)) else (some true)
def pleatref00_EqBytes.f (k : Nat) (l0 : List Int) (l1 : List Int) : Option (Bool) := if (l0.length : Int) = (l1.length : Int) then (pleatref00_EqBytes.l0 k l0 l1 0) else (some false)
theorem pleatref00_EqBytes.mono_l : ∀ k, (∀ y0 y1 y2, LeO (pleatref00_EqBytes.l0 k y0 y1 y2) (pleatref00_EqBytes.l0 (k + 1) y0 y1 y2))
 | 0 => fun _ _ _ r h => by simp [pleatref00_EqBytes.l0] at h
 | k + 1 => by
  have ih0 := pleatref00_EqBytes.mono_l k
  ·
   intro y0 y1 y2
   unfold pleatref00_EqBytes.l0
   repeat' first
   | (with_reducible first | exact ih0 _ _ _ | exact LeO.refl _ | exact LeO.none _ | refine LeO.ite ?_ ?_ | refine LeO.bind ?_ (fun _ => ?_))
theorem pleatref00_EqBytes.mono : ∀ a0 a1 k, LeO (pleatref00_EqBytes.f k a0 a1) (pleatref00_EqBytes.f (k + 1) a0 a1) := by
 intro a0 a1 k
 have ih0 := pleatref00_EqBytes.mono_l k
 unfold pleatref00_EqBytes.f
 repeat' first
   | (with_reducible first | exact ih0 _ _ _ | exact LeO.refl _ | exact LeO.none _ | refine LeO.ite ?_ ?_ | refine LeO.bind ?_ (fun _ => ?_))
set_option maxHeartbeats 8000000 in
set_option maxRecDepth 100000 in
theorem pleatref00_EqBytes.calls (k : Nat) (A0 : Option Addr) (c0 : Nat) (l0 : List Int) (A1 : Option Addr) (c1 : Nat) (l1 : List Int) (r : Bool) (w : World) (hr0 : Kd.C (Kd.int .u8) w A0 l0.length l0) (hc0 : l0.length ≤ c0) (hr1 : Kd.C (Kd.int .u8) w A1 l1.length l1) (hc1 : l1.length ≤ c1) (h : pleatref00_EqBytes.f k l0 l1 = some r) :
  Calls Tryz.prog 10 #[.slice A0 l0.length c0, .slice A1 l1.length c1] w fun e w' => e = .returned (.bool r) ∧ Drawn0 w w' := by
 have HR0 := Aside0.mk hr0
 have HC0 := Aside0.mk hc0
 clear hr0 hc0
 have HR1 := Aside0.mk hr1
 have HC1 := Aside0.mk hc1
 clear hr1 hc1
 have H : (if (l0.length : Int) = (l1.length : Int) then (pleatref00_EqBytes.l0 k l0 l1 0) else (some false)) = some r := h
 clear h
 by_cases c3 : (l0.length : Int) = (l1.length : Int)
 ·
  rw [if_pos c3] at H
  have c3b0 : ((l0.length : Int) == (l1.length : Int)) = true := beq_iff_eq.mpr c3
  have c3b1 : ((l0.length : Int) != (l1.length : Int)) = false := bne_eq_false_iff_eq.mpr c3
  have c3b2 : (l0.length == l1.length) = true := by first | simpa using c3 | (simp at c3 ⊢; omega)
  clear c3
  have H' := Aside0.mk H
  clear H
  go_enter Tryz.func10, Tryz.ntmps10
  go_wp2
  repeat (go_quiet (fail); try go_wp2)
  go_loopg [5] k (fun kq v5 w' => ∃ (x5_1 : Int), v5 = .int .i64 x5_1 ∧ Aside0 (pleatref00_EqBytes.l0 kq l0 l1 x5_1 = some r) ∧ Aside0 (kq ≤ k) ∧ Drawn0 w w')
  case atStart => exact ⟨(0), (by first | rfl | (simp; done) | (simp [*]; done)), H', ⟨Nat.le_refl _⟩, by repeat (first | exact Drawn0.refl _ | apply Drawn0.step)⟩
  case round =>
   clear H'
   try clear c1
   try clear p2
   try clear c3
   try clear c3b0
   try clear c3b1
   try clear c3b2
   obtain ⟨x5_1, rfl, HA, HK1, ⟨m1, rfl⟩⟩ := hrel
   cases gk with
   | zero => exact absurd HA.out (by simp [pleatref00_EqBytes.l0])
   | succ k1 =>
    have H := HA.out
    clear HA
    simp only [pleatref00_EqBytes.l0] at H
    by_cases c4 : x5_1 < (l0.length : Int)
    ·
     rw [if_pos c4] at H
     have c4b0 : decide (x5_1 < (l0.length : Int)) = true := decide_eq_true c4
     clear c4
     by_cases c5 : 0 ≤ x5_1
     ·
      rw [if_pos c5] at H
      have c5b0 : decide (0 ≤ x5_1) = true := decide_eq_true c5
      clear c5
      by_cases c6 : x5_1 < (l1.length : Int)
      ·
       rw [if_pos c6] at H
       have c6b0 : decide (x5_1 < (l1.length : Int)) = true := decide_eq_true c6
       clear c6
       by_cases c7 : (rd l0 x5_1) = (rd l1 x5_1)
       ·
        rw [if_pos c7] at H
        have c7b0 : ((rd l0 x5_1) == (rd l1 x5_1)) = true := beq_iff_eq.mpr c7
        have c7b1 : ((rd l0 x5_1) != (rd l1 x5_1)) = false := bne_eq_false_iff_eq.mpr c7
        clear c7
        have H' := Aside0.mk H
        clear H
        have p426 : 0 ≤ (x5_1 : Int) := of_decide_eq_true ‹_›
        have q426 : x5_1 < (l0.length : Int) := of_decide_eq_true ‹_›
        obtain ⟨ad426, e426, hx426_0⟩ := Kd.at_int HR0.out x5_1 p426 q426
        cases e426
        replace p426 := eq_true p426
        replace q426 := eq_true q426
        have p427 : 0 ≤ (x5_1 : Int) := of_decide_eq_true ‹_›
        have q427 : x5_1 < (l1.length : Int) := of_decide_eq_true ‹_›
        obtain ⟨ad427, e427, hx427_0⟩ := Kd.at_int HR1.out x5_1 p427 q427
        cases e427
        replace p427 := eq_true p427
        replace q427 := eq_true q427
        go_wp2
        repeat (go_quiet (fail); try go_wp2)
        go_roundg k1
        case measure => have := HK1.out; omega
        case rel => exact ⟨(wrap64 (x5_1 + 1)), (by first | rfl | (simp; done) | (simp [*]; done)), H', ⟨by have := HK1.out; omega⟩, by repeat (first | exact Drawn0.refl _ | apply Drawn0.step)⟩
       ·
        rw [if_neg c7] at H
        have c7b0 : ((rd l0 x5_1) == (rd l1 x5_1)) = false := beq_eq_false_iff_ne.mpr c7
        have c7b1 : ((rd l0 x5_1) != (rd l1 x5_1)) = true := bne_iff_ne.mpr c7
        obtain rfl := Option.some.inj H
        have p426 : 0 ≤ (x5_1 : Int) := of_decide_eq_true ‹_›
        have q426 : x5_1 < (l0.length : Int) := of_decide_eq_true ‹_›
        obtain ⟨ad426, e426, hx426_0⟩ := Kd.at_int HR0.out x5_1 p426 q426
        cases e426
        replace p426 := eq_true p426
        replace q426 := eq_true q426
        have p427 : 0 ≤ (x5_1 : Int) := of_decide_eq_true ‹_›
        have q427 : x5_1 < (l1.length : Int) := of_decide_eq_true ‹_›
        obtain ⟨ad427, e427, hx427_0⟩ := Kd.at_int HR1.out x5_1 p427 q427
        cases e427
        replace p427 := eq_true p427
        replace q427 := eq_true q427
        go_wp2
        repeat (go_quiet (fail); try go_wp2)
        go_ret
        exact ⟨by first | rfl | (simp; done) | (simp [*]; done), by repeat (first | exact Drawn0.refl _ | apply Drawn0.step)⟩
      ·
       rw [if_neg c6] at H
       exact absurd H (by simp)
     ·
      rw [if_neg c5] at H
      exact absurd H (by simp)
    ·
     rw [if_neg c4] at H
     have c4b0 : decide (x5_1 < (l0.length : Int)) = false := decide_eq_false c4
     clear c4
     obtain rfl := Option.some.inj H
     go_wp2
     repeat (go_quiet (fail); try go_wp2)
     go_ret
     exact ⟨by first | rfl | (simp; done) | (simp [*]; done), by repeat (first | exact Drawn0.refl _ | apply Drawn0.step)⟩
 ·
  rw [if_neg c3] at H
  have c3b0 : ((l0.length : Int) == (l1.length : Int)) = false := beq_eq_false_iff_ne.mpr c3
  have c3b1 : ((l0.length : Int) != (l1.length : Int)) = true := bne_iff_ne.mpr c3
  have c3b2 : (l0.length == l1.length) = false := by first | simpa using c3 | (simp at c3 ⊢; omega)
  obtain rfl := Option.some.inj H
  go_enter Tryz.func10, Tryz.ntmps10
  go_wp2
  repeat (go_quiet (fail); try go_wp2)
  go_ret
  exact ⟨by first | rfl | (simp; done) | (simp [*]; done), by repeat (first | exact Drawn0.refl _ | apply Drawn0.step)⟩
end Go.Proofs.YtiaohbbafaaibabGreatDoor.P

/- OWN TEXT: plain laws for the statement WireRound: what is heavy, copies, equality; an object that may be written. -/
namespace Go.Proofs.YtiaohbbafaaibabGreatDoor.P
open Go.RowKit Go.Maps Go.Proofs.YtiaohbbafaaibabGreatDoorW.PrintWords Go.Proofs.YtiaohbbafaaibabGreatDoorW.PrintLast Go.Proofs.YtiaohbbafaaibabGreatDoorW.PrintMore Go.Proofs.YtiaohbbafaaibabGreatDoor.Arr Go.Proofs.YtiaohbbafaaibabGreatDoor.MapB
set_option linter.unusedVariables false
theorem Ev.countE {α : Type} {g : Nat → Int → Option α} {r : α} {n : Nat} (step : ∀ i : Nat, i < n → Ev (fun k => g k ((i + 1 : Nat) : Int)) r → Ev (fun k => g k (i : Int)) r) (last : Ev (fun k => g k (n : Int)) r) : Ev (fun k => g k ((0 : Nat) : Int)) r := by
 have : ∀ d i : Nat, i + d = n → Ev (fun k => g k (i : Int)) r := by
  intro d
  induction d with
  | zero => intro i hi; rw [show i = n by omega]; exact last
  | succ d ih => intro i hi; exact step i (by omega) (ih (i + 1) (by omega))
 exact this n 0 (by omega)
theorem eqBytesE (l : List Int) (hl : l.length ≤ 1000000000) : Ev (fun k => pleatref00_EqBytes.f k l l) true := by
 unfold pleatref00_EqBytes.f
 refine Ev.iteT rfl (Ev.countE (g := fun k i => pleatref00_EqBytes.l0 k l l i) (n := l.length) (fun i hi IH => ?_) ?_)
 ·
  refine Ev.succ (Ev.iteT (by omega) (Ev.iteT (by omega) (Ev.iteT (by omega) (Ev.iteT rfl ?_))))
  rw [wrapS hi (by omega)]
  exact IH
 ·
  exact Ev.succ (Ev.iteF (by omega) (Ev.val rfl))
section
variable {nm : ByteArray} {code : List Int} {dat : Int} {data : List Int} {syms : List Sym} {rels : List Rel}
structure Lite (nm : ByteArray) (code : List Int) (data : List Int) (syms : List Sym) (rels : List Rel) : Prop where
  hn : nm.size ≤ 1048576
  h1 : code.length ≤ 32768
  h3 : data.length ≤ 32768
  h4 : syms.length ≤ 1048576
  h5 : rels.length ≤ 32768
end
end Go.Proofs.YtiaohbbafaaibabGreatDoor.P

/- OWN TEXT: the reference's check of an object comes to the same as the program's. -/
set_option linter.unusedVariables false
set_option linter.unusedSimpArgs false
namespace Go.Proofs.YtiaohbbafaaibabGreatDoor.P
open Go.RowKit Go.Maps Go.Proofs.YtiaohbbafaaibabGreatDoorW.PrintWords Go.Proofs.YtiaohbbafaaibabGreatDoorW.PrintLast Go.Proofs.YtiaohbbafaaibabGreatDoorW.PrintMore Go.Proofs.YtiaohbbafaaibabGreatDoor.MapB

theorem ofo2 (l : List Sym) (hl : l.length ≤ 1000000000) (a : ByteArray) (c : List Int) (dd : Int) (e : List Int) (f : List Rel) (nm : ByteArray) : Ev (fun k => pleatref03_Of.f k a c dd e l f nm) (ofN nm l 0) := by
 unfold pleatref03_Of.f
 have : ∀ d i : Nat, i + d = l.length → Ev (fun k => pleatref03_Of.l0 k nm (i : Int) a c dd e l f) (ofN nm (l.drop i) i) := by
  intro d
  induction d with
  | zero =>
   intro i hi
   rw [List.drop_eq_nil_of_le (by omega)]
   exact Ev.succ (Ev.iteF (by omega) (Ev.val rfl))
  | succ d ih =>
   intro i hi
   have hlt : i < l.length := by omega
   rw [drop_get hlt]
   unfold ofN
   refine Ev.succ (Ev.iteT (by omega) (Ev.iteT (by omega) ?_))
   simp only [sy_get hlt, wrapS hlt hl]
   refine Ev.ite2 (fun h => Ev.val (by rw [if_pos h])) (fun h => ?_)
   rw [if_neg h]
   exact ih (i + 1) (by omega)
 exact this l.length 0 (by omega)
def LetC (c : Int) : Prop := (97 ≤ c ∧ c ≤ 122) ∨ (65 ≤ c ∧ c ≤ 90) ∨ c = 95
instance (c : Int) : Decidable (LetC c) := by unfold LetC; infer_instance
theorem letter1 (c : Int) : pleatref03_letter.f c = some (decide (LetC c)) := by
 by_cases h : LetC c
 ·
  rw [decide_eq_true h]
  unfold LetC at h
  unfold pleatref03_letter.f
  repeat' split
  all_goals first
   | rfl
   | exact congrArg some (beq_iff_eq.mpr (by omega))
 ·
  rw [decide_eq_false h]
  unfold LetC at h
  unfold pleatref03_letter.f
  repeat' split
  all_goals first
   | (exfalso; omega)
   | exact congrArg some (beq_eq_false_iff_ne.mpr (by omega))
def restS (s : ByteArray) : Nat → Nat → Bool
 | 0, _ => true
 | d + 1, i => decide (OkC i (bt s (i : Int))) && restS s d (i + 1)
theorem restS_iff (s : ByteArray) : ∀ d i, restS s d i = true ↔ ∀ j, i ≤ j → j < i + d → OkC j (bt s (j : Int))
  | 0, i => by simp [restS]; intro j h1 h2; omega
  | d + 1, i => by
    unfold restS
    rw [Bool.and_eq_true, restS_iff s d (i + 1), decide_eq_true_eq]
    constructor
    · rintro ⟨h1, h2⟩ j hj hk
      by_cases e : j = i
      · subst e; exact h1
      · exact h2 j (by omega) (by omega)
    · intro h
      exact ⟨h i (by omega) (by omega), fun j hj hk => h j (by omega) (by omega)⟩
theorem name3 (s : ByteArray) : Ev (fun k => pleatref03_Name.f k s) (nameS s) := by
 unfold pleatref03_Name.f
 refine Ev.ite2 (fun h => ?_) (fun h => ?_)
 ·
  refine Ev.succ ?_
  simp only [pleatref03_Name.j0, if_true]
  refine Ev.val ?_
  unfold nameS
  exact (decide_eq_false (by omega)).symm
 refine Ev.ite2 (fun h2 => ?_) (fun h2 => ?_)
 ·
  refine Ev.succ ?_
  simp only [pleatref03_Name.j0, if_true]
  refine Ev.val ?_
  unfold nameS
  exact (decide_eq_false (by omega)).symm
 refine Ev.iteT (by omega) (Ev.bind0 (letter1 _) ?_)
 by_cases c : LetC (bt s 0)
 ·
  rw [decide_eq_true c]
  have hl : ∀ d i : Nat, 0 < i → i + d = s.size → Ev (fun k => pleatref03_Name.l0 k s (i : Int)) (restS s d i) := by
   intro d
   induction d with
   | zero => intro i hp hi; exact Ev.succ (Ev.iteF (by omega) (Ev.val rfl))
   | succ d ih =>
    intro i hp hi
    have IH := ih (i + 1) (by omega) (by omega)
    have hw := wrapS (i := i) (n := s.size) (by omega) (by omega)
    refine Ev.succ (Ev.iteT (by omega) (Ev.iteT (by omega) (Ev.bind0 (letter1 _) ?_)))
    simp only [hw]
    unfold restS
    refine Ev.ite2 (fun h => ?_) (fun h => ?_)
    ·
     rw [decide_eq_true_eq] at h
     unfold LetC at h
     rw [decide_eq_true (show OkC i (bt s (i : Int)) by unfold OkC; omega), Bool.true_and]
     exact IH
    ·
     rw [decide_eq_true_eq] at h
     unfold LetC at h
     refine Ev.ite2 (fun h3 => Ev.ite2 (fun h4 => ?_) (fun h4 => Ev.ite2 (fun h5 => ?_) (fun h5 => Ev.val ?_))) (fun h3 => Ev.ite2 (fun h5 => ?_) (fun h5 => Ev.val ?_))
     ·
      rw [decide_eq_true (show OkC i (bt s (i : Int)) by unfold OkC; omega), Bool.true_and]
      exact IH
     ·
      rw [decide_eq_true (show OkC i (bt s (i : Int)) by unfold OkC; omega), Bool.true_and]
      exact IH
     ·
      rw [decide_eq_false (show ¬ OkC i (bt s (i : Int)) by unfold OkC; omega), Bool.false_and]
     ·
      rw [decide_eq_true (show OkC i (bt s (i : Int)) by unfold OkC; omega), Bool.true_and]
      exact IH
     ·
      rw [decide_eq_false (show ¬ OkC i (bt s (i : Int)) by unfold OkC; omega), Bool.false_and]
  refine Ev.succ ?_
  simp only [pleatref03_Name.j0, Bool.not_true, Bool.false_eq_true, if_false]
  refine (hl (s.size - 1) 1 (by omega) (by omega)).to ?_
  unfold nameS
  rw [Bool.eq_iff_iff, restS_iff, decide_eq_true_eq]
  constructor
  ·
   intro hr
   refine ⟨by omega, by omega, fun j hj => ?_⟩
   by_cases e : j = 0
   ·
    subst e
    unfold LetC at c
    unfold OkC
    simp only [Int.natCast_zero]
    omega
   ·
    exact hr j (by omega) (by omega)
  ·
   rintro ⟨_, _, hr⟩ j h1 h2
   exact hr j (by omega)
 ·
  rw [decide_eq_false c]
  refine Ev.succ ?_
  simp only [pleatref03_Name.j0, Bool.not_false, if_true]
  refine Ev.val ?_
  unfold nameS
  refine (decide_eq_false (fun hall => c ?_)).symm
  have := hall.2.2 0 (by omega)
  unfold OkC at this
  simp only [Int.natCast_zero] at this
  unfold LetC
  omega

section
variable (nm : ByteArray) (code : List Int) (dat : Int) (data : List Int) (syms : List Sym) (rels : List Rel)
theorem size3 : Ev (fun k => pleatref03_size.f k nm code dat data syms rels) (sizeS nm code dat data syms.length rels.length) := by
 have h : ∀ b, b = nameS nm → (if b = true then (if (code.length : Int) > 16384 then (some ((21 : Int), ((-1) : Int))) else (if (syms.length : Int) > 256 then (some (21, (-2))) else (if (rels.length : Int) > (code.length : Int) then (some (21, (-3))) else (if dat < 0 then (some (25, (-1))) else (if dat > 4096 then (some (25, (-1))) else (if (data.length : Int) > (wrap64 (4096 - dat)) then (some (25, (-1))) else (some (0, 0)))))))) else (some (20, (-1)))) = some (sizeS nm code dat data syms.length rels.length) := by
  intro b hb
  subst hb
  unfold sizeS
  by_cases c0 : nameS nm = true
  ·
   rw [if_pos c0, if_pos c0]
   by_cases c1 : (code.length : Int) > 16384
   ·
    rw [if_pos c1, if_pos c1]
   rw [if_neg c1, if_neg c1]
   by_cases c2 : (syms.length : Int) > 256
   ·
    rw [if_pos c2, if_pos c2]
   rw [if_neg c2, if_neg c2]
   by_cases c3 : (rels.length : Int) > (code.length : Int)
   ·
    rw [if_pos c3, if_pos c3]
   rw [if_neg c3, if_neg c3]
   by_cases c4 : dat < 0
   ·
    rw [if_pos c4, if_pos c4]
   rw [if_neg c4, if_neg c4]
   by_cases c5 : dat > 4096
   ·
    rw [if_pos c5, if_pos c5]
   rw [if_neg c5, if_neg c5]
   rw [show wrap64 (4096 - dat) = 4096 - dat from wrap64_id (by omega) (by omega)]
   split <;> rfl
  ·
   rw [if_neg c0, if_neg c0]
 unfold pleatref03_size.f
 exact Ev.bind (name3 nm) ((h _ rfl) ▸ Ev.now _)
theorem symbols3 (hl : syms.length ≤ 100000000) : Ev (fun k => pleatref03_symbols.f k nm code dat data syms rels) (symsS syms (code.length : Int)) := by
  unfold pleatref03_symbols.f
  refine Ev.upto (g := fun k i => pleatref03_symbols.l0 k i nm code dat data syms rels) (n := syms.length) (fun i => ∀ j, j < i → symE syms (code.length : Int) j = 0) (fun i hi hz IH => ?_) (fun hz => ?_) 0 (by omega) (fun j hj => absurd hj (Nat.not_lt_zero _))
  · have hse := symE_eq syms (code.length : Int) i
    have hbad : symE syms (code.length : Int) i ≠ 0 → symsS syms (code.length : Int) = (symE syms (code.length : Int) i, (i : Int)) := fun hne => firstS_at hi hz hne
    have hgo : symE syms (code.length : Int) i = 0 → _ := fun h0 => IH (fun j hj => by
      by_cases e : j = i
      · rw [e]; exact h0
      · exact hz j (by omega))
    clear IH hz
    have hos := ofN_seen hi
    rw [sy_at hi] at hos
    rw [sy_at hi] at hse
    have hlen : (syms.length : Int) ≤ 100000000 := by omega
    refine Ev.succ (Ev.iteT (by omega) (Ev.iteT (by omega) ?_))
    simp only [sy_get hi, wrapS hi (by omega)]
    generalize hs : syms[i] = s at hos hse ⊢
    obtain ⟨sn, sk, sa⟩ := s
    simp only at hos hse ⊢
    generalize symE syms (code.length : Int) i = g at hse hbad hgo
    refine Ev.bind (name3 sn) (Ev.ite2 (fun h => ?_) (fun h => ?_))
    · rw [if_pos h] at hse
      refine Ev.bind (ofo2 syms (by omega) nm code dat data rels sn) (Ev.ite2 (fun h2 => ?_) (fun h2 => ?_))
      · rw [if_neg (by rw [hos.1 h2]; decide)] at hse
        refine Ev.ite2 (fun h3 => ?_) (fun h3 => ?_)
        · rw [if_pos h3] at hse
          refine Ev.succ ?_
          simp only [pleatref03_symbols.j1, if_true]
          exact Ev.val (by rw [hbad (by rw [hse]; decide), hse])
        · rw [if_neg h3] at hse
          refine Ev.succ ?_
          simp only [pleatref03_symbols.j1, decide_eq_true_eq]
          refine Ev.ite2 (fun h4 => ?_) (fun h4 => ?_)
          · rw [if_pos h4] at hse
            exact Ev.val (by rw [hbad (by rw [hse]; decide), hse])
          · rw [if_neg h4] at hse
            refine Ev.ite2 (fun h5 => ?_) (fun h5 => ?_)
            · rw [if_pos h5] at hse
              exact Ev.val (by rw [hbad (by rw [hse]; decide), hse])
            rw [if_neg h5] at hse
            refine Ev.ite2 (fun h6 => ?_) (fun h6 => ?_)
            · rw [if_pos h6] at hse
              exact Ev.val (by rw [hbad (by rw [hse]; decide), hse])
            rw [if_neg h6] at hse
            refine Ev.ite2 (fun h7 => Ev.ite2 (fun h8 => ?_) (fun h8 => ?_)) (fun h7 => ?_)
            · rw [if_pos h7, if_pos h8] at hse
              simp only [wrapS hi (show syms.length ≤ 1000000000 by omega)]
              exact hgo hse
            · rw [if_pos h7, if_neg h8] at hse
              exact Ev.val (by rw [hbad (by rw [hse]; decide), hse])
            · rw [if_neg h7] at hse
              simp only [wrapS hi (show syms.length ≤ 1000000000 by omega)]
              exact hgo hse
      · rw [if_pos (by
          rw [← Bool.not_eq_false]
          exact fun e => h2 (hos.2 e))] at hse
        exact Ev.val (by rw [hbad (by rw [hse]; decide), hse])
    · rw [if_neg h] at hse
      exact Ev.val (by rw [hbad (by rw [hse]; decide), hse])
  · exact Ev.succ (Ev.iteF (by omega) (Ev.val (firstS_zero hz).symm))
theorem relocs3 (hw : wordsO code = true) (hc : code.length ≤ 100000000) (hl : rels.length ≤ 100000000) : Ev (fun k => pleatref03_relocs.f k nm code dat data syms rels) (firstS (relE code (syms.length : Int) rels) rels.length rels.length) := by
  unfold pleatref03_relocs.f
  refine Ev.upto (g := fun k i => pleatref03_relocs.l0 k i nm code dat data syms rels) (n := rels.length) (fun i => ∀ j, j < i → relE code (syms.length : Int) rels j = 0) (fun i hi hz IH => ?_) (fun hz => ?_) 0 (by omega) (fun j hj => absurd hj (Nat.not_lt_zero _))
  · have hse := relE_eq code (syms.length : Int) rels i
    have hlo := lastR_lo _ _ _ i hz
    have hbad : relE code (syms.length : Int) rels i = 24 → firstS (relE code (syms.length : Int) rels) rels.length rels.length = (24, (i : Int)) := fun h24 => by rw [firstS_at hi hz (by rw [h24]; decide), h24]
    have hgo : relE code (syms.length : Int) rels i = 0 → _ := fun h0 => IH (fun j hj => by
      by_cases e : j = i
      · rw [e]; exact h0
      · exact hz j (by omega))
    clear IH hz
    rw [rl_at hi] at hse
    have hprev : 0 < i → lastR rels i = (rd_T82 rels (wrap64 ((i : Int) - 1))).f0 := fun hp => by
      obtain ⟨m, rfl⟩ : ∃ m, i = m + 1 := ⟨i - 1, by omega⟩
      rw [show wrap64 (((m + 1 : Nat) : Int) - 1) = (m : Int) by rw [wrap64_id (by omega) (by omega)]; omega]
      rfl
    have hw1 : 0 < i → wrap64 ((i : Int) - 1) = (i : Int) - 1 := fun hp => wrap64_id (by omega) (by omega)
    refine Ev.succ (Ev.iteT (by omega) (Ev.iteT (by omega) ?_))
    simp only [rl_get hi]
    generalize hs : rels[i] = s at hse ⊢
    obtain ⟨sa, sm⟩ := s
    simp only at hse ⊢
    have bad : ∀ {c : Bool}, c = true → relE code (syms.length : Int) rels i = 24 → Ev (fun k => pleatref03_relocs.j1 k (i : Int) c nm code dat data syms rels sa sm) (firstS (relE code (syms.length : Int) rels) rels.length rels.length) := fun hc h24 => by
      subst hc
      refine Ev.succ ?_
      simp only [pleatref03_relocs.j1, if_true]
      exact Ev.val (hbad h24).symm
    have tail : ¬ sa ≤ lastR rels i → ¬ sa < 0 → ¬ sa ≥ (code.length : Int) → Ev (fun k => if sm < 0 then pleatref03_relocs.j1 k (i : Int) true nm code dat data syms rels sa sm else pleatref03_relocs.j1 k (i : Int) (decide (sm ≥ (syms.length : Int))) nm code dat data syms rels sa sm) (firstS (relE code (syms.length : Int) rels) rels.length rels.length) := fun n1 n2 n3 => by
      rw [if_neg n1, if_neg n3] at hse
      refine Ev.ite2 (fun h => bad rfl (by rw [hse, if_pos h])) (fun h => ?_)
      rw [if_neg h] at hse
      by_cases h4 : sm ≥ (syms.length : Int)
      · exact bad (decide_eq_true h4) (by rw [hse, if_pos h4])
      rw [if_neg h4] at hse
      rw [decide_eq_false h4]
      have hxr : 0 ≤ rd code sa ∧ rd code sa < 4294967296 := by
        rw [show sa = ((sa.toNat : Nat) : Int) by omega, rd_get (by omega)]
        exact wordsO_at hw (List.getElem_mem _)
      refine Ev.succ ?_
      simp only [pleatref03_relocs.j1, Bool.false_eq_true, if_false]
      refine Ev.iteT (by omega) (Ev.iteT (by omega) (Ev.bind (tgt2 hxr.1 hxr.2) (Ev.ite2 (fun h5 => Ev.ite2 (fun h6 => ?_) (fun h6 => ?_)) (fun h5 => ?_))))
      · rw [if_pos h5, if_pos h6] at hse
        simp only [wrapS hi (show rels.length ≤ 1000000000 by omega)]
        exact hgo hse
      · rw [if_pos h5, if_neg h6] at hse
        exact Ev.val (hbad hse).symm
      · rw [if_neg h5] at hse
        exact Ev.val (hbad hse).symm
    refine Ev.ite2 (fun h1 => bad rfl (by rw [hse, if_pos (by omega)])) (fun h1 => ?_)
    refine Ev.ite2 (fun h2 => bad rfl ?_) (fun h2 => ?_)
    · rw [hse]
      by_cases h3 : sa ≤ lastR rels i
      · rw [if_pos h3]
      · rw [if_neg h3, if_pos h2]
    refine Ev.ite2 (fun h3 => ?_) (fun h3 => ?_)
    · have hp : 0 < i := by omega
      rw [hw1 hp] at hprev ⊢
      have hprev := hprev hp
      refine Ev.iteT (by omega) (Ev.iteT (by omega) ?_)
      simp only [← hprev]
      refine Ev.ite2 (fun h4 => bad rfl (by rw [hse, if_pos h4])) (fun h4 => tail h4 h1 h2)
    · obtain rfl : i = 0 := by omega
      exact tail (by show ¬ sa ≤ -1; omega) h1 h2
  · exact Ev.succ (Ev.iteF (by omega) (Ev.val (firstS_zero hz).symm))
theorem chk3 (hw : wordsO code = true) (hs : syms.length ≤ 100000000) (hc : code.length ≤ 100000000) (hl : rels.length ≤ 100000000) : Ev (fun k => pleatref03_Check.f k nm code dat data syms rels) (chkO nm code dat data syms rels) := by
  unfold pleatref03_Check.f chkO
  refine Ev.bind (size3 nm code dat data syms rels) (Ev.ite2 (fun h => ?_) (fun h => Ev.val (by rw [if_neg h])))
  rw [if_pos h]
  refine Ev.bind (symbols3 nm code dat data syms rels hs) (Ev.ite2 (fun h => ?_) (fun h => Ev.val (by rw [if_neg h])))
  rw [if_pos h]
  refine Ev.bind (relocs3 nm code dat data syms rels hw hc hl) (Ev.ite2 (fun h => ?_) (fun h => ?_))
  · have hz := firstS_iff h
    have hrs : relocsS code (syms.length : Int) rels = scanS (scanE code (markB rels rels.length)) code.length code.length := relocs_scan hz
    have hpl := scan_plain hz
    have hpair : (if (relocsS code (syms.length : Int) rels).1 = 0 then ((0 : Int), (0 : Int)) else relocsS code (syms.length : Int) rels) = relocsS code (syms.length : Int) rels := by
      rw [hrs]
      have key : ∀ d i, i + d = code.length → (∀ q, q < i → scanE code (markB rels rels.length) q = 0) → (if (scanS (scanE code (markB rels rels.length)) code.length code.length).1 = 0 then ((0 : Int), (0 : Int)) else scanS (scanE code (markB rels rels.length)) code.length code.length) = scanS (scanE code (markB rels rels.length)) code.length code.length := by
        intro d
        induction d with
        | zero => intro i hi hq; rw [scanS_zero (fun q h => hq q (by omega)), if_pos rfl]
        | succ d ih =>
          intro i hi hq
          by_cases e : scanE code (markB rels rels.length) i = 0
          · exact ih (i + 1) (by omega) (fun p hp => by
              by_cases e2 : p = i
              · rw [e2]; exact e
              · exact hq p (by omega))
          · rw [scanS_at (by omega) hq e, if_neg e]
      exact key code.length 0 (by omega) (fun q hq => absurd hq (Nat.not_lt_zero _))
    rw [hpair, hrs]
    refine Ev.upto (g := fun k i => pleatref03_Check.l0 k i nm code dat data syms rels) (n := code.length) (fun i => ∀ j, j < i → scanE code (markB rels rels.length) j = 0) (fun i hi hq IH => ?_) (fun hq => ?_) 0 (by omega) (fun j hj => absurd hj (Nat.not_lt_zero _))
    · have hse := hpl i
      have hgo : scanE code (markB rels rels.length) i = 0 → _ := fun h0 => IH (fun j hj => by
        by_cases e : j = i
        · rw [e]; exact h0
        · exact hq j (by omega))
      have hxr : 0 ≤ rd code (i : Int) ∧ rd code (i : Int) < 4294967296 := by
        rw [rd_get hi]
        exact wordsO_at hw (List.getElem_mem _)
      refine Ev.succ (Ev.iteT (by omega) (Ev.iteT (by omega) (Ev.bind (tgt2 hxr.1 hxr.2) (Ev.ite2 (fun h1 => Ev.ite2 (fun h2 => ?_) (fun h2 => ?_)) (fun h1 => ?_)))))
      · rw [if_pos h1, if_pos h2] at hse
        refine Ev.val ?_
        rw [scanS_at hi hq (by rw [hse]; decide), hse, wrap64_id (by omega) (by omega)]
      · rw [if_pos h1, if_neg h2] at hse
        simp only [wrapS hi (show code.length ≤ 1000000000 by omega)]
        exact hgo hse
      · rw [if_neg h1] at hse
        simp only [wrapS hi (show code.length ≤ 1000000000 by omega)]
        exact hgo hse
    · exact Ev.succ (Ev.iteF (by omega) (Ev.val (scanS_zero hq).symm))
  · refine Ev.val ?_
    have e : relocsS code (syms.length : Int) rels = firstS (relE code (syms.length : Int) rels) rels.length rels.length := by
      unfold relocsS
      rw [if_neg h]
    rw [e, if_neg h]
end
end Go.Proofs.YtiaohbbafaaibabGreatDoor.P

/- OWN TEXT: plain laws: the document's bytes of an object are the bytes that are written. -/
namespace Go.Proofs.YtiaohbbafaaibabGreatDoor.P
open Go.RowKit Go.Maps Go.Proofs.YtiaohbbafaaibabGreatDoorW.PrintWords Go.Proofs.YtiaohbbafaaibabGreatDoorW.PrintLast Go.Proofs.YtiaohbbafaaibabGreatDoorW.PrintMore Go.Proofs.YtiaohbbafaaibabGreatDoor.Arr Go.Proofs.YtiaohbbafaaibabGreatDoor.MapB
set_option linter.unusedVariables false
theorem Sum_f (l : List Int) (hl : l.length ≤ 1000000000) : Ev (fun k => pleatref07_Sum.f k l) (sumN l) := by
 have main : ∀ d i : Nat, ∀ s : Int, i + d = l.length → Ev (fun k => pleatref07_Sum.l0 k l s (i : Int)) (sumF s (l.drop i)) := by
  intro d
  induction d with
  | zero =>
   intro i s hi
   rw [List.drop_eq_nil_of_le (by omega)]
   exact Ev.succ (Ev.iteF (by omega) (Ev.val rfl))
  | succ d ih =>
   intro i s hi
   have hlt : i < l.length := by omega
   have hs : sumF s (l.drop i) = sumF ((s * 31 + l[i]) % 4294967296) (l.drop (i + 1)) := by rw [List.drop_eq_getElem_cons hlt]; rfl
   refine Ev.succ (Ev.iteT (by omega) (Ev.iteT (by omega) ?_))
   rw [wrapS hlt (by omega), P.rd_get hlt, hs, show (31 * s % 4294967296 + l[i] % 4294967296) % 4294967296 = (s * 31 + l[i]) % 4294967296 by omega]
   exact ih (i + 1) _ (by omega)
 exact main l.length 0 0 (by omega)
end Go.Proofs.YtiaohbbafaaibabGreatDoor.P

/- OWN TEXT: the document's reader of an object, walked: Read. -/
namespace Go.Proofs.YtiaohbbafaaibabGreatDoor.P
open Go.RowKit Go.Maps Go.Proofs.YtiaohbbafaaibabGreatDoorW.PrintWords Go.Proofs.YtiaohbbafaaibabGreatDoorW.PrintLast Go.Proofs.YtiaohbbafaaibabGreatDoorW.PrintMore Go.Proofs.YtiaohbbafaaibabGreatDoor.Arr Go.Proofs.YtiaohbbafaaibabGreatDoor.MapB
set_option linter.unusedVariables false
set_option linter.unusedSimpArgs false
theorem readC_end (l : List Int) : readC l = if (endT l (ra5 l).rs (sumN (l.take (ra5 l).rs.at_.toNat))).1 = 0 then chkR l else endT l (ra5 l).rs (sumN (l.take (ra5 l).rs.at_.toNat)) := by
 have e6 : (a6 l).rs = (numR l 4 (ra5 l).rs).2 := rfl
 unfold readC endS endT
 rw [e6]
 cases he : (numR l 4 (ra5 l).rs).2.er with
 | some x => simp [he]
 | none =>
  simp only []
  by_cases hlt : (numR l 4 (ra5 l).rs).2.at_ < (l.length : Int)
  ·
   rw [if_pos hlt, if_pos hlt]
   unfold failsR
   rw [he]
   simp
  ·
   rw [if_neg hlt, if_neg hlt, he]
   simp only []
   by_cases hs : (numR l 4 (ra5 l).rs).1 = sumN (l.take (ra5 l).rs.at_.toNat)
   ·
    rw [if_pos hs, if_pos hs, if_pos rfl]
   ·
    rw [if_neg hs, if_neg hs]
    exact (if_neg (by decide : ¬ (28 : Int) = 0)).symm
theorem ra3_rels (l : List Int) : (ra3 l).rels = [] := by
 unfold ra3
 rw [eachR_keep RO.rels (f2 l) (fun _ => rfl)]
 show (ra1 l).rels = []
 unfold ra1
 rw [eachR_keep RO.rels (f1 l) (fun _ => rfl)]
 rfl
theorem ra3_code (l : List Int) (hby : ∀ x ∈ l, 0 ≤ x ∧ x < 256) : (ra3 l).code.length ≤ 16384 := by
 have h := ra4_code l hby
 unfold ra4 at h
 rw [eachR_keep RO.code (f3 l) (fun _ => rfl)] at h
 exact h
theorem ra5_short (l : List Int) (hby : ∀ x ∈ l, 0 ≤ x ∧ x < 256) : (ra5 l).code.length ≤ 16384 ∧ (ra5 l).syms.length ≤ 256 ∧ (ra5 l).rels.length ≤ 16384 := by
 have hc : (ra5 l).code = (ra4 l).code := by unfold ra5; rw [eachR_keep RO.code (f4 l) (fun _ => rfl)]; rfl
 have hs : (ra5 l).syms = (ra4 l).syms := by unfold ra5; rw [eachR_keep RO.syms (f4 l) (fun _ => rfl)]; rfl
 have h4 := ra4_code l hby
 refine ⟨by rw [hc]; exact h4, ?_, ?_⟩
 ·
  rw [hs]
  have h1 := eachR_len (fun a => a.syms.length) (f3 l) (fun a => by show (a.syms ++ [_]).length = _; rw [List.length_append]; rfl) RO.rs (countR l 256 (ra3 l).rs).1.toNat (cntR l 256 (ra3 l))
  have h2 := countR_range l 256 (ra3 l).rs hby (by decide)
  have h3 : (cntR l 256 (ra3 l)).syms.length = 0 := by show (ra3 l).syms.length = 0; rw [ra3_syms]; rfl
  show (eachR (f3 l) RO.rs (countR l 256 (ra3 l).rs).1.toNat (cntR l 256 (ra3 l))).syms.length ≤ _
  omega
 ·
  have h1 := eachR_len (fun a => a.rels.length) (f4 l) (fun a => by show (a.rels ++ [_]).length = _; rw [List.length_append]; rfl) RO.rs (countR l ((ra4 l).code.length : Int) (ra4 l).rs).1.toNat (cntR l ((ra4 l).code.length : Int) (ra4 l))
  have h2 := countR_range l ((ra4 l).code.length : Int) (ra4 l).rs hby (by omega)
  have h3 : (cntR l ((ra4 l).code.length : Int) (ra4 l)).rels.length = 0 := by show (ra4 l).rels.length = 0; rw [ra4_rels]; rfl
  show (eachR (f4 l) RO.rs (countR l ((ra4 l).code.length : Int) (ra4 l).rs).1.toNat (cntR l ((ra4 l).code.length : Int) (ra4 l))).rels.length ≤ _
  omega
set_option maxHeartbeats 60000000 in
set_option maxRecDepth 100000 in
theorem refRead.calls (A : Option Addr) (c : Nat) (l : List Int) (w : World) (hC : Kd.C (Kd.int .u8) w A l.length l) (hcc : l.length ≤ c) (hl : l.length ≤ 1000000000) (hby : ∀ x ∈ l, 0 ≤ x ∧ x < 256) :
    Calls Tryz.prog 17 #[.slice A l.length c] w fun e w' => ∃ ov, e = .returned (.tuple #[.agg ov, .int .i64 (readC l).1, .int .i64 (readC l).2]) ∧ Below w.heap.size w w' ∧ ((readC l).1 = 0 → ∃ v1 v3 v4 v5, ov = #[.string (ra5 l).nm, v1, .int .i64 (ra5 l).dat, v3, v4, v5] ∧ Kd.R (Kd.int .u32) 78 w' w.heap.size (fun _ => True) v1 (ra5 l).code ∧ Kd.R (Kd.int .i64) 2 w' w.heap.size (fun _ => True) v3 (ra5 l).data ∧ Kd.R k65 65 w' w.heap.size (fun _ => True) v4 (ra5 l).syms ∧ Kd.R k82 82 w' w.heap.size (fun _ => True) v5 (ra5 l).rels) ∧ ((readC l).1 ≠ 0 → ov = zObj) := by
  have hu1 := Tryz.underlying27
  have hu4 := Tryz.underlying110
  have hu5 := Tryz.underlying31
  have HC := Aside0.mk hC
  have HCC := Aside0.mk hcc
  have HL := Aside0.mk (show l.length ≤ 1099511627776 by omega)
  have HBY := Aside0.mk hby
  obtain ⟨ks, hks⟩ := (Sum_f (l.take (ra5 l).rs.at_.toNat) (by rw [List.length_take]; omega)).rounds
  obtain ⟨hs1, hs2, hs3⟩ := ra5_short l hby
  obtain ⟨kc, hkc⟩ := (chk3 (ra5 l).nm (ra5 l).code (ra5 l).dat (ra5 l).data (ra5 l).syms (ra5 l).rels (ra5_words l hby) (by omega) (by omega) (by omega)).rounds
  have HKS := Aside0.mk hks
  have HKC := Aside0.mk hkc
  have HB := Aside0.mk (Below.refl w.heap.size w)
  clear hC hcc hl hby hks hs1 hs2 hs3 hkc
  go_enter Tryz.func17, Tryz.ntmps17
  go_upto_region 2 with (first | ((with_reducible refine gate_dst (N := 2) rfl ?_); refine box_event ?hg (N := 2) ?hd (cs := zObj) (t := 27) ?hr ?_; (case hd => rfl); (case hg => rfl); (case hr => first | (go_simp; done) | (go_simp; rfl)); intro q hq_ w1 BQ_ hb_; have HQ := Aside0.mk (gwQ hq_ HB.out); replace HB := Aside0.mk (bsQ hb_ HB.out); have BQ := Aside0.mk BQ_; clear BQ_ hb_ hq_) | ((with_reducible refine gate_dst (N := 14) rfl ?_); refine box_event ?hg (N := 14) ?hd (cs := #[.slice A l.length c, .int .i64 0, .int .i64 0, .int .i64 0]) (t := 110) ?hr ?_; (case hd => rfl); (case hg => rfl); (case hr => first | (go_simp; done) | (go_simp; rfl)); intro r hr_ w2 BR_ hb_; have GR := Aside0.mk (gwQ hr_ HB.out); replace HB := Aside0.mk (bsQ hb_ HB.out); replace BQ := Aside0.mk (blk_below BQ.out hb_); have BR := Aside0.mk BR_; clear BR_ hr_ hb_))
  have HT := Aside0.mk (show Tk w w2 r A c l ⟨0, none⟩ from ⟨HB.out, BR.out, GR.out, Int.le_refl _, by show (0 : Int) ≤ _; omega, fun _ => by show (0 : Int) ≤ _; omega⟩)
  clear HB BR
  go_upto_region 3 with ((go_at_call 68; refine (tBegin.calls w _ r A c l HT.out HC.out HL.out HBY.out ⟨#[80, 76, 79, 49]⟩ rfl (fun i hi => by match i, hi with | 0, _ => exact fun _ => rfl | 1, _ => exact fun _ => rfl | 2, _ => exact fun _ => rfl | 3, _ => exact fun _ => rfl | i + 4, h => exact absurd h (by omega))).mono ?_; rintro e_ w3 ⟨rfl, hr_, hg_⟩; replace BQ := Aside0.mk ((hg_.block q (blk_lt BQ.out) (fun z => ne_types BQ.out HT.out.blk (by decide) (Option.some.inj z))).trans BQ.out); replace HT := Aside0.mk hr_; clear hr_ hg_))
  go_upto_region 4 with ((go_at_call 69; refine (tName.calls w _ r A c l _ HT.out HC.out HL.out HBY.out HCC.out).mono ?_; rintro e_ w4 ⟨rfl, hr_, hg_⟩; replace BQ := Aside0.mk ((hg_.block q (blk_lt BQ.out) (fun z => ne_types BQ.out HT.out.blk (by decide) (Option.some.inj z))).trans BQ.out); replace HT := Aside0.mk hr_; clear hr_ hg_))
  have hbx := below_alloc (Below.refl w4.heap.size w4) (.cells #[.string (textR l ⟨4, magicE l 4⟩).1, .slice none 0 0, .int .i64 0, .slice none 0 0, .slice none 0 0, .slice none 0 0] 27)
  have H := Aside0.mk (show TkO w (w4.alloc (.cells #[.string (textR l ⟨4, magicE l 4⟩).1, .slice none 0 0, .int .i64 0, .slice none 0 0, .slice none 0 0, .slice none 0 0] 27)) r w4.heap.size q w.heap.size A c l (ra0 l) (.slice none 0 0) (.slice none 0 0) (.slice none 0 0) (.slice none 0 0) from
    ⟨HT.out.below hbx, (MapKept.heap_alloc w4 _).1, ⟨blk_below BQ.out hbx, Nat.ne_of_lt (blk_lt BQ.out)⟩, HT.out.low.size, Kd.R_nil _ _ _ _ _, Kd.R_nil _ _ _ _ _, Kd.R_nil _ _ _ _ _, Kd.R_nil _ _ _ _ _⟩)
  clear hbx HT BQ
  generalize w4.alloc (.cells #[.string (textR l ⟨4, magicE l 4⟩).1, .slice none 0 0, .int .i64 0, .slice none 0 0, .slice none 0 0, .slice none 0 0] 27) = w5 at H ⊢
  generalize w4.heap.size = g at H ⊢
  obtain ⟨n, hn⟩ : ∃ n : Nat, (n : Int) = (countR l 16384 (ra0 l).rs).1 := ⟨(countR l 16384 (ra0 l).rs).1.toNat, Int.toNat_of_nonneg (countR_range l 16384 (ra0 l).rs HBY.out (by omega)).1⟩
  have HN := Aside0.mk hn
  have HN2 := Aside0.mk (show n ≤ 16384 by have := (countR_range l 16384 (ra0 l).rs HBY.out (by omega)).2; omega)
  clear hn
  go_upto_block 0 with ((go_at_call 70; refine (tCount.calls w _ r A c l (ra0 l).rs H.out.tk HC.out HL.out HBY.out 16384).mono ?_; rw [← HN.out]; rintro e_ w6 ⟨rfl, hr_, hg_⟩; have H3 := Aside0.mk (show TkO w w6 r g q w.heap.size A c l (cntR l 16384 (ra0 l)) (.slice none 0 0) (.slice none 0 0) (.slice none 0 0) (.slice none 0 0) from H.out.step hr_ hg_); clear hr_ hg_ H))
  have HE := Aside0.mk (show eachR (f1 l) RO.rs n (cntR l 16384 (ra0 l)) = ra1 l by unfold ra1; rw [← HN.out, Int.toNat_natCast])
  have HL0 := Aside0.mk (show (cntR l 16384 (ra0 l)).code.length ≤ 0 by show (ra0 l).code.length ≤ 0; exact Nat.le_refl _)
  go_cut [8] from 22 to 40 (fun u8 wx => ∃ v, Aside0 (TkO w wx r g q w.heap.size A c l (ra1 l) v (.slice none 0 0) (.slice none 0 0) (.slice none 0 0)))
  case first =>
    go_wp2_with fail
    go_loopw [8] (fun u8 wr => ∃ (i m : Nat) (b : RO) (v : Value), u8 = .int .i64 (i : Int) ∧ i + m = n ∧ b.code.length ≤ i ∧ Aside0 (TkO w wr r g q w.heap.size A c l b v (.slice none 0 0) (.slice none 0 0) (.slice none 0 0) ∧ eachR (f1 l) RO.rs m b = ra1 l)) (fun u8 _ => n - (intOf u8).toNat)
    case atStart => exact ⟨0, n, _, _, rfl, by omega, HL0.out, ⟨H3.out, HE.out⟩⟩
    case round =>
      clear H3 HE HL0
      obtain ⟨i, m, b, v, rfl, him, hbl, HH⟩ := hrel
      have H := Aside0.mk HH.out.1
      have HE := Aside0.mk HH.out.2
      clear HH
      by_cases hlt : i < n
      · have hltb : decide ((i : Int) < (n : Int)) = true := decide_eq_true (by omega)
        have hltc : (i < n) = True := eq_true hlt
        have HI := Aside0.mk (And.intro hlt hbl)
        obtain ⟨m, rfl⟩ : ∃ m', m = m' + 1 := ⟨m - 1, by omega⟩
        have HM := Aside0.mk him
        cases hs : b.rs.er with
        | some x =>
          have hd2 := H.out.tk.c2 (b := 27) (by rw [hs]; rfl)
          have HB := Aside0.mk (show b = ra1 l by rw [← HE.out]; exact (eachR_stop (f1 l) RO.rs _ hs).symm)
          clear hs hlt him hbl
          go_wp2_with fail
          go_meet
          case rel => exact ⟨_, ⟨by rw [← HB.out]; exact H.out⟩⟩
        | none =>
          have hd2 := H.out.tk.c2 (b := 0) (by rw [hs]; rfl)
          have HE1 := Aside0.mk (show eachR (f1 l) RO.rs m (f1 l b) = ra1 l by rw [← HE.out]; exact (eachR_go (f1 l) RO.rs m hs).symm)
          have hwr : wrap64 ((i : Int) + 1) = ((i + 1 : Nat) : Int) := by rw [wrap64_id (by omega) (by have := HN2.out; omega)]; rfl
          have HWR := Aside0.mk hwr
          clear hs hlt him hbl HE hwr
          go_upto_region 8 with fail
          have Hn := Aside0.mk (H.out.below (below_drew (Below.refl _ _)))
          have hc1 : wr.drew.cell? ⟨g, 1, none⟩ = some v := (blk_cell Hn.out.blk 1).trans rfl
          clear H hd2
          have H := Hn
          clear Hn
          refine start_ (n := 8) (S := fun w' => w'.cell? ⟨g, 1, none⟩ = some v) (ds := [7]) #[false, false, false, false, false, false, false, false] (by kernel_rfl) rfl rfl hc1 (fun hHeld => ?_)
          generalize wr.drew = wd at H hc1 hHeld ⊢
          refine pure_ (i := 0) (N := some 34) (v := ?_) (a' := ?_) #[true, false, false, false, false, false, false, false] rfl rfl (by kernel_rfl) (fun _ _ _ h => h) (Or.inl ⟨by rfl, ?_⟩) ?_ ?_
          rotate_left
          ·
            intro w'
            go_simp
            with_reducible rfl
          rotate_left
          ·
            simp only [Act.put, List.setIfInBounds_toArray, List.set_cons_zero, List.set_cons_succ, i64_w, i32_w]
            rfl
          refine take_ (i := 1) (N := some 35) (v := ?_) (a' := ?_) #[true, true, false, false, false, false, false, false] rfl rfl (by kernel_rfl) (fun _ _ _ h => h) (Or.inl ⟨by rfl, ?_⟩) hHeld ?_ ?_
          rotate_left
          ·
            rintro w' s0
            go_simp
            with_reducible rfl
          rotate_left
          ·
            simp only [Act.put, List.setIfInBounds_toArray, List.set_cons_zero, List.set_cons_succ, i64_w, i32_w]
            rfl
          refine pure_ (i := 2) (N := some 36) (v := ?_) (a' := ?_) #[true, true, true, false, false, false, false, false] rfl rfl (by kernel_rfl) (fun _ _ _ h => h) (Or.inl ⟨by rfl, ?_⟩) ?_ ?_
          rotate_left
          ·
            intro w'
            go_simp
            with_reducible rfl
          rotate_left
          ·
            simp only [Act.put, List.setIfInBounds_toArray, List.set_cons_zero, List.set_cons_succ, i64_w, i32_w]
            rfl
          refine one_ (i := 3) (N := some 37) #[true, true, true, true, false, false, false, false] rfl rfl (by kernel_rfl) (by decide) (fun K hK => ?_)
          refine call_ 71 #[.pointer (some ⟨r, 0, none⟩)] rfl rfl (by first | rfl | (go_simp; done) | (go_simp; rfl)) ?_
          refine (tFour.calls w _ r A c l b.rs H.out.tk HC.out HL.out HBY.out).mono ?_
          rintro e_ w7 ⟨rfl, hr_, hg_⟩
          refine ⟨_, rfl, ?_⟩
          have H1 := Aside0.mk (H.out.step hr_ hg_)
          have hd1 : w7.cell? ⟨g, 1, none⟩ = some v := (blk_cell H1.out.blk 1).trans rfl
          refine hK.out _ _ hd1 (fun hHeld => ?_)
          clear hr_ hg_ H hc1
          clear hK K
          refine norm_ (a' := ?_) ?_ ?_
          rotate_left
          ·
            show Act.put _ (some 37) _ = _
            simp only [Act.put, List.setIfInBounds_toArray, List.set_cons_zero, List.set_cons_succ, i64_w, i32_w]
            rfl
          refine one_ (i := 4) (N := some 38) #[true, true, true, true, true, false, false, false] rfl rfl (by kernel_rfl) (by decide) (fun K hK => ?_)
          refine value_ (w1 := ?_) (v := ?_) (by rfl) rfl ?_ ?_
          rotate_left 2
          ·
            go_simp
            constructor
            ·
              rfl
            ·
              rfl
          refine hK.out _ _ ((World.cell?_alloc_lt _ _ _ (World.block_lt_of_cell? _ _ hd1)).trans hd1) (fun hHeld => ?_)
          clear hK K
          refine norm_ (a' := ?_) ?_ ?_
          rotate_left
          ·
            show Act.put _ (some 38) _ = _
            simp only [Act.put, List.setIfInBounds_toArray, List.set_cons_zero, List.set_cons_succ, i64_w, i32_w]
            rfl
          refine one_ (i := 5) (N := some 39) #[true, true, true, true, true, true, false, false] rfl rfl (by kernel_rfl) (by decide) (fun K hK => ?_)
          refine Kd.R_append_step (Kd.int .u32) (w0 := w) w.heap.size rfl (.tmp 35) (.tmp 38) 22 78 (.int .u32 0) 4 rfl Tryz.underlying22 info_u32 rfl (by decide) (by decide) v b.code ((numR l 4 b.rs).1) [.int .u32 ((numR l 4 b.rs).1)] (fun _ => True) (fun _ => False) rfl rfl rfl (fun _ hk => hk.elim) (fun _ _ => trivial) H1.out.r1 H1.out.tk.low H1.out.tk.low.size (by have := HI.out; have := HN2.out; omega) ?_
          intro u w8 hu2 hlow hgr _
          obtain ⟨Ao, co, eo⟩ := Kd.R_slice hu2
          obtain ⟨nn, hnn⟩ : ∃ nn, nn = (b.code ++ [(numR l 4 b.rs).1]).length := ⟨_, rfl⟩
          rw [← hnn] at eo
          subst eo
          have hx := TkO.app1 H1.out hu2 hlow hgr
          have HX := Aside0.mk hx.2
          have hz1 : w8.cell? ⟨g, 1, none⟩ = some v := (blk_cell hx.1 1).trans rfl
          have hzf := blk_frozen hx.1 1
          refine hK.out _ _ hz1 (fun hHeld => ?_)
          clear hlow hgr hx hd1 hu2 hnn
          clear hK K
          refine norm_ (a' := ?_) ?_ ?_
          rotate_left
          ·
            show Act.put _ (some 39) _ = _
            simp only [Act.put, List.setIfInBounds_toArray, List.set_cons_zero, List.set_cons_succ, i64_w, i32_w]
            rfl
          refine pure_ (i := 6) (N := some 40) (v := ?_) (a' := ?_) #[true, true, true, true, true, true, true, false] rfl rfl (by kernel_rfl) (fun _ _ _ h => h) (Or.inl ⟨by rfl, ?_⟩) ?_ ?_
          rotate_left
          ·
            intro w'
            go_simp
            with_reducible rfl
          rotate_left
          ·
            simp only [Act.put, List.setIfInBounds_toArray, List.set_cons_zero, List.set_cons_succ, i64_w, i32_w]
            rfl
          refine last_ (i := 7) (N := none) #[true, true, true, true, true, true, true, true] rfl rfl (by kernel_rfl) (by decide) (fun K hK => ?_)
          refine skip_ (w1 := ?_) (by rfl) rfl ?_ ?_
          rotate_left
          ·
            go_simp
            rfl
          refine hK.out _ _ ?_
          clear hK K
          refine done_ (by kernel_rfl) ?_
          clear hz1 hzf
          go_wp2_with fail
          go_roundw
          case measure => have hq := HI.out; (try rw [HWR.out]); simp only [intOf]; omega
          case rel => exact ⟨i + 1, m, f1 l b, _, by first | rfl | rw [HWR.out], by have := HM.out; omega, by show (b.code ++ [_]).length ≤ _; rw [List.length_append]; have := HI.out; simp only [List.length_cons, List.length_nil]; omega, ⟨HX.out, HE1.out⟩⟩
      · have hltb : decide ((i : Int) < (n : Int)) = false := decide_eq_false (by omega)
        have hltc : (i < n) = False := eq_false hlt
        obtain rfl : m = 0 := by omega
        have HB := Aside0.mk (show b = ra1 l from HE.out)
        clear hlt him hbl
        go_wp2_with fail
        go_meet
        case rel => exact ⟨_, ⟨by rw [← HB.out]; exact H.out⟩⟩
  case rest =>
    clear H3 HE HL0 HN HN2
    obtain ⟨v1, HH⟩ := hcut
    have H := HH
    clear HH
    go_upto_region 10 with ((go_at_call 70; refine (tCount.calls w _ r A c l (ra1 l).rs H.out.tk HC.out HL.out HBY.out 2147483647).mono ?_; rintro e_ w7 ⟨rfl, hr_, hg_⟩; have H4 := Aside0.mk (show TkO w w7 r g q w.heap.size A c l (cntR l 2147483647 (ra1 l)) v1 (.slice none 0 0) (.slice none 0 0) (.slice none 0 0) from H.out.step hr_ hg_); have hz1 := (blk_cell H4.out.blk 2).trans rfl; have hzf := blk_frozen H4.out.blk 2; clear hr_ hg_ H))
    have H := Aside0.mk (show TkO w (w7.setCell ⟨g, 2, none⟩ (.int .i64 (countR l 2147483647 (ra1 l).rs).1)) r g q w.heap.size A c l (ra2 l) v1 (.slice none 0 0) (.slice none 0 0) (.slice none 0 0) from H4.out.dat _)
    clear H4 hz1 hzf
    generalize w7.setCell ⟨g, 2, none⟩ (.int .i64 (countR l 2147483647 (ra1 l).rs).1) = w8 at H ⊢
    obtain ⟨n, hn⟩ : ∃ n : Nat, (n : Int) = (countR l 4096 (ra2 l).rs).1 := ⟨(countR l 4096 (ra2 l).rs).1.toNat, Int.toNat_of_nonneg (countR_range l 4096 (ra2 l).rs HBY.out (by omega)).1⟩
    have HN := Aside0.mk hn
    have HN2 := Aside0.mk (show n ≤ 4096 by have := (countR_range l 4096 (ra2 l).rs HBY.out (by omega)).2; omega)
    clear hn
    go_upto_block 2 with ((go_at_call 70; refine (tCount.calls w _ r A c l (ra2 l).rs H.out.tk HC.out HL.out HBY.out 4096).mono ?_; rw [← HN.out]; rintro e_ w6 ⟨rfl, hr_, hg_⟩; have H3 := Aside0.mk (show TkO w w6 r g q w.heap.size A c l (cntR l 4096 (ra2 l)) v1 (.slice none 0 0) (.slice none 0 0) (.slice none 0 0) from H.out.step hr_ hg_); clear hr_ hg_ H))
    have HE := Aside0.mk (show eachR (f2 l) RO.rs n (cntR l 4096 (ra2 l)) = ra3 l by unfold ra3; rw [← HN.out, Int.toNat_natCast])
    have HL0 := Aside0.mk (show (cntR l 4096 (ra2 l)).data.length ≤ 0 by show (ra2 l).data.length ≤ 0; rw [ra2_data]; exact Nat.le_refl _)
    go_cut [9] from 46 to 64 (fun u9 wx => ∃ v, Aside0 (TkO w wx r g q w.heap.size A c l (ra3 l) v1 v (.slice none 0 0) (.slice none 0 0)))
    case first =>
      go_wp2_with fail
      go_loopw [9] (fun u9 wr => ∃ (i m : Nat) (b : RO) (v : Value), u9 = .int .i64 (i : Int) ∧ i + m = n ∧ b.data.length ≤ i ∧ Aside0 (TkO w wr r g q w.heap.size A c l b v1 v (.slice none 0 0) (.slice none 0 0) ∧ eachR (f2 l) RO.rs m b = ra3 l)) (fun u9 _ => n - (intOf u9).toNat)
      case atStart => exact ⟨0, n, _, _, rfl, by omega, HL0.out, ⟨H3.out, HE.out⟩⟩
      case round =>
        clear H3 HE HL0
        obtain ⟨i, m, b, v, rfl, him, hbl, HH⟩ := hrel
        have H := Aside0.mk HH.out.1
        have HE := Aside0.mk HH.out.2
        clear HH
        by_cases hlt : i < n
        · have hltb : decide ((i : Int) < (n : Int)) = true := decide_eq_true (by omega)
          have hltc : (i < n) = True := eq_true hlt
          have HI := Aside0.mk (And.intro hlt hbl)
          obtain ⟨m, rfl⟩ : ∃ m', m = m' + 1 := ⟨m - 1, by omega⟩
          have HM := Aside0.mk him
          cases hs : b.rs.er with
          | some x =>
            have hd2 := H.out.tk.c2 (b := 27) (by rw [hs]; rfl)
            have HB := Aside0.mk (show b = ra3 l by rw [← HE.out]; exact (eachR_stop (f2 l) RO.rs _ hs).symm)
            clear hs hlt him hbl
            go_wp2_with fail
            go_meet
            case rel => exact ⟨_, ⟨by rw [← HB.out]; exact H.out⟩⟩
          | none =>
            have hd2 := H.out.tk.c2 (b := 0) (by rw [hs]; rfl)
            have HE1 := Aside0.mk (show eachR (f2 l) RO.rs m (f2 l b) = ra3 l by rw [← HE.out]; exact (eachR_go (f2 l) RO.rs m hs).symm)
            have hwr : wrap64 ((i : Int) + 1) = ((i + 1 : Nat) : Int) := by rw [wrap64_id (by omega) (by have := HN2.out; omega)]; rfl
            have HWR := Aside0.mk hwr
            clear hs hlt him hbl HE hwr
            go_upto_region 14 with fail
            have Hn := Aside0.mk (H.out.below (below_drew (Below.refl _ _)))
            have hc1 : wr.drew.cell? ⟨g, 3, none⟩ = some v := (blk_cell Hn.out.blk 3).trans rfl
            clear H hd2
            have H := Hn
            clear Hn
            refine start_ (n := 8) (S := fun w' => w'.cell? ⟨g, 3, none⟩ = some v) (ds := [7]) #[false, false, false, false, false, false, false, false] (by kernel_rfl) rfl rfl hc1 (fun hHeld => ?_)
            generalize wr.drew = wd at H hc1 hHeld ⊢
            refine pure_ (i := 0) (N := some 58) (v := ?_) (a' := ?_) #[true, false, false, false, false, false, false, false] rfl rfl (by kernel_rfl) (fun _ _ _ h => h) (Or.inl ⟨by rfl, ?_⟩) ?_ ?_
            rotate_left
            ·
              intro w'
              go_simp
              with_reducible rfl
            rotate_left
            ·
              simp only [Act.put, List.setIfInBounds_toArray, List.set_cons_zero, List.set_cons_succ, i64_w, i32_w]
              rfl
            refine take_ (i := 1) (N := some 59) (v := ?_) (a' := ?_) #[true, true, false, false, false, false, false, false] rfl rfl (by kernel_rfl) (fun _ _ _ h => h) (Or.inl ⟨by rfl, ?_⟩) hHeld ?_ ?_
            rotate_left
            ·
              rintro w' s0
              go_simp
              with_reducible rfl
            rotate_left
            ·
              simp only [Act.put, List.setIfInBounds_toArray, List.set_cons_zero, List.set_cons_succ, i64_w, i32_w]
              rfl
            refine pure_ (i := 2) (N := some 60) (v := ?_) (a' := ?_) #[true, true, true, false, false, false, false, false] rfl rfl (by kernel_rfl) (fun _ _ _ h => h) (Or.inl ⟨by rfl, ?_⟩) ?_ ?_
            rotate_left
            ·
              intro w'
              go_simp
              with_reducible rfl
            rotate_left
            ·
              simp only [Act.put, List.setIfInBounds_toArray, List.set_cons_zero, List.set_cons_succ, i64_w, i32_w]
              rfl
            refine one_ (i := 3) (N := some 61) #[true, true, true, true, false, false, false, false] rfl rfl (by kernel_rfl) (by decide) (fun K hK => ?_)
            refine call_ 72 #[.pointer (some ⟨r, 0, none⟩)] rfl rfl (by first | rfl | (go_simp; done) | (go_simp; rfl)) ?_
            refine (tEight.calls w _ r A c l b.rs H.out.tk HC.out HL.out HBY.out).mono ?_
            rintro e_ w7 ⟨rfl, hr_, hg_⟩
            refine ⟨_, rfl, ?_⟩
            have H1 := Aside0.mk (H.out.step hr_ hg_)
            have hd1 : w7.cell? ⟨g, 3, none⟩ = some v := (blk_cell H1.out.blk 3).trans rfl
            refine hK.out _ _ hd1 (fun hHeld => ?_)
            clear hr_ hg_ H hc1
            clear hK K
            refine norm_ (a' := ?_) ?_ ?_
            rotate_left
            ·
              show Act.put _ (some 61) _ = _
              simp only [Act.put, List.setIfInBounds_toArray, List.set_cons_zero, List.set_cons_succ, i64_w, i32_w]
              rfl
            refine one_ (i := 4) (N := some 62) #[true, true, true, true, true, false, false, false] rfl rfl (by kernel_rfl) (by decide) (fun K hK => ?_)
            refine value_ (w1 := ?_) (v := ?_) (by rfl) rfl ?_ ?_
            rotate_left 2
            ·
              go_simp
              constructor
              ·
                rfl
              ·
                rfl
            refine hK.out _ _ ((World.cell?_alloc_lt _ _ _ (World.block_lt_of_cell? _ _ hd1)).trans hd1) (fun hHeld => ?_)
            clear hK K
            refine norm_ (a' := ?_) ?_ ?_
            rotate_left
            ·
              show Act.put _ (some 62) _ = _
              simp only [Act.put, List.setIfInBounds_toArray, List.set_cons_zero, List.set_cons_succ, i64_w, i32_w]
              rfl
            refine one_ (i := 5) (N := some 63) #[true, true, true, true, true, true, false, false] rfl rfl (by kernel_rfl) (by decide) (fun K hK => ?_)
            refine Kd.R_append_step (Kd.int .i64) (w0 := w) w.heap.size rfl (.tmp 59) (.tmp 62) 23 2 (.int .i64 0) 8 rfl Tryz.underlying23 info_i64 rfl (by decide) (by decide) v b.data (wrap64 (numR l 8 b.rs).1) [.int .i64 (wrap64 (numR l 8 b.rs).1)] (fun _ => True) (fun _ => False) rfl rfl rfl (fun _ hk => hk.elim) (fun _ _ => trivial) H1.out.r3 H1.out.tk.low H1.out.tk.low.size (by have := HI.out; have := HN2.out; omega) ?_
            intro u w8 hu2 hlow hgr _
            obtain ⟨Ao, co, eo⟩ := Kd.R_slice hu2
            obtain ⟨nn, hnn⟩ : ∃ nn, nn = (b.data ++ [wrap64 (numR l 8 b.rs).1]).length := ⟨_, rfl⟩
            rw [← hnn] at eo
            subst eo
            have hx := TkO.app3 H1.out hu2 hlow hgr
            have HX := Aside0.mk hx.2
            have hz1 : w8.cell? ⟨g, 3, none⟩ = some v := (blk_cell hx.1 3).trans rfl
            have hzf := blk_frozen hx.1 3
            refine hK.out _ _ hz1 (fun hHeld => ?_)
            clear hlow hgr hx hd1 hu2 hnn
            clear hK K
            refine norm_ (a' := ?_) ?_ ?_
            rotate_left
            ·
              show Act.put _ (some 63) _ = _
              simp only [Act.put, List.setIfInBounds_toArray, List.set_cons_zero, List.set_cons_succ, i64_w, i32_w]
              rfl
            refine pure_ (i := 6) (N := some 64) (v := ?_) (a' := ?_) #[true, true, true, true, true, true, true, false] rfl rfl (by kernel_rfl) (fun _ _ _ h => h) (Or.inl ⟨by rfl, ?_⟩) ?_ ?_
            rotate_left
            ·
              intro w'
              go_simp
              with_reducible rfl
            rotate_left
            ·
              simp only [Act.put, List.setIfInBounds_toArray, List.set_cons_zero, List.set_cons_succ, i64_w, i32_w]
              rfl
            refine last_ (i := 7) (N := none) #[true, true, true, true, true, true, true, true] rfl rfl (by kernel_rfl) (by decide) (fun K hK => ?_)
            refine skip_ (w1 := ?_) (by rfl) rfl ?_ ?_
            rotate_left
            ·
              go_simp
              rfl
            refine hK.out _ _ ?_
            clear hK K
            refine done_ (by kernel_rfl) ?_
            clear hz1 hzf
            go_wp2_with fail
            go_roundw
            case measure => have hq := HI.out; (try rw [HWR.out]); simp only [intOf]; omega
            case rel => exact ⟨i + 1, m, f2 l b, _, by first | rfl | rw [HWR.out], by have := HM.out; omega, by show (b.data ++ [_]).length ≤ _; rw [List.length_append]; have := HI.out; simp only [List.length_cons, List.length_nil]; omega, ⟨HX.out, HE1.out⟩⟩
        · have hltb : decide ((i : Int) < (n : Int)) = false := decide_eq_false (by omega)
          have hltc : (i < n) = False := eq_false hlt
          obtain rfl : m = 0 := by omega
          have HB := Aside0.mk (show b = ra3 l from HE.out)
          clear hlt him hbl
          go_wp2_with fail
          go_meet
          case rel => exact ⟨_, ⟨by rw [← HB.out]; exact H.out⟩⟩
    case rest =>
      clear H3 HE HL0 HN HN2
      obtain ⟨v3, HH⟩ := hcut
      obtain ⟨A1, c1, e1⟩ := Kd.R_slice HH.out.r1
      obtain ⟨A3, c3, e3⟩ := Kd.R_slice HH.out.r3
      subst e1 e3
      have H := HH
      clear HH
      have hc0 := (blk_cell H.out.blk 0).trans rfl
      have hc1 := (blk_cell H.out.blk 1).trans rfl
      have hc2 := (blk_cell H.out.blk 2).trans rfl
      have hc3 := (blk_cell H.out.blk 3).trans rfl
      have hc4 := (blk_cell H.out.blk 4).trans rfl
      have hc5 := (blk_cell H.out.blk 5).trans rfl
      go_upto_region 16 with (first | (go_at_call 73; refine (tRest.calls w _ r A c l A1 c1 A3 c3 H.out.tk H.out.r1 H.out.r3 (ra3_syms l) (ra3_rels l) (ra3_code l HBY.out) HC.out HL.out HBY.out HCC.out).mono ?_; rintro e_ w9 ⟨v4, v5, rfl, hr_, h4_, h5_, hg_⟩; obtain ⟨A4, c4, e4⟩ := Kd.R_slice h4_; obtain ⟨A5, c5, e5⟩ := Kd.R_slice h5_; subst e4 e5; have H9 := Aside0.mk (And.intro hr_ (And.intro h4_ (And.intro h5_ (H.out.step hr_ hg_)))); clear hr_ h4_ h5_ hg_ H hc0 hc1 hc2 hc3 hc4 hc5) | ((with_reducible refine gate_store (t := 27) rfl ?_); refine wpList_store_whole rfl rfl rfl g _ #[.string (ra3 l).nm, .slice A1 (ra3 l).code.length c1, .int .i64 (ra3 l).dat, .slice A3 (ra3 l).data.length c3, .slice A4 (ra5 l).syms.length c4, .slice A5 (ra5 l).rels.length c5] _ rfl rfl H9.out.2.2.2.blk (by kernel_rfl) rfl (obj_oneR _ _ _ _ _ _ _ _ _ _ _ _ _ _) ?_; intro w10 hp9; have HP := Aside0.mk hp9; clear hp9))
      have HNM := Aside0.mk (show (ra3 l).nm = (ra5 l).nm ∧ (ra3 l).dat = (ra5 l).dat ∧ (ra3 l).code = (ra5 l).code ∧ (ra3 l).data = (ra5 l).data by unfold ra5; rw [eachR_keep RO.nm (f4 l) (fun _ => rfl), eachR_keep RO.dat (f4 l) (fun _ => rfl), eachR_keep RO.code (f4 l) (fun _ => rfl), eachR_keep RO.data (f4 l) (fun _ => rfl)]; show _ = (ra4 l).nm ∧ _ = (ra4 l).dat ∧ _ = (ra4 l).code ∧ _ = (ra4 l).data; unfold ra4; rw [eachR_keep RO.nm (f3 l) (fun _ => rfl), eachR_keep RO.dat (f3 l) (fun _ => rfl), eachR_keep RO.code (f3 l) (fun _ => rfl), eachR_keep RO.data (f3 l) (fun _ => rfl)]; exact ⟨rfl, rfl, rfl, rfl⟩)
      rw [HNM.out.1, HNM.out.2.1, HNM.out.2.2.1, HNM.out.2.2.2] at HP H9
      have H := Aside0.mk (show TkO w w10 r g q w.heap.size A c l (ra5 l) (.slice A1 (ra5 l).code.length c1) (.slice A3 (ra5 l).data.length c3) (.slice A4 (ra5 l).syms.length c4) (.slice A5 (ra5 l).rels.length c5) from by
        have G := put_grownN HP.out
        have h9 := H9.out.2.2.2
        exact ⟨H9.out.1.move (below_grown h9.tk.low h9.gb G) (G.block r (blk_lt h9.tk.blk) (fun z => ne_types h9.tk.blk h9.blk (by decide) (Option.some.inj z))), HP.out.blk, ⟨(G.block q (blk_lt h9.res.1) (fun z => h9.res.2 (Option.some.inj z))).trans h9.res.1, h9.res.2⟩, h9.gb, Kd.R_grown1 h9.r1 rfl G (Kd.R_ne h9.r1 h9.blk (by decide)), Kd.R_grown1 h9.r3 rfl G (Kd.R_ne h9.r3 h9.blk (by decide)), Kd.R_grown1 H9.out.2.1 rfl G (Kd.R_ne H9.out.2.1 h9.blk (by decide)), Kd.R_grown1 H9.out.2.2.1 rfl G (Kd.R_ne H9.out.2.2.1 h9.blk (by decide))⟩)
      clear HP H9 HNM
      obtain ⟨en, hen⟩ : ∃ en, en = endT l (ra5 l).rs (sumN (l.take (ra5 l).rs.at_.toNat)) := ⟨_, rfl⟩
      have HRE := Aside0.mk (show readC l = if en.1 = 0 then chkR l else en by rw [hen]; exact readC_end l)
      have HEN := Aside0.mk hen
      clear hen
      go_upto_region 17 with ((go_at_call 74; refine (tEnd.calls w _ r A c l (ra5 l).rs H.out.tk HC.out HL.out HBY.out HCC.out _ ks (fun _ => HKS.out)).mono ?_; rw [← HEN.out]; rintro e_ w11 ⟨rfl, he_⟩; have HX := Aside0.mk he_; have hx := he_.2.1; obtain ⟨x, hx⟩ := hx; have HW := Aside0.mk hx; have hb2 := (blk_cell hx 2).trans rfl; have hb3 := (blk_cell hx 3).trans rfl; clear hx he_))
      have HO := Aside0.mk (show Below w.heap.size w w11 ∧ w11.heap[q]? = some (.cells zObj 27 (0, 0)) ∧ w11.heap[g]? = some (.cells #[.string (ra5 l).nm, .slice A1 (ra5 l).code.length c1, .int .i64 (ra5 l).dat, .slice A3 (ra5 l).data.length c3, .slice A4 (ra5 l).syms.length c4, .slice A5 (ra5 l).rels.length c5] 27 (0, 0)) from by
        have G := HX.out.2.2
        exact ⟨HX.out.1, (G.block q (blk_lt H.out.res.1) (fun z => ne_types H.out.res.1 H.out.tk.blk (by decide) (Option.some.inj z))).trans H.out.res.1, (G.block g (blk_lt H.out.blk) (fun z => ne_types H.out.blk H.out.tk.blk (by decide) (Option.some.inj z))).trans H.out.blk⟩)
      have HR := Aside0.mk (show Kd.R (Kd.int .u32) 78 w11 w.heap.size (fun _ => True) (.slice A1 (ra5 l).code.length c1) (ra5 l).code ∧ Kd.R (Kd.int .i64) 2 w11 w.heap.size (fun _ => True) (.slice A3 (ra5 l).data.length c3) (ra5 l).data ∧ Kd.R k65 65 w11 w.heap.size (fun _ => True) (.slice A4 (ra5 l).syms.length c4) (ra5 l).syms ∧ Kd.R k82 82 w11 w.heap.size (fun _ => True) (.slice A5 (ra5 l).rels.length c5) (ra5 l).rels from by
        have G := HX.out.2.2
        have t := H.out.tk.blk
        exact ⟨Kd.R_grown1 H.out.r1 rfl G (Kd.R_ne H.out.r1 t (by decide)), Kd.R_grown1 H.out.r3 rfl G (Kd.R_ne H.out.r3 t (by decide)), Kd.R_grown1 H.out.r4 rfl G (Kd.R_ne H.out.r4 t (by decide)), Kd.R_grown1 H.out.r5 rfl G (Kd.R_ne H.out.r5 t (by decide))⟩)
      clear H HX HEN
      by_cases hz : en.1 = 0
      · have hzb : (en.1 != 0) = false := by rw [hz]; rfl
        have HRC := Aside0.mk (show readC l = chkR l by rw [HRE.out, if_pos hz])
        clear hz HRE hb3
        obtain ⟨ce, cn, hce⟩ : ∃ ce cn, chkO (ra5 l).nm (ra5 l).code (ra5 l).dat (ra5 l).data (ra5 l).syms (ra5 l).rels = (ce, cn) := ⟨_, _, rfl⟩
        have HRC3 := Aside0.mk (show readC l = if ce = 0 then (0, 0) else (ce, cn) by rw [HRC.out]; unfold chkR; rw [hce])
        rw [hce] at HKC
        clear hce HRC
        have hc0 := (blk_cell HO.out.2.2 0).trans rfl
        have hc1 := (blk_cell HO.out.2.2 1).trans rfl
        have hc2 := (blk_cell HO.out.2.2 2).trans rfl
        have hc3 := (blk_cell HO.out.2.2 3).trans rfl
        have hc4 := (blk_cell HO.out.2.2 4).trans rfl
        have hc5 := (blk_cell HO.out.2.2 5).trans rfl
        by_cases hz : ce = 0
        · subst hz
          have HRC := Aside0.mk (show readC l = (0, 0) by rw [HRC3.out, if_pos rfl])
          clear HRC3
          go_wp2_with (first | (go_at_call 30; refine (pleatref03_Check.calls kc _ _ _ _ _ _ _ _ _ _ _ _ _ _ 0 cn _ (Kd.R_reads' HR.out.1).2.2 (Kd.R_reads' HR.out.1).2.1 (Kd.R_reads' HR.out.2.1).2.2 (Kd.R_reads' HR.out.2.1).2.1 (Kd.R_reads' HR.out.2.2.1).2.2 (Kd.R_reads' HR.out.2.2.1).2.1 (Kd.R_reads' HR.out.2.2.2).2.2 (Kd.R_reads' HR.out.2.2.2).2.1 HKC.out).mono ?_; rintro e_ w12 ⟨rfl, hb_⟩; have HO9 := Aside0.mk (And.intro (below_then HO.out.1 HO.out.1.size hb_) (And.intro (blk_below HO.out.2.1 hb_) (blk_below HO.out.2.2 hb_))); have HR9 := Aside0.mk (And.intro (Kd.R_below HR.out.1 hb_) (And.intro (Kd.R_below HR.out.2.1 hb_) (And.intro (Kd.R_below HR.out.2.2.1 hb_) (Kd.R_below HR.out.2.2.2 hb_)))); clear HO HR hb_ hb2 hc0 hc1 hc2 hc3 hc4 hc5; have hc0 := (blk_cell HO9.out.2.2 0).trans rfl; have hc1 := (blk_cell HO9.out.2.2 1).trans rfl; have hc2 := (blk_cell HO9.out.2.2 2).trans rfl; have hc3 := (blk_cell HO9.out.2.2 3).trans rfl; have hc4 := (blk_cell HO9.out.2.2 4).trans rfl; have hc5 := (blk_cell HO9.out.2.2 5).trans rfl) | ((with_reducible refine gate_store (t := 27) rfl ?_); refine wpList_store_whole rfl rfl rfl q _ #[.string (ra5 l).nm, .slice A1 (ra5 l).code.length c1, .int .i64 (ra5 l).dat, .slice A3 (ra5 l).data.length c3, .slice A4 (ra5 l).syms.length c4, .slice A5 (ra5 l).rels.length c5] _ rfl rfl HO9.out.2.1 (by kernel_rfl) rfl (obj_oneR _ _ _ _ _ _ _ _ _ _ _ _ _ _) ?_; intro w13 hp9; have HP := Aside0.mk hp9; have hq9 := hp9.blk; clear hp9 hc0 hc1 hc2 hc3 hc4 hc5))
          try go_wp2
          refine bodyPost_ret (results_cell_tmp2 rfl _ _ q 27 #[.string (ra5 l).nm, .slice A1 (ra5 l).code.length c1, .int .i64 (ra5 l).dat, .slice A3 (ra5 l).data.length c3, .slice A4 (ra5 l).syms.length c4, .slice A5 (ra5 l).rels.length c5] (0, 0) _ rfl hq9 hu1 rfl (by kernel_rfl)) rfl ?_
          rw [HRC.out]
          have G := put_grownN HP.out
          exact ⟨_, rfl, HP.out.below HO9.out.1 HQ.out, fun _ => ⟨_, _, _, _, rfl, Kd.R_grown1 HR9.out.1 rfl G (Kd.R_ne HR9.out.1 HO9.out.2.1 (by decide)), Kd.R_grown1 HR9.out.2.1 rfl G (Kd.R_ne HR9.out.2.1 HO9.out.2.1 (by decide)), Kd.R_grown1 HR9.out.2.2.1 rfl G (Kd.R_ne HR9.out.2.2.1 HO9.out.2.1 (by decide)), Kd.R_grown1 HR9.out.2.2.2 rfl G (Kd.R_ne HR9.out.2.2.2 HO9.out.2.1 (by decide))⟩, fun h => absurd rfl h⟩
        · have HRC := Aside0.mk (show readC l = (ce, cn) by rw [HRC3.out, if_neg hz])
          have hbz : (ce != 0) = true := bne_iff_ne.mpr hz
          have HZ := Aside0.mk hz
          clear hz HRC3
          go_wp2_with (first | (go_at_call 30; refine (pleatref03_Check.calls kc _ _ _ _ _ _ _ _ _ _ _ _ _ _ ce cn _ (Kd.R_reads' HR.out.1).2.2 (Kd.R_reads' HR.out.1).2.1 (Kd.R_reads' HR.out.2.1).2.2 (Kd.R_reads' HR.out.2.1).2.1 (Kd.R_reads' HR.out.2.2.1).2.2 (Kd.R_reads' HR.out.2.2.1).2.1 (Kd.R_reads' HR.out.2.2.2).2.2 (Kd.R_reads' HR.out.2.2.2).2.1 HKC.out).mono ?_; rintro e_ w12 ⟨rfl, hb_⟩; have HO9 := Aside0.mk (And.intro (below_then HO.out.1 HO.out.1.size hb_) (And.intro (blk_below HO.out.2.1 hb_) (blk_below HO.out.2.2 hb_))); have HR9 := Aside0.mk (And.intro (Kd.R_below HR.out.1 hb_) (And.intro (Kd.R_below HR.out.2.1 hb_) (And.intro (Kd.R_below HR.out.2.2.1 hb_) (Kd.R_below HR.out.2.2.2 hb_)))); clear HO HR hb_ hb2 hc0 hc1 hc2 hc3 hc4 hc5; have hc0 := (blk_cell HO9.out.2.2 0).trans rfl; have hc1 := (blk_cell HO9.out.2.2 1).trans rfl; have hc2 := (blk_cell HO9.out.2.2 2).trans rfl; have hc3 := (blk_cell HO9.out.2.2 3).trans rfl; have hc4 := (blk_cell HO9.out.2.2 4).trans rfl; have hc5 := (blk_cell HO9.out.2.2 5).trans rfl) | ((with_reducible refine gate_store (t := 27) rfl ?_); refine wpList_store_whole rfl rfl rfl q _ zObj _ rfl rfl HO9.out.2.1 (by kernel_rfl) rfl (by kernel_rfl) ?_; intro w13 hp9; have HP := Aside0.mk hp9; have hq9 := hp9.blk; clear hp9 hc0 hc1 hc2 hc3 hc4 hc5))
          try go_wp2
          refine bodyPost_ret (results_cell_tmp2 rfl _ _ q 27 zObj (0, 0) _ rfl hq9 hu1 rfl (by kernel_rfl)) rfl ?_
          rw [HRC.out]
          exact ⟨zObj, rfl, HP.out.below HO9.out.1 HQ.out, fun h => absurd h HZ.out, fun _ => rfl⟩
      · have hzb : (en.1 != 0) = true := bne_iff_ne.mpr hz
        have HRC := Aside0.mk (show readC l = (en.1, en.2) by rw [HRE.out, if_neg hz])
        have HZ := Aside0.mk hz
        clear hz HRE
        go_upto_region 18 with fail
        have HOd := Aside0.mk (show Below w.heap.size w w11.drew ∧ w11.drew.heap[q]? = some (.cells zObj 27 (0, 0)) ∧ w11.drew.heap[r]? = some (.cells #[.slice A l.length c, .int .i64 x, .int .i64 en.1, .int .i64 en.2] 110 (0, 0)) from ⟨below_drew HO.out.1, HO.out.2.1, HW.out⟩)
        have hz2 : w11.drew.cell? ⟨r, 2, none⟩ = some (.int .i64 en.1) := (blk_cell HOd.out.2.2 2).trans rfl
        have hz3 : w11.drew.cell? ⟨r, 3, none⟩ = some (.int .i64 en.2) := (blk_cell HOd.out.2.2 3).trans rfl
        clear HO HR HW hb2 hb3
        refine start_ (n := 12) (S := fun w' => w'.cell? ⟨r, 2, none⟩ = some (.int .i64 en.1) ∧ w'.cell? ⟨r, 3, none⟩ = some (.int .i64 en.2)) (ds := []) #[false, false, false, false, false, false, false, false, false, false, false, false] (by kernel_rfl) rfl rfl ⟨hz2, hz3⟩ (fun hHeld => ?_)
        generalize w11.drew = wd at HOd hz2 hz3 hHeld ⊢
        refine pure_ (i := 0) (N := some 75) (v := ?_) (a' := ?_) #[true, false, false, false, false, false, false, false, false, false, false, false] rfl rfl (by kernel_rfl) (fun _ _ _ h => h) (Or.inl ⟨by rfl, ?_⟩) ?_ ?_
        rotate_left
        ·
          intro w'
          go_simp
          with_reducible rfl
        rotate_left
        ·
          simp only [Act.put, List.setIfInBounds_toArray, List.set_cons_zero, List.set_cons_succ, i64_w, i32_w]
          rfl
        refine pure_ (i := 1) (N := some 76) (v := ?_) (a' := ?_) #[true, true, false, false, false, false, false, false, false, false, false, false] rfl rfl (by kernel_rfl) (fun _ _ _ h => h) (Or.inl ⟨by rfl, ?_⟩) ?_ ?_
        rotate_left
        ·
          intro w'
          go_simp
          with_reducible rfl
        rotate_left
        ·
          simp only [Act.put, List.setIfInBounds_toArray, List.set_cons_zero, List.set_cons_succ, i64_w, i32_w]
          rfl
        refine pure_ (i := 2) (N := some 77) (v := ?_) (a' := ?_) #[true, true, true, false, false, false, false, false, false, false, false, false] rfl rfl (by kernel_rfl) (fun _ _ _ h => h) (Or.inl ⟨by rfl, ?_⟩) ?_ ?_
        rotate_left
        ·
          intro w'
          go_simp
          with_reducible rfl
        rotate_left
        ·
          simp only [Act.put, List.setIfInBounds_toArray, List.set_cons_zero, List.set_cons_succ, i64_w, i32_w]
          rfl
        refine pure_ (i := 3) (N := some 78) (v := ?_) (a' := ?_) #[true, true, true, true, false, false, false, false, false, false, false, false] rfl rfl (by kernel_rfl) (fun _ _ _ h => h) (Or.inl ⟨by rfl, ?_⟩) ?_ ?_
        rotate_left
        ·
          intro w'
          go_simp
          with_reducible rfl
        rotate_left
        ·
          simp only [Act.put, List.setIfInBounds_toArray, List.set_cons_zero, List.set_cons_succ, i64_w, i32_w]
          rfl
        refine take_ (i := 4) (N := some 79) (v := ?_) (a' := ?_) #[true, true, true, true, true, false, false, false, false, false, false, false] rfl rfl (by kernel_rfl) (fun _ _ _ h => h) (Or.inl ⟨by rfl, ?_⟩) hHeld ?_ ?_
        rotate_left
        ·
          rintro w' ⟨s0, s1⟩
          go_simp
          with_reducible rfl
        rotate_left
        ·
          simp only [Act.put, List.setIfInBounds_toArray, List.set_cons_zero, List.set_cons_succ, i64_w, i32_w]
          rfl
        refine pure_ (i := 5) (N := some 80) (v := ?_) (a' := ?_) #[true, true, true, true, true, true, false, false, false, false, false, false] rfl rfl (by kernel_rfl) (fun _ _ _ h => h) (Or.inl ⟨by rfl, ?_⟩) ?_ ?_
        rotate_left
        ·
          intro w'
          go_simp
          with_reducible rfl
        rotate_left
        ·
          simp only [Act.put, List.setIfInBounds_toArray, List.set_cons_zero, List.set_cons_succ, i64_w, i32_w]
          rfl
        refine pure_ (i := 6) (N := some 81) (v := ?_) (a' := ?_) #[true, true, true, true, true, true, true, false, false, false, false, false] rfl rfl (by kernel_rfl) (fun _ _ _ h => h) (Or.inl ⟨by rfl, ?_⟩) ?_ ?_
        rotate_left
        ·
          intro w'
          go_simp
          with_reducible rfl
        rotate_left
        ·
          simp only [Act.put, List.setIfInBounds_toArray, List.set_cons_zero, List.set_cons_succ, i64_w, i32_w]
          rfl
        refine pure_ (i := 7) (N := some 82) (v := ?_) (a' := ?_) #[true, true, true, true, true, true, true, true, false, false, false, false] rfl rfl (by kernel_rfl) (fun _ _ _ h => h) (Or.inl ⟨by rfl, ?_⟩) ?_ ?_
        rotate_left
        ·
          intro w'
          go_simp
          with_reducible rfl
        rotate_left
        ·
          simp only [Act.put, List.setIfInBounds_toArray, List.set_cons_zero, List.set_cons_succ, i64_w, i32_w]
          rfl
        refine take_ (i := 8) (N := some 83) (v := ?_) (a' := ?_) #[true, true, true, true, true, true, true, true, true, false, false, false] rfl rfl (by kernel_rfl) (fun _ _ _ h => h) (Or.inl ⟨by rfl, ?_⟩) hHeld ?_ ?_
        rotate_left
        ·
          rintro w' ⟨s0, s1⟩
          go_simp
          with_reducible rfl
        rotate_left
        ·
          simp only [Act.put, List.setIfInBounds_toArray, List.set_cons_zero, List.set_cons_succ, i64_w, i32_w]
          rfl
        refine one_ (i := 9) (N := none) #[true, true, true, true, true, true, true, true, true, true, false, false] rfl rfl (by kernel_rfl) (by decide) (fun K hK => ?_)
        refine step_store_whole (by rfl) rfl rfl q zObj zObj 27 rfl (by first | rfl | (go_simp; rfl)) HOd.out.2.1 (by kernel_rfl) rfl (by kernel_rfl) ?_
        intro w13 hp9
        have HL9 := Aside0.mk (hp9.below HOd.out.1 HQ.out)
        have hq9 := hp9.blk
        have hr9 := (hp9.far r (fun z => ne_types HOd.out.2.2 HOd.out.2.1 (by decide) z)).trans HOd.out.2.2
        refine hK.out _ _ ⟨(blk_cell hr9 2).trans rfl, (blk_cell hr9 3).trans rfl⟩ (fun hHeld => ?_)
        clear hz2 hz3 HOd hK K hr9 hp9
        refine pure_ (i := 10) (N := some 3) (v := ?_) (a' := ?_) #[true, true, true, true, true, true, true, true, true, true, true, false] rfl rfl (by kernel_rfl) (fun _ _ _ h => h) (Or.inl ⟨by rfl, ?_⟩) ?_ ?_
        rotate_left
        ·
          intro w'
          go_simp
          with_reducible rfl
        rotate_left
        ·
          simp only [Act.put, List.setIfInBounds_toArray, List.set_cons_zero, List.set_cons_succ, i64_w, i32_w]
          rfl
        refine pure_ (i := 11) (N := some 4) (v := ?_) (a' := ?_) #[true, true, true, true, true, true, true, true, true, true, true, true] rfl rfl (by kernel_rfl) (fun _ _ _ h => h) (Or.inl ⟨by rfl, ?_⟩) ?_ ?_
        rotate_left
        ·
          intro w'
          go_simp
          with_reducible rfl
        rotate_left
        ·
          simp only [Act.put, List.setIfInBounds_toArray, List.set_cons_zero, List.set_cons_succ, i64_w, i32_w]
          rfl
        refine done_ (by kernel_rfl) ?_
        go_wp2
        refine bodyPost_ret (results_cell_tmp2 rfl _ _ q 27 zObj (0, 0) _ rfl hq9 hu1 rfl (by kernel_rfl)) rfl ?_
        rw [HRC.out]
        exact ⟨zObj, rfl, HL9.out, fun h => absurd h HZ.out, fun _ => rfl⟩
end Go.Proofs.YtiaohbbafaaibabGreatDoor.P
