/- OWN TEXT and printed parts of this claim, laid together: IsaL, BlkC, HMap, HBlkM. -/
import Derived.Test.YtiaohbbafaaibaaZpM1
import Derived.Test.YtiaohbbafaaibaaZpM4
import Derived.Test.YtiaohbbafaaibaaZpM0
import Derived.Test.YtiaohbbafaaibaaZpM6
import Derived.Test.YtiaohbbafaaibaaZpM2
import Derived.Test.YtiaohbbafaaibaaZpM3
import Derived.Test.YtiaohbbafaaibaaZpM5
import Derived.Maps.OwnSet
import Derived.WalkKit
import Derived.Handy
import Derived.Great.Walk
/- OWN TEXT: the instructions over plain numbers: what the program's and the reference's functions come to. -/
set_option linter.unusedVariables false
set_option linter.unusedSimpArgs false
namespace Go.Proofs.Ytiaohbbafaaibaa.P
open Go.RowKit Go.Proofs.YtiaohbbafaaibaaW.PrintWords

def hasF (op : Int) : Int := if op < 0 then 0 else if op ≥ 22 then 0 else hasT op
theorem has1 (op : Int) : isa_has.f op = some (hasF op) := by
  unfold isa_has.f hasF
  repeat' split
  all_goals rfl
/-- Is a bit of a word of fields set? -/
def bitF (f m : Int) : Bool := Go.bits .and .i64 f m != 0
def tup (op : Int) : Bool × Bool × Bool × Bool × Bool := (bitF (hasF op) 1, bitF (hasF op) 2, bitF (hasF op) 4, bitF (hasF op) 8, bitF (hasF op) 16)
theorem ops22 {p : Int → Prop} (h : ∀ n : Fin 22, p (n.val : Int)) {op : Int} (h0 : 0 ≤ op) (h1 : op < 22) : p op := by
  have := h ⟨op.toNat, by omega⟩
  rwa [show ((⟨op.toNat, by omega⟩ : Fin 22).val : Int) = op from Int.toNat_of_nonneg h0] at this
theorem has2_in : ∀ n : Fin 22, pleatref02_Has.f 8 (n.val : Int) = some (tup (n.val : Int)) := by decide +kernel
theorem tup_out {op : Int} (h : op < 0 ∨ 22 ≤ op) : tup op = (false, false, false, false, false) := by
  have e : hasF op = 0 := by unfold hasF; repeat' split
                             all_goals first | rfl | omega
  unfold tup
  rw [e]
  decide +kernel
theorem has2 (op : Int) : Ev (fun k => pleatref02_Has.f k op) (tup op) := by
  by_cases h : 0 ≤ op ∧ op < 22
  · exact ops22 (p := fun op => Ev (fun k => pleatref02_Has.f k op) (tup op)) (fun n => Ev.of (pleatref02_Has.mono _) (has2_in n)) h.1 h.2
  · rw [tup_out (by omega)]
    refine Ev.of (k := 8) (pleatref02_Has.mono _) ?_
    simp only [pleatref02_Has.f, pleatref02_Has.j0, pleatref02_Has.j1, pleatref02_Has.j2]
    repeat (rw [if_neg (by first | omega | (simp; omega))])
theorem bit_place_in : ∀ n : Fin 22, bitF (hasF (n.val : Int)) 16 = true → bitF (hasF (n.val : Int)) 8 = true := by decide +kernel
theorem bit_place {op : Int} (h : bitF (hasF op) 16 = true) : bitF (hasF op) 8 = true := by
  by_cases hr : 0 ≤ op ∧ op < 22
  · exact ops22 (p := fun op => bitF (hasF op) 16 = true → bitF (hasF op) 8 = true) bit_place_in hr.1 hr.2 h
  · have e := tup_out (op := op) (by omega)
    have : bitF (hasF op) 16 = false := congrArg (fun t : Bool × Bool × Bool × Bool × Bool => t.2.2.2.2) e
    rw [this] at h
    cases h
theorem hasF_in {op : Int} (h0 : 0 ≤ op) (h1 : op < 22) : hasF op = hasT op := by unfold hasF; rw [if_neg (by omega), if_neg (by omega)]

theorem and_u32 (i : Nat) (hi : i ≤ 32) {x : Int} (h0 : 0 ≤ x) (h1 : x < 4294967296) : Go.bits .and .u32 x (2 ^ i - 1) = x % 2 ^ i :=
  Go.bits_mask .u32 32 (by decide) (fun n a b => by rw [IntKind.wrap_u32]; omega) i hi x h0 (by omega)
theorem and_15 {x : Int} (h0 : 0 ≤ x) (h1 : x < 4294967296) : Go.bits .and .u32 x 15 = x % 16 := and_u32 4 (by decide) h0 h1
theorem and_32767 {x : Int} (h0 : 0 ≤ x) (h1 : x < 4294967296) : Go.bits .and .u32 x 32767 = x % 32768 := and_u32 15 (by decide) h0 h1
theorem or_u32 (i : Nat) {x y : Int} (hx0 : 0 ≤ x) (hx : x % 2 ^ i = 0) (hx1 : x < 4294967296) (hy0 : 0 ≤ y) (hy : y < 2 ^ i) (hy1 : y < 4294967296) : Go.bits .or .u32 x y = x + y :=
  Go.bits_join .u32 32 (by decide) (fun n a b => by rw [IntKind.wrap_u32]; omega) i x y hx0 hx (by omega) hy0 hy (by omega)
def wordS (op d a b n : Int) : Int := op * 134217728 + d * 8388608 + a * 524288 + b * 32768 + n % 32768
theorem encW_eq {op d a b n : Int} (h0 : 0 ≤ op) (h1 : op < 22) (d0 : 0 ≤ d) (d1 : d < 16) (a0 : 0 ≤ a) (a1 : a < 16) (b0 : 0 ≤ b) (b1 : b < 16) : encW op d a b n = wordS op d a b n := by
  unfold encW wordS
  rw [and_32767 (by omega) (by omega), or_u32 27 (x := op * 134217728) (y := d * 8388608) (by omega) (by omega) (by omega) (by omega) (by omega) (by omega),
    or_u32 23 (x := op * 134217728 + d * 8388608) (y := a * 524288) (by omega) (by omega) (by omega) (by omega) (by omega) (by omega),
    or_u32 19 (x := op * 134217728 + d * 8388608 + a * 524288) (y := b * 32768) (by omega) (by omega) (by omega) (by omega) (by omega) (by omega),
    or_u32 15 (y := n % 4294967296 % 32768) (by omega) (by omega) (by omega) (by omega) (by omega) (by omega)]
  omega
def encS (op d a b n : Int) : Int × Int := if op < 0 then (0, 10) else if op ≥ 22 then (0, 10) else if BadIns (hasT op) d a b n then (0, 11) else (wordS op d a b n, 0)
theorem not_bad {f d a b n : Int} (h : ¬ BadIns f d a b n) : (0 ≤ d ∧ d < 16) ∧ (0 ≤ a ∧ a < 16) ∧ (0 ≤ b ∧ b < 16) ∧ lowT f ≤ n ∧ n ≤ highT f := by
  unfold BadIns badReg at h
  omega
theorem enc1 (op d a b n : Int) : isa_Encode.f op d a b n = some (encS op d a b n) := by
  unfold isa_Encode.f encS
  split
  · rfl
  · split
    · rfl
    · split
      · rfl
      · rename_i h1 h2 h3
        obtain ⟨⟨d0, d1⟩, ⟨a0, a1⟩, ⟨b0, b1⟩, _⟩ := not_bad h3
        rw [encW_eq (by omega) (by omega) d0 d1 a0 a1 b0 b1]
theorem low_range (f : Int) : -16384 ≤ lowT f ∧ highT f ≤ 16383 := by
  unfold lowT highT
  repeat' split
  all_goals omega

theorem reg2 (f m r : Int) : pleatref02_register.f (bitF f m) r = some (decide (¬ badReg f r m)) := by
  unfold pleatref02_register.f badReg bitF
  by_cases h : Go.bits .and .i64 f m = 0
  · have e : (Go.bits .and .i64 f m != 0) = false := by simp [h]
    rw [e, if_neg (by decide)]
    congr 1
    rw [Bool.eq_iff_iff]
    simp [h]
    omega
  · have e : (Go.bits .and .i64 f m != 0) = true := by simp [h]
    rw [e, if_pos rfl]
    by_cases h2 : r ≥ 0
    · rw [if_pos h2]
      congr 1
      rw [Bool.eq_iff_iff]
      simp [h]
      omega
    · rw [if_neg h2]
      congr 1
      rw [Bool.eq_iff_iff]
      simp [h]
      omega
theorem num2 (op n : Int) : pleatref02_number.f (bitF (hasF op) 1) (bitF (hasF op) 2) (bitF (hasF op) 4) (bitF (hasF op) 8) (bitF (hasF op) 16) n = some (decide (¬ (n < lowT (hasF op) ∨ n > highT (hasF op)))) := by
  have hp := bit_place (op := op)
  unfold pleatref02_number.f lowT highT
  unfold bitF at hp ⊢
  by_cases h8 : Go.bits .and .i64 (hasF op) 8 = 0
  · have h16 : Go.bits .and .i64 (hasF op) 16 = 0 := by
      rcases Decidable.em (Go.bits .and .i64 (hasF op) 16 = 0) with h | h
      · exact h
      · have := hp (by simp [h])
        simp [h8] at this
    have e : (Go.bits .and .i64 (hasF op) 8 != 0) = false := by simp [h8]
    rw [e, if_neg (by decide)]
    congr 1
    rw [Bool.eq_iff_iff]
    simp [h8, h16]
    omega
  · have e : (Go.bits .and .i64 (hasF op) 8 != 0) = true := by simp [h8]
    rw [e, if_pos rfl]
    by_cases h16 : Go.bits .and .i64 (hasF op) 16 = 0
    · have e : (Go.bits .and .i64 (hasF op) 16 != 0) = false := by simp [h16]
      rw [e, if_neg (by decide), if_pos h16, if_pos h16, if_neg h8, if_neg h8]
      by_cases h2 : n ≥ -16384
      · rw [if_pos h2]; congr 1; rw [Bool.eq_iff_iff]; simp; omega
      · rw [if_neg h2]; congr 1; rw [Bool.eq_iff_iff]; simp; omega
    · have e : (Go.bits .and .i64 (hasF op) 16 != 0) = true := by simp [h16]
      rw [e, if_pos rfl, if_neg h16, if_neg h16]
      by_cases h2 : n ≥ 0
      · rw [if_pos h2]; congr 1; rw [Bool.eq_iff_iff]; simp; omega
      · rw [if_neg h2]; congr 1; rw [Bool.eq_iff_iff]; simp; omega

theorem enc2 (op d a b n : Int) : Ev (fun k => pleatref02_Encode.f k op d a b n) (encS op d a b n) := by
  have j1f : (0 ≤ op ∧ op < 22) → ¬ BadIns (hasT op) d a b n → Ev (fun k => pleatref02_Encode.j1 k false op d a b n) (wordS op d a b n, 0) := fun ho hb => by
    obtain ⟨⟨d0, d1⟩, ⟨a0, a1⟩, ⟨b0, b1⟩, n0, n1⟩ := not_bad hb
    have hl := low_range (hasT op)
    refine Ev.succ ?_
    simp only [pleatref02_Encode.j1]
    refine Ev.iteF (by decide) (Ev.ite2 (fun hn => Ev.val ?_) (fun hn => Ev.val ?_))
    · rw [wrap64_id (x := n + 32768) (by omega) (by omega)]
      unfold wordS
      refine Prod.ext ?_ rfl
      show _ = _
      omega
    · unfold wordS
      refine Prod.ext ?_ rfl
      show _ = _
      omega
  have j1t : Ev (fun k => pleatref02_Encode.j1 k true op d a b n) (0, 11) := by
    refine Ev.succ ?_
    simp only [pleatref02_Encode.j1]
    exact Ev.iteT trivial (Ev.val rfl)
  have j0t : Ev (fun k => pleatref02_Encode.j0 k true op d a b n) (0, 10) := by
    refine Ev.succ ?_
    simp only [pleatref02_Encode.j0]
    exact Ev.iteT trivial (Ev.val rfl)
  have j0f : (0 ≤ op ∧ op < 22) → Ev (fun k => pleatref02_Encode.j0 k false op d a b n) (if BadIns (hasT op) d a b n then (0, 11) else (wordS op d a b n, 0)) := fun ho => by
    have hF := hasF_in ho.1 ho.2
    refine Ev.succ ?_
    simp only [pleatref02_Encode.j0]
    refine Ev.iteF (by decide) (Ev.bind (has2 op) ?_)
    simp only [tup]
    refine Ev.bind0 (reg2 _ _ _) (Ev.ite2 (fun h1 => ?_) (fun h1 => ?_))
    · refine Ev.bind0 (reg2 _ _ _) (Ev.ite2 (fun h2 => ?_) (fun h2 => ?_))
      · refine Ev.bind0 (reg2 _ _ _) (Ev.ite2 (fun h3 => ?_) (fun h3 => ?_))
        · refine Ev.bind0 (num2 op n) ?_
          have g1 := of_decide_eq_true h1
          have g2 := of_decide_eq_true h2
          have g3 := of_decide_eq_true h3
          by_cases h4 : n < lowT (hasF op) ∨ n > highT (hasF op)
          · rw [if_pos (by rw [hF] at h4; exact .inr (.inr (.inr h4)))]
            have e : (!decide (¬ (n < lowT (hasF op) ∨ n > highT (hasF op)))) = true := by simpa using h4
            rw [e]
            exact j1t
          · have hb : ¬ BadIns (hasT op) d a b n := fun h => by
              rw [hF] at g1 g2 g3 h4
              rcases h with h | h | h | h
              · exact g1 h
              · exact g2 h
              · exact g3 h
              · exact h4 h
            rw [if_neg hb]
            have e : (!decide (¬ (n < lowT (hasF op) ∨ n > highT (hasF op)))) = false := by simpa using h4
            rw [e]
            exact j1f ho hb
        · have g := fun h => h3 (decide_eq_true h)
          rw [if_pos (by rw [hF] at g; exact .inr (.inr (.inl (Decidable.of_not_not g))))]
          exact j1t
      · have g := fun h => h2 (decide_eq_true h)
        rw [if_pos (by rw [hF] at g; exact .inr (.inl (Decidable.of_not_not g)))]
        exact j1t
    · have g := fun h => h1 (decide_eq_true h)
      rw [if_pos (by rw [hF] at g; exact .inl (Decidable.of_not_not g))]
      exact j1t
  unfold pleatref02_Encode.f encS
  refine Ev.ite2 (fun h => ?_) (fun h => ?_)
  · rw [if_pos h]
    exact j0t
  · rw [if_neg h]
    by_cases h2 : op ≥ 22
    · rw [if_pos h2, show (decide (op > 21)) = true from decide_eq_true (by omega)]
      exact j0t
    · rw [if_neg h2, show (decide (op > 21)) = false from decide_eq_false (by omega)]
      exact j0f ⟨by omega, by omega⟩

theorem i8_id {x : Int} (h0 : -128 ≤ x) (h1 : x ≤ 127) : IntKind.i8.wrap x = x := by
  simp [IntKind.wrap, IntKind.bits, IntKind.signed]
  omega
/-- The number of a word, its sign as its op has it. -/
def nS (w : Int) : Int := if bitF (hasF (w / 134217728)) 8 = true ∧ bitF (hasF (w / 134217728)) 16 = false ∧ 16384 ≤ w % 32768 then w % 32768 - 32768 else w % 32768
def decS (w : Int) : Int × Int × Int × Int × Int :=
  if encS (w / 134217728) (w / 8388608 % 16) (w / 524288 % 16) (w / 32768 % 16) (nS w) = (w, 0) then (w / 134217728, w / 8388608 % 16, w / 524288 % 16, w / 32768 % 16, nS w) else (-1, 0, 0, 0, w)
def decJ (w : Int) (b : Bool) (op d a c m : Int) : Int × Int × Int × Int × Int := if encS op d a c (if b = true then m - 32768 else m) = (w, 0) then (op, d, a, c, if b = true then m - 32768 else m) else (-1, 0, 0, 0, w)
theorem decJ1 {w : Int} (w0 : 0 ≤ w) (w1 : w < 4294967296) (b : Bool) (op d a c m : Int) (m0 : 0 ≤ m) (m1 : m < 32768) : Ev (fun k => isa_Decode.j0 k w b op d a c m) (decJ w b op d a c m) := by
  have hw : wrap64 w = w := wrap64_id (by omega) (by omega)
  have hm : wrap64 (m - 32768) = m - 32768 := wrap64_id (by omega) (by omega)
  refine Ev.succ ?_
  simp only [isa_Decode.j0, hw, hm]
  cases b with
  | true =>
    refine Ev.iteT rfl (Ev.bind0 (enc1 _ _ _ _ _) ?_)
    unfold decJ
    simp only [if_true]
    refine Ev.ite2 (fun h2 => Ev.ite2 (fun h1 => Ev.val ?_) (fun h1 => Ev.val ?_)) (fun h2 => Ev.val ?_)
    · rw [if_pos (Prod.ext h1 h2)]
    · rw [if_neg (fun h => h1 (by rw [h]))]
    · rw [if_neg (fun h => h2 (by rw [h]))]
  | false =>
    refine Ev.iteF (by decide) (Ev.bind0 (enc1 _ _ _ _ _) ?_)
    unfold decJ
    simp only [Bool.false_eq_true, if_false]
    refine Ev.ite2 (fun h2 => Ev.ite2 (fun h1 => Ev.val ?_) (fun h1 => Ev.val ?_)) (fun h2 => Ev.val ?_)
    · rw [if_pos (Prod.ext h1 h2)]
    · rw [if_neg (fun h => h1 (by rw [h]))]
    · rw [if_neg (fun h => h2 (by rw [h]))]
theorem decJ2 {w : Int} (w0 : 0 ≤ w) (w1 : w < 4294967296) (b : Bool) (op d a c m : Int) (m0 : 0 ≤ m) (m1 : m < 32768) : Ev (fun k => pleatref02_Decode.j0 k w b op d a c m) (decJ w b op d a c m) := by
  have hw : wrap64 w = w := wrap64_id (by omega) (by omega)
  have hm : wrap64 (m - 32768) = m - 32768 := wrap64_id (by omega) (by omega)
  refine Ev.succ ?_
  simp only [pleatref02_Decode.j0, hw, hm]
  cases b with
  | true =>
    refine Ev.iteT rfl (Ev.bind (enc2 _ _ _ _ _) ?_)
    unfold decJ
    simp only [if_true]
    refine Ev.ite2 (fun h2 => Ev.ite2 (fun h1 => Ev.val ?_) (fun h1 => Ev.val ?_)) (fun h2 => Ev.val ?_)
    · rw [if_pos (Prod.ext h1 h2)]
    · rw [if_neg (fun h => h1 (by rw [h]))]
    · rw [if_neg (fun h => h2 (by rw [h]))]
  | false =>
    refine Ev.iteF (by decide) (Ev.bind (enc2 _ _ _ _ _) ?_)
    unfold decJ
    simp only [Bool.false_eq_true, if_false]
    refine Ev.ite2 (fun h2 => Ev.ite2 (fun h1 => Ev.val ?_) (fun h1 => Ev.val ?_)) (fun h2 => Ev.val ?_)
    · rw [if_pos (Prod.ext h1 h2)]
    · rw [if_neg (fun h => h1 (by rw [h]))]
    · rw [if_neg (fun h => h2 (by rw [h]))]
theorem parts {w : Int} (w0 : 0 ≤ w) (w1 : w < 4294967296) : IntKind.i8.wrap (w / 134217728) = w / 134217728 ∧ IntKind.i8.wrap (Go.bits .and .u32 (w / 8388608) 15) = w / 8388608 % 16 ∧ IntKind.i8.wrap (Go.bits .and .u32 (w / 524288) 15) = w / 524288 % 16 ∧
    IntKind.i8.wrap (Go.bits .and .u32 (w / 32768) 15) = w / 32768 % 16 ∧ wrap64 (Go.bits .and .u32 w 32767) = w % 32768 := by
  rw [and_15 (by omega) (by omega), and_15 (by omega) (by omega), and_15 (by omega) (by omega), and_32767 w0 w1]
  exact ⟨i8_id (by omega) (by omega), i8_id (by omega) (by omega), i8_id (by omega) (by omega), i8_id (by omega) (by omega), wrap64_id (by omega) (by omega)⟩
theorem dec1 {w : Int} (w0 : 0 ≤ w) (w1 : w < 4294967296) : Ev (fun k => isa_Decode.f k w) (decS w) := by
  have m0 : 0 ≤ w % 32768 := by omega
  have m1 : w % 32768 < 32768 := by omega
  obtain ⟨p1, p2, p3, p4, p5⟩ := parts w0 w1
  have J := fun b => decJ1 w0 w1 b (w / 134217728) (w / 8388608 % 16) (w / 524288 % 16) (w / 32768 % 16) (w % 32768) m0 m1
  have E0 : (bitF (hasF (w / 134217728)) 8 = true ∧ bitF (hasF (w / 134217728)) 16 = false ∧ 16384 ≤ w % 32768) → decJ w true (w / 134217728) (w / 8388608 % 16) (w / 524288 % 16) (w / 32768 % 16) (w % 32768) = decS w := fun h => by
    unfold decJ decS nS
    simp only [if_pos h, if_true]
  have E1 : ¬ (bitF (hasF (w / 134217728)) 8 = true ∧ bitF (hasF (w / 134217728)) 16 = false ∧ 16384 ≤ w % 32768) → decJ w false (w / 134217728) (w / 8388608 % 16) (w / 524288 % 16) (w / 32768 % 16) (w % 32768) = decS w := fun h => by
    unfold decJ decS nS
    simp only [if_neg h, Bool.false_eq_true, if_false]
  unfold isa_Decode.f
  rw [p1, p2, p3, p4, p5]
  refine Ev.bind0 (has1 _) (Ev.ite2 (fun h8 => ?_) (fun h8 => Ev.ite2 (fun h16 => ?_) (fun h16 => ?_)))
  · exact Ev.to (J false) (E1 (fun h => by simp [bitF, h8] at h))
  · by_cases hm : w % 32768 ≥ 16384
    · rw [show decide (w % 32768 ≥ 16384) = true from decide_eq_true hm]
      exact Ev.to (J true) (E0 ⟨by simp [bitF, h8], by simp [bitF, h16], hm⟩)
    · rw [show decide (w % 32768 ≥ 16384) = false from decide_eq_false hm]
      exact Ev.to (J false) (E1 (fun h => hm h.2.2))
  · exact Ev.to (J false) (E1 (fun h => by simp [bitF, h16] at h))
theorem dec2 {w : Int} (w0 : 0 ≤ w) (w1 : w < 4294967296) : Ev (fun k => pleatref02_Decode.f k w) (decS w) := by
  have m0 : 0 ≤ w % 32768 := by omega
  have m1 : w % 32768 < 32768 := by omega
  obtain ⟨p1, p2, p3, p4, p5⟩ := parts w0 w1
  have J := fun b => decJ2 w0 w1 b (w / 134217728) (w / 8388608 % 16) (w / 524288 % 16) (w / 32768 % 16) (w % 32768) m0 m1
  have E0 : (bitF (hasF (w / 134217728)) 8 = true ∧ bitF (hasF (w / 134217728)) 16 = false ∧ 16384 ≤ w % 32768) → decJ w true (w / 134217728) (w / 8388608 % 16) (w / 524288 % 16) (w / 32768 % 16) (w % 32768) = decS w := fun h => by
    unfold decJ decS nS
    simp only [if_pos h, if_true]
  have E1 : ¬ (bitF (hasF (w / 134217728)) 8 = true ∧ bitF (hasF (w / 134217728)) 16 = false ∧ 16384 ≤ w % 32768) → decJ w false (w / 134217728) (w / 8388608 % 16) (w / 524288 % 16) (w / 32768 % 16) (w % 32768) = decS w := fun h => by
    unfold decJ decS nS
    simp only [if_neg h, Bool.false_eq_true, if_false]
  unfold pleatref02_Decode.f
  rw [p1, p2, p3, p4, p5]
  refine Ev.bind (has2 _) ?_
  simp only [tup]
  refine Ev.ite2 (fun h8 => Ev.ite2 (fun h16 => ?_) (fun h16 => ?_)) (fun h8 => ?_)
  · exact Ev.to (J false) (E1 (fun h => by rw [h16] at h; cases h.2.1))
  · by_cases hm : w % 32768 ≥ 16384
    · rw [show decide (w % 32768 ≥ 16384) = true from decide_eq_true hm]
      exact Ev.to (J true) (E0 ⟨h8, by simpa using h16, hm⟩)
    · rw [show decide (w % 32768 ≥ 16384) = false from decide_eq_false hm]
      exact Ev.to (J false) (E1 (fun h => hm h.2.2))
  · exact Ev.to (J false) (E1 (fun h => h8 h.1))
theorem encS_ok {op d a b n w : Int} (h : encS op d a b n = (w, 0)) : (0 ≤ op ∧ op < 22) ∧ ¬ BadIns (hasT op) d a b n ∧ w = wordS op d a b n := by
  unfold encS at h
  split at h
  · injection h with h1 h2; cases h2
  · split at h
    · injection h with h1 h2; cases h2
    · split at h
      · injection h with h1 h2; cases h2
      · injection h with h1 h2
        exact ⟨⟨by omega, by omega⟩, by assumption, h1.symm⟩
theorem encS_snd (op d a b n : Int) : (encS op d a b n).2 = 0 ∨ ((encS op d a b n).1 = 0 ∧ ((encS op d a b n).2 = 10 ∨ (encS op d a b n).2 = 11)) := by
  unfold encS
  repeat' split
  all_goals simp
theorem encS_fst (op d a b n : Int) : 0 ≤ (encS op d a b n).1 ∧ (encS op d a b n).1 < 4294967296 := by
  by_cases h : (encS op d a b n).2 = 0
  · obtain ⟨⟨h0, h1⟩, hb, hw⟩ := encS_ok (w := (encS op d a b n).1) (Prod.ext rfl h)
    obtain ⟨⟨d0, d1⟩, ⟨a0, a1⟩, ⟨b0, b1⟩, _⟩ := not_bad hb
    unfold wordS at hw
    omega
  · have := encS_snd op d a b n
    omega
theorem round_trip {op d a b n w : Int} (h : encS op d a b n = (w, 0)) : decS w = (op, d, a, b, n) := by
  obtain ⟨⟨h0, h1⟩, hb, hw⟩ := encS_ok h
  obtain ⟨⟨d0, d1⟩, ⟨a0, a1⟩, ⟨b0, b1⟩, n0, n1⟩ := not_bad hb
  have hl := low_range (hasT op)
  have q : 0 ≤ n % 32768 ∧ n % 32768 < 32768 := by omega
  unfold wordS at hw
  generalize hm : n % 32768 = m at hw q
  have e1 : w / 134217728 = op := by omega
  have e2 : w / 8388608 % 16 = d := by omega
  have e3 : w / 524288 % 16 = a := by omega
  have e4 : w / 32768 % 16 = b := by omega
  have e5 : w % 32768 = m := by omega
  have e6 : nS w = n := by
    unfold nS bitF
    rw [e1, e5, hasF_in h0 h1]
    unfold lowT at n0
    unfold highT at n1
    by_cases h16 : Go.bits .and .i64 (hasT op) 16 = 0
    · rw [if_pos h16] at n0 n1
      by_cases h8 : Go.bits .and .i64 (hasT op) 8 = 0
      · rw [if_pos h8] at n0 n1
        rw [if_neg (by simp [h8])]
        omega
      · rw [if_neg h8] at n0 n1
        by_cases hmm : 16384 ≤ m
        · rw [if_pos (by simp [h8, h16, hmm])]; omega
        · rw [if_neg (by simp [hmm])]; omega
    · rw [if_neg h16] at n0 n1
      rw [if_neg (by simp [h16])]
      omega
  unfold decS
  rw [e1, e2, e3, e4, e6, if_pos h]
/-- What a word decodes to is the instruction that has it, or none. -/
theorem decS_cases (w : Int) : (decS w).1 = -1 ∧ decS w = (-1, 0, 0, 0, w) ∨ 0 ≤ (decS w).1 ∧ encS (decS w).1 (decS w).2.1 (decS w).2.2.1 (decS w).2.2.2.1 (decS w).2.2.2.2 = (w, 0) := by
  unfold decS
  split
  · rename_i h
    exact .inr ⟨(encS_ok h).1.1, h⟩
  · exact .inl ⟨rfl, rfl⟩

def tgtS (w : Int) : Int × Bool := if bitF (hasF (decS w).1) 16 = true then ((decS w).2.2.2.2, true) else (0, false)
theorem tgt1 {w : Int} (w0 : 0 ≤ w) (w1 : w < 4294967296) : Ev (fun k => isa_Target.f k w) (tgtS w) := by
  unfold isa_Target.f tgtS
  refine Ev.bind (dec1 w0 w1) (Ev.bind0 (has1 _) (Ev.ite2 (fun h => Ev.val ?_) (fun h => Ev.val ?_)))
  · rw [if_neg (by simp [bitF, h])]
  · rw [if_pos (by simp [bitF, h])]
theorem tgt2 {w : Int} (w0 : 0 ≤ w) (w1 : w < 4294967296) : Ev (fun k => pleatref02_Target.f k w) (tgtS w) := by
  unfold pleatref02_Target.f tgtS
  refine Ev.bind (dec2 w0 w1) (Ev.ite2 (fun h => Ev.val ?_) (fun h => Ev.bind (has2 _) ?_))
  · have e := tup_out (op := (decS w).1) (.inl h)
    have : bitF (hasF (decS w).1) 16 = false := congrArg (fun t : Bool × Bool × Bool × Bool × Bool => t.2.2.2.2) e
    rw [this]
    rfl
  · simp only [tup]
    exact Ev.ite2 (fun h => Ev.val (by rw [if_pos h])) (fun h => Ev.val (by rw [if_neg h]))
/-- A target is a place. -/
theorem tgtS_range {w : Int} (h : (tgtS w).2 = true) : 0 ≤ (tgtS w).1 ∧ (tgtS w).1 < 16384 := by
  unfold tgtS at h ⊢
  split at h
  · rename_i hb
    rw [if_pos hb]
    rcases decS_cases w with ⟨h1, _⟩ | ⟨h1, h2⟩
    · have e := tup_out (op := (decS w).1) (.inl (by omega))
      have : bitF (hasF (decS w).1) 16 = false := congrArg (fun t : Bool × Bool × Bool × Bool × Bool => t.2.2.2.2) e
      rw [this] at hb
      cases hb
    · obtain ⟨⟨g0, g1⟩, hbad, _⟩ := encS_ok h2
      obtain ⟨_, _, _, n0, n1⟩ := not_bad hbad
      rw [hasF_in g0 g1] at hb
      have h16 : ¬ Go.bits .and .i64 (hasT (decS w).1) 16 = 0 := by simpa [bitF] using hb
      unfold lowT at n0
      unfold highT at n1
      rw [if_neg h16] at n0 n1
      exact ⟨n0, by show (decS w).2.2.2.2 < 16384; omega⟩
  · cases h
theorem tgtS_false {w : Int} (h : (tgtS w).2 = false) : (tgtS w).1 = 0 := by
  unfold tgtS at h ⊢
  split at h
  · cases h
  · rename_i hb
    rw [if_neg hb]

def endsO (op : Int) : Bool := if op = -1 then true else if op = 0 then true else if op = 15 then true else if op = 16 then true else if op = 17 then true else if op = 18 then true else if op = 19 then true else if op = 21 then true else false
theorem ends1 {w : Int} (w0 : 0 ≤ w) (w1 : w < 4294967296) : Ev (fun k => isa_Ends.f k w) (endsO (decS w).1) := by
  unfold isa_Ends.f endsO
  refine Ev.bind (dec1 w0 w1) ?_
  iterate 8 (refine Ev.ite2 (fun h => Ev.val (by rw [if_pos h])) (fun h => ?_); rw [if_neg h])
  exact Ev.val rfl
theorem ends2 {w : Int} (w0 : 0 ≤ w) (w1 : w < 4294967296) : Ev (fun k => pleatref02_Ends.f k w) (endsO (decS w).1) := by
  unfold pleatref02_Ends.f endsO
  refine Ev.bind (dec2 w0 w1) ?_
  iterate 8 (refine Ev.ite2 (fun h => Ev.val (by rw [if_pos h])) (fun h => ?_); rw [if_neg h])
  exact Ev.val rfl
def fallsO (op : Int) : Bool := if endsO op = true then op == 16 else true
theorem falls1 {w : Int} (w0 : 0 ≤ w) (w1 : w < 4294967296) : Ev (fun k => isa_Falls.f k w) (fallsO (decS w).1) := by
  unfold isa_Falls.f fallsO
  refine Ev.bind (ends1 w0 w1) (Ev.ite2 (fun h => Ev.bind (dec1 w0 w1) (Ev.val (by rw [if_pos h]))) (fun h => Ev.val (by rw [if_neg h])))
theorem falls2 {w : Int} (w0 : 0 ≤ w) (w1 : w < 4294967296) : Ev (fun k => pleatref02_Falls.f k w) (fallsO (decS w).1) := by
  unfold pleatref02_Falls.f fallsO
  refine Ev.bind (ends2 w0 w1) (Ev.ite2 (fun h => Ev.bind (dec2 w0 w1) (Ev.val (by rw [if_pos h]))) (fun h => Ev.val (by rw [if_neg h])))

end Go.Proofs.Ytiaohbbafaaibaa.P

/- OWN TEXT: whether an image may be, over plain numbers: the program's and the reference's check; what a gathering marks. -/
set_option linter.unusedVariables false
set_option linter.unusedSimpArgs false
namespace Go.Proofs.Ytiaohbbafaaibaa.P
open Go.RowKit Go.Proofs.YtiaohbbafaaibaaW.PrintWords Go.Proofs.YtiaohbbafaaibaaW.PrintLast Go.Proofs.YtiaohbbafaaibaaW.PrintMore

def Words (t : List Int) : Prop := ∀ x ∈ t, 0 ≤ x ∧ x < 4294967296
theorem Words.at {t : List Int} (h : Words t) {i : Nat} (hi : i < t.length) : 0 ≤ t[i] ∧ t[i] < 4294967296 := h _ (List.getElem_mem hi)
/-- the first word whose target lies beyond. -/
def scanT (n : Int) : List Int → Nat → Option Nat
  | [], _ => none
  | x :: r, i => if (tgtS x).2 = true then (if (tgtS x).1 ≥ n then some i else scanT n r (i + 1)) else scanT n r (i + 1)
def lastS (op n : Int) : Int × Int := if op = 0 then (0, 0) else if op = 15 then (0, 0) else if op = 19 then (0, 0) else if op = 21 then (0, 0) else (50, n - 1)
def chkS (t : List Int) (en : Int) (m : List Int) : Int × Int :=
  if (t.length : Int) = 0 then (50, 0) else if (t.length : Int) > 16384 then (42, 16384) else if (m.length : Int) > 4096 then (25, 4096) else if en < 0 then (41, 0) else if en ≥ (t.length : Int) then (41, 0)
  else match scanT (t.length : Int) t 0 with
    | some j => (22, (j : Int))
    | none => lastS (decS (rd t ((t.length : Int) - 1))).1 (t.length : Int)
theorem chk1_l {t : List Int} (ht : Words t) (hn0 : t.length ≠ 0) (hn : t.length ≤ 16384) (en : Int) (m : List Int) : ∀ d i : Nat, i + d = t.length →
    Ev (fun k => image_Check.l0 k (t.length : Int) t (t.length : Int) (i : Int) t en m) (match scanT (t.length : Int) (t.drop i) i with | some j => (22, (j : Int)) | none => lastS (decS (rd t ((t.length : Int) - 1))).1 (t.length : Int)) := by
  intro d
  induction d with
  | zero =>
    intro i hi
    have hd : t.drop i = [] := List.drop_eq_nil_of_le (by omega)
    rw [hd]
    have hw : wrap64 ((t.length : Int) - 1) = (t.length : Int) - 1 := wrap64_id (by omega) (by omega)
    have hl := ht.at (i := t.length - 1) (by omega)
    have hr : rd t ((t.length : Int) - 1) = t[t.length - 1] := by rw [show (t.length : Int) - 1 = ((t.length - 1 : Nat) : Int) by omega]; exact rd_get (by omega)
    refine Ev.succ (Ev.iteF (by omega) ?_)
    simp only [hw]
    refine Ev.iteT (by omega) (Ev.iteT (by omega) (Ev.bind (dec1 (by rw [hr]; exact hl.1) (by rw [hr]; exact hl.2)) ?_))
    unfold lastS
    show Ev _ (if _ then _ else _)
    refine (Ev.ite2 (fun h => Ev.val (by rw [if_pos h])) (fun h => ?_))
    rw [if_neg h]
    refine (Ev.ite2 (fun h => Ev.val (by rw [if_pos h])) (fun h => ?_))
    rw [if_neg h]
    refine (Ev.ite2 (fun h => Ev.val (by rw [if_pos h])) (fun h => ?_))
    rw [if_neg h]
    exact (Ev.ite2 (fun h => Ev.val (by rw [if_pos h])) (fun h => Ev.val (by rw [if_neg h])))
  | succ d ih =>
    intro i hi
    have hlt : i < t.length := by omega
    have hx := ht.at hlt
    have hr : rd t (i : Int) = t[i] := rd_get hlt
    have hw : wrap64 ((i : Int) + 1) = ((i + 1 : Nat) : Int) := by rw [wrap64_id (by omega) (by omega)]; rfl
    have IH := ih (i + 1) (by omega)
    rw [drop_get hlt]
    unfold scanT
    refine Ev.succ (Ev.iteT (by omega) (Ev.iteT (by omega) (Ev.iteT (by omega) ?_)))
    simp only [hr, hw]
    refine Ev.bind (tgt1 hx.1 hx.2) (Ev.ite2 (fun h => ?_) (fun h => ?_))
    · rw [if_pos h]
      refine Ev.ite2 (fun h1 => Ev.val (by rw [if_pos h1])) (fun h1 => ?_)
      rw [if_neg h1]
      exact IH
    · rw [if_neg h]
      exact IH
theorem chk1 {t : List Int} (ht : Words t) (en : Int) (m : List Int) : Ev (fun k => image_Check.f k t en m) (chkS t en m) := by
  unfold image_Check.f chkS
  refine Ev.ite2 (fun h => Ev.val (by rw [if_pos h])) (fun h0 => ?_)
  rw [if_neg h0]
  refine Ev.ite2 (fun h => Ev.val (by rw [if_pos h])) (fun h1 => ?_)
  rw [if_neg h1]
  refine Ev.ite2 (fun h => Ev.val (by rw [if_pos h])) (fun h => ?_)
  rw [if_neg h]
  refine Ev.ite2 (fun h => Ev.val (by rw [if_pos h])) (fun h => ?_)
  rw [if_neg h]
  refine Ev.ite2 (fun h => Ev.val (by rw [if_pos h])) (fun h => ?_)
  rw [if_neg h]
  have := chk1_l ht (by omega) (by omega) en m t.length 0 (by omega)
  rw [List.drop_zero] at this
  exact this
theorem chk2_l {t : List Int} (ht : Words t) (hn0 : t.length ≠ 0) (hn : t.length ≤ 16384) (en : Int) (m : List Int) : ∀ d i : Nat, i + d = t.length →
    Ev (fun k => pleatref07_Check.l0 k (t.length : Int) (i : Int) t en m) (match scanT (t.length : Int) (t.drop i) i with | some j => (22, (j : Int)) | none => lastS (decS (rd t ((t.length : Int) - 1))).1 (t.length : Int)) := by
  intro d
  induction d with
  | zero =>
    intro i hi
    have hd : t.drop i = [] := List.drop_eq_nil_of_le (by omega)
    rw [hd]
    have hw : wrap64 ((t.length : Int) - 1) = (t.length : Int) - 1 := wrap64_id (by omega) (by omega)
    have hl := ht.at (i := t.length - 1) (by omega)
    have hr : rd t ((t.length : Int) - 1) = t[t.length - 1] := by rw [show (t.length : Int) - 1 = ((t.length - 1 : Nat) : Int) by omega]; exact rd_get (by omega)
    refine Ev.succ (Ev.iteF (by omega) ?_)
    simp only [hw]
    refine Ev.iteT (by omega) (Ev.iteT (by omega) (Ev.bind (dec2 (by rw [hr]; exact hl.1) (by rw [hr]; exact hl.2)) ?_))
    unfold lastS
    show Ev _ (if _ then _ else _)
    refine (Ev.ite2 (fun h => Ev.val (by rw [if_pos h])) (fun h => ?_))
    rw [if_neg h]
    refine (Ev.ite2 (fun h => Ev.val (by rw [if_pos h])) (fun h => ?_))
    rw [if_neg h]
    refine (Ev.ite2 (fun h => Ev.val (by rw [if_pos h])) (fun h => ?_))
    rw [if_neg h]
    exact (Ev.ite2 (fun h => Ev.val (by rw [if_pos h])) (fun h => Ev.val (by rw [if_neg h])))
  | succ d ih =>
    intro i hi
    have hlt : i < t.length := by omega
    have hx := ht.at hlt
    have hr : rd t (i : Int) = t[i] := rd_get hlt
    have hw : wrap64 ((i : Int) + 1) = ((i + 1 : Nat) : Int) := by rw [wrap64_id (by omega) (by omega)]; rfl
    have IH := ih (i + 1) (by omega)
    rw [drop_get hlt]
    unfold scanT
    refine Ev.succ (Ev.iteT (by omega) (Ev.iteT (by omega) (Ev.iteT (by omega) ?_)))
    simp only [hr, hw]
    refine Ev.bind (tgt2 hx.1 hx.2) (Ev.ite2 (fun h => ?_) (fun h => ?_))
    · rw [if_pos h]
      refine Ev.ite2 (fun h1 => Ev.val (by rw [if_pos h1])) (fun h1 => ?_)
      rw [if_neg h1]
      exact IH
    · rw [if_neg h]
      exact IH
theorem chk2 {t : List Int} (ht : Words t) (en : Int) (m : List Int) : Ev (fun k => pleatref07_Check.f k t en m) (chkS t en m) := by
  unfold pleatref07_Check.f chkS
  refine Ev.ite2 (fun h => Ev.val (by rw [if_pos h])) (fun h0 => ?_)
  rw [if_neg h0]
  refine Ev.ite2 (fun h => Ev.val (by rw [if_pos h])) (fun h1 => ?_)
  rw [if_neg h1]
  refine Ev.ite2 (fun h => Ev.val (by rw [if_pos h])) (fun h => ?_)
  rw [if_neg h]
  refine Ev.ite2 (fun h => ?_) (fun h => ?_)
  · rw [if_pos h]
    refine Ev.succ ?_
    simp only [pleatref07_Check.j0, if_true]
    exact Ev.val rfl
  rw [if_neg h]
  refine Ev.succ (Ev.ite2 (fun h => Ev.val (by rw [if_pos (of_decide_eq_true h)])) (fun h => ?_))
  rw [if_neg (fun hc => h (decide_eq_true hc))]
  have := chk2_l ht (by omega) (by omega) en m t.length 0 (by omega)
  rw [List.drop_zero] at this
  exact this

/-- WHAT EACH WORD MARKS. kind 0: labels; 1: taken; 2: sites; 3: blocks' beginnings. -/
def tgtL (x : Int) : List Int := if (tgtS x).2 = true then [(tgtS x).1] else []
def hit0 (x en : Int) (i : Nat) : List Int := tgtL x ++ [en]
def hit1 (x en : Int) (i : Nat) : List Int := if (decS x).1 = 20 then [(decS x).2.2.2.2] else []
def hit2 (x en : Int) (i : Nat) : List Int := if (decS x).1 = 17 then [(i : Int) + 1] else if (decS x).1 = 18 then [(i : Int) + 1] else []
def hit3 (x en : Int) (i : Nat) : List Int := tgtL x ++ ((if endsO (decS x).1 = true then [(i : Int) + 1] else []) ++ [en, 0])
end Go.Proofs.Ytiaohbbafaaibaa.P

/- OWN TEXT: a map[K]bool that a call has made and uses as a set: what it holds, how a look-up without 'ok' answers, how a store turns it. -/
namespace Go.Proofs.Ytiaohbbafaaibaa.MapB
open Go.RowKit Go.Maps Go.Proofs.YtiaohbbafaaibaaW.PrintWords Go.Proofs.Ytiaohbbafaaibaa.Arr
set_option linter.unusedVariables false
set_option linter.unusedSimpArgs false

def Seen (w : World) (P : Program) (k e : TypeId) (b n : Nat) (S : Lit → Bool) : Prop :=
  ∃ D : DataW Unit, w.ownsMap P k (plainElem P e) b n D ∧ ∀ kl, WideAt.IsKeyLit kl → D.atKey kl (.lit (.bool false)) = .lit (.bool (S kl))
def addS (S : Lit → Bool) (kl : Lit) : Lit → Bool := fun l => l.sameKey kl || S l
variable {P : Program} {k e : TypeId} {w : World} {b n : Nat} {S : Lit → Bool}
theorem Seen.made (w : World) (P : Program) (k e : TypeId) : Seen (w.alloc (.map #[] 0)) P k e w.heap.size 0 (fun _ => false) :=
  ⟨.map [], World.ownsMap_made w P k _, fun kl _ => rfl⟩
theorem Seen.kept {w' : World} {row : Option Nat} (h : Seen w P k e b n S) (hg : w.grownBy w' row) (hne : some b ≠ row) : Seen w' P k e b n S := by
  obtain ⟨D, h1, h2⟩ := h
  exact ⟨D, h1.kept hg hne, h2⟩
theorem Seen.alloc (h : Seen w P k e b n S) (o : Obj) : Seen (w.alloc o) P k e b n S := h.kept (World.grownBy_alloc w o none) (by simp)
theorem Seen.below {w' : World} (h : Seen w P k e b n S) (hb : Below w.heap.size w w') : Seen w' P k e b n S := h.kept (grown_of_below hb none) (by simp)
theorem Seen.setCell (h : Seen w P k e b n S) {a : Addr} (ha : b ≠ a.block) (u : Value) : Seen (w.setCell a u) P k e b n S := by
  obtain ⟨D, h1, h2⟩ := h
  exact ⟨D, h1.setCell ha u, h2⟩
theorem Seen.mono (h : Seen w P k e b n S) {n' : Nat} (hn : n ≤ n') : Seen w P k e b n' S := by
  obtain ⟨D, h1, h2⟩ := h
  exact ⟨D, h1.mono hn, h2⟩
theorem Seen.to {S' : Lit → Bool} (h : Seen w P k e b n S) (e1 : S = S') : Seen w P k e b n S' := e1 ▸ h
theorem Seen.lt (h : Seen w P k e b n S) : b < w.heap.size := by
  obtain ⟨D, h1, h2⟩ := h
  exact h1.lt
theorem plainElem_bool_inv {H : Type} {P : Program} {e : TypeId} (he : P.underlying e = some .bool) {v : Value} {z : DataW H × List MemPlace} (h : plainElem P e v = some z) : ∃ x, v = .bool x ∧ z = (.lit (.bool x), []) := by
  unfold plainElem at h
  rw [he] at h
  cases v <;> simp at h
  exact ⟨_, rfl, h.symm⟩
theorem Seen.lookup {t : TypeId} (h : Seen w P k e b n S) (K : Keyed P k) (ht : P.underlying t = some (.map k e)) (he : P.underlying e = some .bool) (hz : (zeroValue e).run P w = .ok (.bool false) w)
    {key : Value} {kl : Lit} (hkey : keyOf P k key = some kl) (hkl : WideAt.IsKeyLit kl) : (Instr.lookup t (.map (some b)) key false).run P w = .ok (.bool (S kl)) w := by
  obtain ⟨D, h1, h2⟩ := h
  obtain ⟨v, ps, hrun, hv⟩ := h1.lookup K ht hz (plainElem_bool (H := Unit) he false) hkey
  obtain ⟨x, rfl, hx⟩ := plainElem_bool_inv he hv
  have hx1 := congrArg Prod.fst hx
  rw [h2 kl hkl] at hx1
  have hx2 : S kl = x := by
    have := DataW.lit.inj hx1
    injection this
  rw [hx2]
  exact hrun
theorem Seen.add {t : TypeId} (h : Seen w P k e b n S) (K : Keyed P k) (ht : P.underlying t = some (.map k e)) (he : P.underlying e = some .bool) (hn : n < maxLen)
    {key : Value} {kl : Lit} (hkey : keyOf P k key = some kl) (hkl : WideAt.IsKeyLit kl) : ∃ w', (Instr.mapUpdate t (.map (some b)) key (.bool true)).run P w = .ok () w' ∧ Seen w' P k e b (n + 1) (addS S kl) ∧ w.grownBy w' (some b) := by
  obtain ⟨D, h1, h2⟩ := h
  obtain ⟨w', r1, r2, r3⟩ := h1.update K ht hn hkey (plainElem_bool (H := Unit) he true)
  refine ⟨w', r1, ⟨_, r2, fun l hl => ?_⟩, r3⟩
  unfold addS
  by_cases hc : l = kl
  · subst hc
    rw [atKey_put_same h1.isMap hkl, WideAt.sameKey_self hkl]
    rfl
  · rw [atKey_put_other hc, h2 l hl, sameKey_ne hc]
    rfl
section
variable {ops : Array Oper} {rest : List Oper} {o : Oper} {a : Act} {Q : Exit → Act → World → Prop}
theorem wpList_lookup_seen (hg : o.guard = none) (m x : Operand) (t : TypeId) (hop : o.op = Op.lookup t m x false)
    (k e : TypeId) (K : Keyed P k) (ht : P.underlying t = some (.map k e)) (he : P.underlying e = some .bool) (hz : (zeroValue e).run P w = .ok (.bool false) w) (b n : Nat) (S : Lit → Bool)
    (hm : a.eval m = .map (some b)) (hs : Seen w P k e b n S) (key : Value) (kl : Lit) (hx : a.eval x = key) (hkey : keyOf P k key = some kl) (hkl : WideAt.IsKeyLit kl)
    (hK : wpList P ops Q rest (a.put o.dst (.bool (S kl))) w) : wpList P ops Q (o :: rest) a w := by
  refine wpList_plain hg fun K' hK' => ?_
  have hrun := hs.lookup K ht he hz hkey hkl
  unfold Oper.wp
  simp [execOp, hop, hm, hx, hrun, Result.andThen]
  exact hK' _ _ hK
theorem wpList_update_seen (hg : o.guard = none) (m x v : Operand) (t : TypeId) (hop : o.op = Op.mapUpdate t m x v)
    (k e : TypeId) (K : Keyed P k) (ht : P.underlying t = some (.map k e)) (he : P.underlying e = some .bool) (b n : Nat) (S : Lit → Bool)
    (hm : a.eval m = .map (some b)) (hs : Seen w P k e b n S) (hn : n < maxLen) (key : Value) (kl : Lit) (hx : a.eval x = key) (hv : a.eval v = .bool true) (hkey : keyOf P k key = some kl) (hkl : WideAt.IsKeyLit kl)
    (hK : ∀ w', Seen w' P k e b (n + 1) (addS S kl) → w.grownBy w' (some b) → wpList P ops Q rest (a.put o.dst undef) w') : wpList P ops Q (o :: rest) a w := by
  refine wpList_plain hg fun K' hK' => ?_
  obtain ⟨w', hrun, r1, r2⟩ := hs.add K ht he hn hkey hkl
  unfold Oper.wp
  simp [execOp, hop, hm, hx, hv, hrun, Result.andThen]
  exact hK' _ _ (hK w' r1 r2)
theorem wpList_make_map {W : World} (hgd : o.guard = none) {N : Tmp} (_hd : o.dst = some N) {t : TypeId} (hop : o.op = Op.makeMap t none)
    (hrun : (execOp a.eval o).run P W = .ok (.value (.map (some W.heap.size))) (W.alloc (.map #[] 0)))
    (h : ∀ g, g = W.heap.size → ∀ w1, Seen w1 P k e g 0 (fun _ => false) → Below W.heap.size W w1 → wpList P ops Q rest (a.put o.dst (.map (some g))) w1) : wpList P ops Q (o :: rest) a W :=
  Kd.event_run hgd hrun (h _ rfl _ (Seen.made W P k e) (below_alloc (Below.refl _ _) _))
end
end Go.Proofs.Ytiaohbbafaaibaa.MapB

/- OWN TEXT: what block.Labels, Taken, Sites and Blocks come to (they hand closures over a map to one function, which the print does not take), in the print's own form. -/
namespace Go.Proofs.Ytiaohbbafaaibaa.P
open Go.RowKit Go.Maps Go.Proofs.YtiaohbbafaaibaaW.PrintWords Go.Proofs.YtiaohbbafaaibaaW.PrintLast Go.Proofs.YtiaohbbafaaibaaW.PrintMore Go.Proofs.Ytiaohbbafaaibaa.Arr Go.Proofs.Ytiaohbbafaaibaa.MapB
set_option linter.unusedVariables false
set_option linter.unusedSimpArgs false

theorem cells5b {W : World} {g t : Nat} {v0 v1 v2 v3 v4 : Value} (h : W.heap[g]? = some (.cells #[v0, v1, v2, v3, v4] t (0, 0))) :
    W.cell? ⟨g, 0, none⟩ = some v0 ∧ W.cell? ⟨g, 1, none⟩ = some v1 ∧ W.cell? ⟨g, 2, none⟩ = some v2 ∧ W.cell? ⟨g, 3, none⟩ = some v3 ∧ W.cell? ⟨g, 4, none⟩ = some v4 :=
  ⟨blk_cell h 0, blk_cell h 1, blk_cell h 2, blk_cell h 3, blk_cell h 4⟩
theorem lawI : Keyed Try.prog 3 := int_keyed Try.underlying3
theorem zeroB (w : World) : (zeroValue 4).run Try.prog w = .ok (.bool false) w := by kernel_rfl
abbrev SeenI (W : World) (b n : Nat) (S : Lit → Bool) : Prop := Seen W Try.prog 3 4 b n S
def mapCell (b : Nat) : Obj := .cells #[.map (some b)] 141 (0, 0)
set_option maxRecDepth 100000 in
theorem see.calls (p : Int) (W : World) (b n mc : Nat) (S : Lit → Bool) (hp : (Lit.int .i64 p).wf = true) (hn : n < maxLen) (hmc : W.heap[mc]? = some (mapCell b)) (hS : SeenI W b n S) :
    Calls Try.prog 127 #[.int .i64 p, .pointer (some ⟨mc, 0, none⟩)] W fun e w' => e = .returned (.tuple #[]) ∧ SeenI w' b (n + 1) (addS S (.int .i64 p)) ∧ W.grownBy w' (some b) := by
  have hc : W.cell? ⟨mc, 0, none⟩ = some (.map (some b)) := blk_cell hmc 0
  have hkey : keyOf Try.prog 3 (.int .i64 p) = some (.int .i64 p) := keyOf_int_mk Try.underlying3 hp
  go_enter Try.func127, Try.ntmps127
  go_wp2_with (at_mapUpdate; refine wpList_update_seen rfl _ _ _ 141 rfl 3 4 lawI Try.underlying141 Try.underlying4 b n S rfl hS hn _ _ rfl rfl hkey trivial ?_; intro w1 hs1 hg1)
  refine Go.Great.bodyPost_end0 rfl rfl ?_
  exact ⟨rfl, hs1, hg1⟩

structure Mk (W0 W : World) (gi : Nat) (oi : Obj) (xa : Addr) (x : Value) (mc b n : Nat) (S : Lit → Bool) : Prop where
  img : W.heap[gi]? = some oi
  txt : W.cell? xa = some x
  map : W.heap[mc]? = some (mapCell b)
  seen : SeenI W b n S
  grown : W0.grownBy W (some b)
  n1 : gi ≠ b
  n2 : xa.block ≠ b
  n3 : mc ≠ b
theorem grown_trans {w0 w1 w2 : World} {row : Option Nat} (h : w0.grownBy w1 row) (h2 : w1.grownBy w2 row) : w0.grownBy w2 row :=
  ⟨h2.os.trans h.os, h2.tape.trans h.tape, h2.output.trans h.output, Nat.le_trans h.size h2.size, fun k hk hne => (h2.block k (Nat.lt_of_lt_of_le hk h.size) hne).trans (h.block k hk hne)⟩
theorem Mk.below {W0 W W1 : World} {gi : Nat} {oi : Obj} {xa : Addr} {x : Value} {mc b n : Nat} {S : Lit → Bool} (h : Mk W0 W gi oi xa x mc b n S) (hb : Below W.heap.size W W1) : Mk W0 W1 gi oi xa x mc b n S :=
  ⟨blk_below h.img hb, pw_cell_below hb h.txt, blk_below h.map hb, h.seen.below hb, grown_trans h.grown (grown_of_below hb _), h.n1, h.n2, h.n3⟩
theorem Mk.grow {W0 W W1 : World} {gi : Nat} {oi : Obj} {xa : Addr} {x : Value} {mc b n n' : Nat} {S S' : Lit → Bool} (h : Mk W0 W gi oi xa x mc b n S) (hg : W.grownBy W1 (some b)) (hs : SeenI W1 b n' S') : Mk W0 W1 gi oi xa x mc b n' S' :=
  ⟨blk_grown h.img hg (fun e => h.n1 (Option.some.inj e)), hg.cell h.txt (fun e => h.n2 (Option.some.inj e)), blk_grown h.map hg (fun e => h.n3 (Option.some.inj e)), hs, grown_trans h.grown hg, h.n1, h.n2, h.n3⟩
def addL (S : Lit → Bool) (l : List Int) : Lit → Bool := l.foldl (fun S p => addS S (.int .i64 p)) S
def imgCell (A : Option Addr) (n c : Nat) (en : Int) (A2 : Option Addr) (n2 c2 : Nat) : Obj := .cells #[.slice A n c, .int .i64 en, .slice A2 n2 c2] 69 (0, 0)
theorem tgtS_wf (x : Int) : (Lit.int .i64 (tgtS x).1).wf = true := by
  cases h : (tgtS x).2
  · rw [tgtS_false h]; decide
  · have := tgtS_range h
    exact Go.WalkArith.wf_i64 (by omega)

theorem decS_wf4 (x : Int) (x0 : 0 ≤ x) (x1 : x < 4294967296) : (Lit.int .i64 (decS x).2.2.2.2).wf = true := by
  have h : -16384 ≤ (decS x).2.2.2.2 ∧ (decS x).2.2.2.2 < 4294967296 := by
    rcases decS_cases x with ⟨h1, h2⟩ | ⟨h1, h2⟩
    · rw [h2]; simp only; omega
    · obtain ⟨_, hb, _⟩ := encS_ok h2
      have := not_bad hb
      have := low_range (hasT (decS x).1)
      omega
  exact Go.WalkArith.wf_i64 (by omega)

set_option maxHeartbeats 4000000 in
set_option maxRecDepth 100000 in
theorem mark0.calls (i : Nat) (x i0 i1 i2 i3 i4 : Int) (W0 W : World) (gi : Nat) (ad : Addr) (l c : Nat) (en : Int) (A2 : Option Addr) (n2 c2 : Nat) (mc b n : Nat) (S : Lit → Bool) (x0 : 0 ≤ x) (x1 : x < 4294967296) (hd : decS x = (i0, i1, i2, i3, i4)) (hi : i < l) (hi2 : i < 1000000) (hen : (Lit.int .i64 en).wf = true) (hn : n + 8 < maxLen)
    (hk : Mk W0 W gi (imgCell (some ad) l c en A2 n2 c2) (ad.add i) (.int .u32 x) mc b n S) :
    Calls Try.prog 98 #[.int .i64 (i : Int), .agg #[.int .i8 i0, .int .i8 i1, .int .i8 i2, .int .i8 i3, .int .i64 i4], .func (.func 127) #[] #[.pointer (some ⟨mc, 0, none⟩)], .pointer (some ⟨gi, 0, none⟩)] W fun e w' => e = .returned (.tuple #[]) ∧ Mk W0 w' gi (imgCell (some ad) l c en A2 n2 c2) (ad.add i) (.int .u32 x) mc b (n + 4) (addL S (hit0 x en i)) := by
  have HN := Aside0.mk hn
  have HK := Aside0.mk hk
  clear hn hk
  have hu1 := Try.underlying69
  have hu2 := Try.underlying36
  have hmono : ∀ {w' : World} {m : Nat} {S' : Lit → Bool}, Mk W0 w' gi (imgCell (some ad) l c en A2 n2 c2) (ad.add i) (.int .u32 x) mc b m S' → m ≤ n + 4 → Mk W0 w' gi (imgCell (some ad) l c en A2 n2 c2) (ad.add i) (.int .u32 x) mc b (n + 4) S' := fun h hm => ⟨h.img, h.txt, h.map, h.seen.mono hm, h.grown, h.n1, h.n2, h.n3⟩
  obtain ⟨kT, HT0⟩ := Ev.rounds (tgt1 x0 x1)
  obtain ⟨kE, HE0⟩ := Ev.rounds (ends1 x0 x1)
  have HE := Aside0.mk HE0
  have HW1 := Aside0.mk (tgtS_wf x)
  have HW2 := Aside0.mk hen
  have HW3 := Aside0.mk (show (Lit.int .i64 ((i : Int) + 1)).wf = true from Go.WalkArith.wf_i64 (by omega))
  have HW4 := Aside0.mk (show (Lit.int .i64 0).wf = true by decide)
  have hwr : wrap64 ((i : Int) + 1) = (i : Int) + 1 := wrap64_id (by omega) (by omega)
  clear HE0 hen
  have HT := Aside0.mk HT0
  have ia : (0 : Int) ≤ (i : Int) := by omega
  have ib : (i : Int) < (l : Int) := by omega
  have ic : ((i : Int)).toNat = i := by omega
  replace ia := eq_true ia
  replace ib := eq_true ib
  clear HT0
  generalize ht : tgtS x = t at HT HW1
  obtain ⟨t1, t2⟩ := t
  generalize he : endsO (decS x).1 = eb at HE
  have hh : hit0 x en i = (if t2 = true then [t1] else []) ++ [en] := by unfold hit0 tgtL; rw [ht]
  rw [hh]
  clear hh ht he hd x0 x1
  have hx := HK.out.txt
  cases t2
  all_goals
    go_enter Try.func98, Try.ntmps98
    go_wp2_with (first | ((with_reducible refine gate_dst (N := 5) rfl ?_); refine box_event ?hg (N := 5) ?hd (cs := #[.int .i8 i0, .int .i8 i1, .int .i8 i2, .int .i8 i3, .int .i64 i4]) (t := 36) ?hr ?_; (case hd => rfl); (case hg => rfl); (case hr => first | (go_simp; done) | (go_simp; rfl)); intro g0 hge0 w1 BK1 hb1; have HKn := Aside0.mk (HK.out.below hb1); clear HK; have HK := HKn; clear HKn; have hci0 := blk_cell HK.out.img 0; have hci1 := blk_cell HK.out.img 1; have hci2 := blk_cell HK.out.img 2; have hx := HK.out.txt; obtain ⟨q0, q1, q2, q3, q4⟩ := cells5b BK1; clear BK1 hb1 hge0) | (go_at_call 25; refine (isa_Target.calls kT x t1 _ _ HT.out).mono ?_; rintro e w2 ⟨rfl, hb⟩; have HKn := Aside0.mk (HK.out.below hb); clear HK hb; have HK := HKn; clear HKn; have hci0 := blk_cell HK.out.img 0; have hci1 := blk_cell HK.out.img 1; have hci2 := blk_cell HK.out.img 2; have hx := HK.out.txt) | (go_at_call 28; refine (isa_Ends.calls kE x _ _ HE.out).mono ?_; rintro e w2 ⟨rfl, hb⟩; have HKn := Aside0.mk (HK.out.below hb); clear HK hb; have HK := HKn; clear HKn; have hci0 := blk_cell HK.out.img 0; have hci1 := blk_cell HK.out.img 1; have hci2 := blk_cell HK.out.img 2; have hx := HK.out.txt) | (go_at_call 127; refine (see.calls _ _ _ _ _ _ ?wf ?sz HK.out.map HK.out.seen).mono ?_; (case wf => first | (with_reducible exact HW1.out) | (with_reducible exact HW2.out) | (with_reducible exact HW3.out) | (with_reducible exact HW4.out) | (rw [hwr]; with_reducible exact HW3.out)); (case sz => have := HN.out; omega); rintro e w2 ⟨rfl, hs, hg⟩; (try rw [hwr] at hs); have HKn := Aside0.mk (HK.out.grow hg hs); clear HK hs hg; have HK := HKn; clear HKn; have hci0 := blk_cell HK.out.img 0; have hci1 := blk_cell HK.out.img 1; have hci2 := blk_cell HK.out.img 2; have hx := HK.out.txt))
    refine Go.Great.bodyPost_end0 rfl rfl ?_
    exact ⟨rfl, hmono HK.out (by omega)⟩

set_option maxHeartbeats 4000000 in
set_option maxRecDepth 100000 in
theorem mark1.calls (i : Nat) (x i0 i1 i2 i3 i4 : Int) (W0 W : World) (gi : Nat) (ad : Addr) (l c : Nat) (en : Int) (A2 : Option Addr) (n2 c2 : Nat) (mc b n : Nat) (S : Lit → Bool) (x0 : 0 ≤ x) (x1 : x < 4294967296) (hd : decS x = (i0, i1, i2, i3, i4)) (hi : i < l) (hi2 : i < 1000000) (hen : (Lit.int .i64 en).wf = true) (hn : n + 8 < maxLen)
    (hk : Mk W0 W gi (imgCell (some ad) l c en A2 n2 c2) (ad.add i) (.int .u32 x) mc b n S) :
    Calls Try.prog 99 #[.int .i64 (i : Int), .agg #[.int .i8 i0, .int .i8 i1, .int .i8 i2, .int .i8 i3, .int .i64 i4], .func (.func 127) #[] #[.pointer (some ⟨mc, 0, none⟩)]] W fun e w' => e = .returned (.tuple #[]) ∧ Mk W0 w' gi (imgCell (some ad) l c en A2 n2 c2) (ad.add i) (.int .u32 x) mc b (n + 4) (addL S (hit1 x en i)) := by
  have HN := Aside0.mk hn
  have HK := Aside0.mk hk
  clear hn hk
  have hu1 := Try.underlying69
  have hu2 := Try.underlying36
  have hmono : ∀ {w' : World} {m : Nat} {S' : Lit → Bool}, Mk W0 w' gi (imgCell (some ad) l c en A2 n2 c2) (ad.add i) (.int .u32 x) mc b m S' → m ≤ n + 4 → Mk W0 w' gi (imgCell (some ad) l c en A2 n2 c2) (ad.add i) (.int .u32 x) mc b (n + 4) S' := fun h hm => ⟨h.img, h.txt, h.map, h.seen.mono hm, h.grown, h.n1, h.n2, h.n3⟩
  have HW1 := Aside0.mk (show (Lit.int .i64 i4).wf = true by have := decS_wf4 x x0 x1; rw [hd] at this; exact this)
  have HW3 := Aside0.mk (show (Lit.int .i64 ((i : Int) + 1)).wf = true from Go.WalkArith.wf_i64 (by omega))
  have hwr : wrap64 ((i : Int) + 1) = (i : Int) + 1 := wrap64_id (by omega) (by omega)
  have hh : hit1 x en i = (if i0 = 20 then [i4] else []) := by unfold hit1; rw [hd]
  rw [hh]
  clear hh hd x0 x1 hen
  by_cases c : i0 = 20
  · rw [if_pos c]
    have cb : (i0 == 20) = true := by simp [c]
    clear c
    go_enter Try.func99, Try.ntmps99
    go_wp2_with (first | ((with_reducible refine gate_dst (N := 4) rfl ?_); refine box_event ?hg (N := 4) ?hd (cs := #[.int .i8 i0, .int .i8 i1, .int .i8 i2, .int .i8 i3, .int .i64 i4]) (t := 36) ?hr ?_; (case hd => rfl); (case hg => rfl); (case hr => first | (go_simp; done) | (go_simp; rfl)); intro g0 hge0 w1 BK1 hb1; have HKn := Aside0.mk (HK.out.below hb1); clear HK; have HK := HKn; clear HKn; have hci0 := blk_cell HK.out.img 0; have hci1 := blk_cell HK.out.img 1; have hci2 := blk_cell HK.out.img 2; have hx := HK.out.txt; obtain ⟨q0, q1, q2, q3, q4⟩ := cells5b BK1; clear BK1 hb1 hge0) | (go_at_call 127; refine (see.calls _ _ _ _ _ _ ?wf ?sz HK.out.map HK.out.seen).mono ?_; (case wf => first | (with_reducible exact HW1.out) | (with_reducible exact HW3.out) | (rw [hwr]; with_reducible exact HW3.out)); (case sz => have := HN.out; omega); rintro e w2 ⟨rfl, hs, hg⟩; (try rw [hwr] at hs); have HKn := Aside0.mk (HK.out.grow hg hs); clear HK hs hg; have HK := HKn; clear HKn; have hci0 := blk_cell HK.out.img 0; have hci1 := blk_cell HK.out.img 1; have hci2 := blk_cell HK.out.img 2; have hx := HK.out.txt))
    refine Go.Great.bodyPost_end0 rfl rfl ?_
    exact ⟨rfl, hmono HK.out (by omega)⟩
  · rw [if_neg c]
    have cb : (i0 == 20) = false := by simp [c]
    clear c
    go_enter Try.func99, Try.ntmps99
    go_wp2_with (first | ((with_reducible refine gate_dst (N := 4) rfl ?_); refine box_event ?hg (N := 4) ?hd (cs := #[.int .i8 i0, .int .i8 i1, .int .i8 i2, .int .i8 i3, .int .i64 i4]) (t := 36) ?hr ?_; (case hd => rfl); (case hg => rfl); (case hr => first | (go_simp; done) | (go_simp; rfl)); intro g0 hge0 w1 BK1 hb1; have HKn := Aside0.mk (HK.out.below hb1); clear HK; have HK := HKn; clear HKn; have hci0 := blk_cell HK.out.img 0; have hci1 := blk_cell HK.out.img 1; have hci2 := blk_cell HK.out.img 2; have hx := HK.out.txt; obtain ⟨q0, q1, q2, q3, q4⟩ := cells5b BK1; clear BK1 hb1 hge0) | (go_at_call 127; refine (see.calls _ _ _ _ _ _ ?wf ?sz HK.out.map HK.out.seen).mono ?_; (case wf => first | (with_reducible exact HW1.out) | (with_reducible exact HW3.out) | (rw [hwr]; with_reducible exact HW3.out)); (case sz => have := HN.out; omega); rintro e w2 ⟨rfl, hs, hg⟩; (try rw [hwr] at hs); have HKn := Aside0.mk (HK.out.grow hg hs); clear HK hs hg; have HK := HKn; clear HKn; have hci0 := blk_cell HK.out.img 0; have hci1 := blk_cell HK.out.img 1; have hci2 := blk_cell HK.out.img 2; have hx := HK.out.txt))
    refine Go.Great.bodyPost_end0 rfl rfl ?_
    exact ⟨rfl, hmono HK.out (by omega)⟩

set_option maxHeartbeats 4000000 in
set_option maxRecDepth 100000 in
theorem mark2.calls (i : Nat) (x i0 i1 i2 i3 i4 : Int) (W0 W : World) (gi : Nat) (ad : Addr) (l c : Nat) (en : Int) (A2 : Option Addr) (n2 c2 : Nat) (mc b n : Nat) (S : Lit → Bool) (x0 : 0 ≤ x) (x1 : x < 4294967296) (hd : decS x = (i0, i1, i2, i3, i4)) (hi : i < l) (hi2 : i < 1000000) (hen : (Lit.int .i64 en).wf = true) (hn : n + 8 < maxLen)
    (hk : Mk W0 W gi (imgCell (some ad) l c en A2 n2 c2) (ad.add i) (.int .u32 x) mc b n S) :
    Calls Try.prog 100 #[.int .i64 (i : Int), .agg #[.int .i8 i0, .int .i8 i1, .int .i8 i2, .int .i8 i3, .int .i64 i4], .func (.func 127) #[] #[.pointer (some ⟨mc, 0, none⟩)]] W fun e w' => e = .returned (.tuple #[]) ∧ Mk W0 w' gi (imgCell (some ad) l c en A2 n2 c2) (ad.add i) (.int .u32 x) mc b (n + 4) (addL S (hit2 x en i)) := by
  have HN := Aside0.mk hn
  have HK := Aside0.mk hk
  clear hn hk
  have hu1 := Try.underlying69
  have hu2 := Try.underlying36
  have hmono : ∀ {w' : World} {m : Nat} {S' : Lit → Bool}, Mk W0 w' gi (imgCell (some ad) l c en A2 n2 c2) (ad.add i) (.int .u32 x) mc b m S' → m ≤ n + 4 → Mk W0 w' gi (imgCell (some ad) l c en A2 n2 c2) (ad.add i) (.int .u32 x) mc b (n + 4) S' := fun h hm => ⟨h.img, h.txt, h.map, h.seen.mono hm, h.grown, h.n1, h.n2, h.n3⟩
  have HW1 := Aside0.mk (show (Lit.int .i64 i4).wf = true by have := decS_wf4 x x0 x1; rw [hd] at this; exact this)
  have HW3 := Aside0.mk (show (Lit.int .i64 ((i : Int) + 1)).wf = true from Go.WalkArith.wf_i64 (by omega))
  have hwr : wrap64 ((i : Int) + 1) = (i : Int) + 1 := wrap64_id (by omega) (by omega)
  have hh : hit2 x en i = (if i0 = 17 then [(i : Int) + 1] else if i0 = 18 then [(i : Int) + 1] else []) := by unfold hit2; rw [hd]
  rw [hh]
  clear hh hd x0 x1 hen
  by_cases c : i0 = 17
  · rw [if_pos c]
    have cb : (i0 == 17) = true := by simp [c]
    clear c
    go_enter Try.func100, Try.ntmps100
    go_wp2_with (first | ((with_reducible refine gate_dst (N := 4) rfl ?_); refine box_event ?hg (N := 4) ?hd (cs := #[.int .i8 i0, .int .i8 i1, .int .i8 i2, .int .i8 i3, .int .i64 i4]) (t := 36) ?hr ?_; (case hd => rfl); (case hg => rfl); (case hr => first | (go_simp; done) | (go_simp; rfl)); intro g0 hge0 w1 BK1 hb1; have HKn := Aside0.mk (HK.out.below hb1); clear HK; have HK := HKn; clear HKn; have hci0 := blk_cell HK.out.img 0; have hci1 := blk_cell HK.out.img 1; have hci2 := blk_cell HK.out.img 2; have hx := HK.out.txt; obtain ⟨q0, q1, q2, q3, q4⟩ := cells5b BK1; clear BK1 hb1 hge0) | (go_at_call 127; refine (see.calls _ _ _ _ _ _ ?wf ?sz HK.out.map HK.out.seen).mono ?_; (case wf => first | (with_reducible exact HW1.out) | (with_reducible exact HW3.out) | (rw [hwr]; with_reducible exact HW3.out)); (case sz => have := HN.out; omega); rintro e w2 ⟨rfl, hs, hg⟩; (try rw [hwr] at hs); have HKn := Aside0.mk (HK.out.grow hg hs); clear HK hs hg; have HK := HKn; clear HKn; have hci0 := blk_cell HK.out.img 0; have hci1 := blk_cell HK.out.img 1; have hci2 := blk_cell HK.out.img 2; have hx := HK.out.txt))
    refine Go.Great.bodyPost_end0 rfl rfl ?_
    exact ⟨rfl, hmono HK.out (by omega)⟩
  rw [if_neg c]
  have cb : (i0 == 17) = false := by simp [c]
  clear c
  by_cases c : i0 = 18
  · rw [if_pos c]
    have cb2 : (i0 == 18) = true := by simp [c]
    clear c
    go_enter Try.func100, Try.ntmps100
    go_wp2_with (first | ((with_reducible refine gate_dst (N := 4) rfl ?_); refine box_event ?hg (N := 4) ?hd (cs := #[.int .i8 i0, .int .i8 i1, .int .i8 i2, .int .i8 i3, .int .i64 i4]) (t := 36) ?hr ?_; (case hd => rfl); (case hg => rfl); (case hr => first | (go_simp; done) | (go_simp; rfl)); intro g0 hge0 w1 BK1 hb1; have HKn := Aside0.mk (HK.out.below hb1); clear HK; have HK := HKn; clear HKn; have hci0 := blk_cell HK.out.img 0; have hci1 := blk_cell HK.out.img 1; have hci2 := blk_cell HK.out.img 2; have hx := HK.out.txt; obtain ⟨q0, q1, q2, q3, q4⟩ := cells5b BK1; clear BK1 hb1 hge0) | (go_at_call 127; refine (see.calls _ _ _ _ _ _ ?wf ?sz HK.out.map HK.out.seen).mono ?_; (case wf => first | (with_reducible exact HW1.out) | (with_reducible exact HW3.out) | (rw [hwr]; with_reducible exact HW3.out)); (case sz => have := HN.out; omega); rintro e w2 ⟨rfl, hs, hg⟩; (try rw [hwr] at hs); have HKn := Aside0.mk (HK.out.grow hg hs); clear HK hs hg; have HK := HKn; clear HKn; have hci0 := blk_cell HK.out.img 0; have hci1 := blk_cell HK.out.img 1; have hci2 := blk_cell HK.out.img 2; have hx := HK.out.txt))
    refine Go.Great.bodyPost_end0 rfl rfl ?_
    exact ⟨rfl, hmono HK.out (by omega)⟩
  · rw [if_neg c]
    have cb2 : (i0 == 18) = false := by simp [c]
    clear c
    go_enter Try.func100, Try.ntmps100
    go_wp2_with (first | ((with_reducible refine gate_dst (N := 4) rfl ?_); refine box_event ?hg (N := 4) ?hd (cs := #[.int .i8 i0, .int .i8 i1, .int .i8 i2, .int .i8 i3, .int .i64 i4]) (t := 36) ?hr ?_; (case hd => rfl); (case hg => rfl); (case hr => first | (go_simp; done) | (go_simp; rfl)); intro g0 hge0 w1 BK1 hb1; have HKn := Aside0.mk (HK.out.below hb1); clear HK; have HK := HKn; clear HKn; have hci0 := blk_cell HK.out.img 0; have hci1 := blk_cell HK.out.img 1; have hci2 := blk_cell HK.out.img 2; have hx := HK.out.txt; obtain ⟨q0, q1, q2, q3, q4⟩ := cells5b BK1; clear BK1 hb1 hge0) | (go_at_call 127; refine (see.calls _ _ _ _ _ _ ?wf ?sz HK.out.map HK.out.seen).mono ?_; (case wf => first | (with_reducible exact HW1.out) | (with_reducible exact HW3.out) | (rw [hwr]; with_reducible exact HW3.out)); (case sz => have := HN.out; omega); rintro e w2 ⟨rfl, hs, hg⟩; (try rw [hwr] at hs); have HKn := Aside0.mk (HK.out.grow hg hs); clear HK hs hg; have HK := HKn; clear HKn; have hci0 := blk_cell HK.out.img 0; have hci1 := blk_cell HK.out.img 1; have hci2 := blk_cell HK.out.img 2; have hx := HK.out.txt))
    refine Go.Great.bodyPost_end0 rfl rfl ?_
    exact ⟨rfl, hmono HK.out (by omega)⟩

set_option maxHeartbeats 4000000 in
set_option maxRecDepth 100000 in
theorem mark3.calls (i : Nat) (x i0 i1 i2 i3 i4 : Int) (W0 W : World) (gi : Nat) (ad : Addr) (l c : Nat) (en : Int) (A2 : Option Addr) (n2 c2 : Nat) (mc b n : Nat) (S : Lit → Bool) (x0 : 0 ≤ x) (x1 : x < 4294967296) (hd : decS x = (i0, i1, i2, i3, i4)) (hi : i < l) (hi2 : i < 1000000) (hen : (Lit.int .i64 en).wf = true) (hn : n + 8 < maxLen)
    (hk : Mk W0 W gi (imgCell (some ad) l c en A2 n2 c2) (ad.add i) (.int .u32 x) mc b n S) :
    Calls Try.prog 101 #[.int .i64 (i : Int), .agg #[.int .i8 i0, .int .i8 i1, .int .i8 i2, .int .i8 i3, .int .i64 i4], .func (.func 127) #[] #[.pointer (some ⟨mc, 0, none⟩)], .pointer (some ⟨gi, 0, none⟩)] W fun e w' => e = .returned (.tuple #[]) ∧ Mk W0 w' gi (imgCell (some ad) l c en A2 n2 c2) (ad.add i) (.int .u32 x) mc b (n + 4) (addL S (hit3 x en i)) := by
  have HN := Aside0.mk hn
  have HK := Aside0.mk hk
  clear hn hk
  have hu1 := Try.underlying69
  have hu2 := Try.underlying36
  have hmono : ∀ {w' : World} {m : Nat} {S' : Lit → Bool}, Mk W0 w' gi (imgCell (some ad) l c en A2 n2 c2) (ad.add i) (.int .u32 x) mc b m S' → m ≤ n + 4 → Mk W0 w' gi (imgCell (some ad) l c en A2 n2 c2) (ad.add i) (.int .u32 x) mc b (n + 4) S' := fun h hm => ⟨h.img, h.txt, h.map, h.seen.mono hm, h.grown, h.n1, h.n2, h.n3⟩
  obtain ⟨kT, HT0⟩ := Ev.rounds (tgt1 x0 x1)
  obtain ⟨kE, HE0⟩ := Ev.rounds (ends1 x0 x1)
  have HE := Aside0.mk HE0
  have HW1 := Aside0.mk (tgtS_wf x)
  have HW2 := Aside0.mk hen
  have HW3 := Aside0.mk (show (Lit.int .i64 ((i : Int) + 1)).wf = true from Go.WalkArith.wf_i64 (by omega))
  have HW4 := Aside0.mk (show (Lit.int .i64 0).wf = true by decide)
  have hwr : wrap64 ((i : Int) + 1) = (i : Int) + 1 := wrap64_id (by omega) (by omega)
  clear HE0 hen
  have HT := Aside0.mk HT0
  have ia : (0 : Int) ≤ (i : Int) := by omega
  have ib : (i : Int) < (l : Int) := by omega
  have ic : ((i : Int)).toNat = i := by omega
  replace ia := eq_true ia
  replace ib := eq_true ib
  clear HT0
  generalize ht : tgtS x = t at HT HW1
  obtain ⟨t1, t2⟩ := t
  generalize he : endsO (decS x).1 = eb at HE
  have hh : hit3 x en i = (if t2 = true then [t1] else []) ++ ((if eb = true then [(i : Int) + 1] else []) ++ [en, 0]) := by unfold hit3 tgtL; rw [ht, he]
  rw [hh]
  clear hh ht he hd x0 x1
  have hx := HK.out.txt
  cases t2 <;> cases eb
  all_goals
    go_enter Try.func101, Try.ntmps101
    go_wp2_with (first | ((with_reducible refine gate_dst (N := 5) rfl ?_); refine box_event ?hg (N := 5) ?hd (cs := #[.int .i8 i0, .int .i8 i1, .int .i8 i2, .int .i8 i3, .int .i64 i4]) (t := 36) ?hr ?_; (case hd => rfl); (case hg => rfl); (case hr => first | (go_simp; done) | (go_simp; rfl)); intro g0 hge0 w1 BK1 hb1; have HKn := Aside0.mk (HK.out.below hb1); clear HK; have HK := HKn; clear HKn; have hci0 := blk_cell HK.out.img 0; have hci1 := blk_cell HK.out.img 1; have hci2 := blk_cell HK.out.img 2; have hx := HK.out.txt; obtain ⟨q0, q1, q2, q3, q4⟩ := cells5b BK1; clear BK1 hb1 hge0) | (go_at_call 25; refine (isa_Target.calls kT x t1 _ _ HT.out).mono ?_; rintro e w2 ⟨rfl, hb⟩; have HKn := Aside0.mk (HK.out.below hb); clear HK hb; have HK := HKn; clear HKn; have hci0 := blk_cell HK.out.img 0; have hci1 := blk_cell HK.out.img 1; have hci2 := blk_cell HK.out.img 2; have hx := HK.out.txt) | (go_at_call 28; refine (isa_Ends.calls kE x _ _ HE.out).mono ?_; rintro e w2 ⟨rfl, hb⟩; have HKn := Aside0.mk (HK.out.below hb); clear HK hb; have HK := HKn; clear HKn; have hci0 := blk_cell HK.out.img 0; have hci1 := blk_cell HK.out.img 1; have hci2 := blk_cell HK.out.img 2; have hx := HK.out.txt) | (go_at_call 127; refine (see.calls _ _ _ _ _ _ ?wf ?sz HK.out.map HK.out.seen).mono ?_; (case wf => first | (with_reducible exact HW1.out) | (with_reducible exact HW2.out) | (with_reducible exact HW3.out) | (with_reducible exact HW4.out) | (rw [hwr]; with_reducible exact HW3.out)); (case sz => have := HN.out; omega); rintro e w2 ⟨rfl, hs, hg⟩; (try rw [hwr] at hs); have HKn := Aside0.mk (HK.out.grow hg hs); clear HK hs hg; have HK := HKn; clear HKn; have hci0 := blk_cell HK.out.img 0; have hci1 := blk_cell HK.out.img 1; have hci2 := blk_cell HK.out.img 2; have hx := HK.out.txt))
    refine Go.Great.bodyPost_end0 rfl rfl ?_
    exact ⟨rfl, hmono HK.out (by omega)⟩

end Go.Proofs.Ytiaohbbafaaibaa.P
