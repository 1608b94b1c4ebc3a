/- OWN TEXT: the instructions over plain numbers: what the program's and the reference's functions come to. -/
import Derived.Test.YtiaohbbafaaibaaP10
import Derived.Test.YtiaohbbafaaibaaP13
import Derived.Test.YtiaohbbafaaibaaHIsaE
import Derived.Test.YtiaohbbafaaibaaEv
set_option linter.unusedVariables false
set_option linter.unusedSimpArgs false
namespace Go.Proofs.Ytiaohbbafaaibaa.P
open Go.RowKit Go.Proofs.YtiaohbbafaaibaaW.PrintWords

def hasF (op : Int) : Int := if op < 0 then 0 else if op ≥ 22 then 0 else hasT op
theorem has1 (op : Int) : isa_has.f op = some (hasF op) := by
  unfold isa_has.f hasF
  repeat' split
  all_goals rfl
/-- Is a bit of a word of fields set? -/
def bitF (f m : Int) : Bool := Go.bits .and .i64 f m != 0
def tup (op : Int) : Bool × Bool × Bool × Bool × Bool := (bitF (hasF op) 1, bitF (hasF op) 2, bitF (hasF op) 4, bitF (hasF op) 8, bitF (hasF op) 16)
theorem ops22 {p : Int → Prop} (h : ∀ n : Fin 22, p (n.val : Int)) {op : Int} (h0 : 0 ≤ op) (h1 : op < 22) : p op := by
  have := h ⟨op.toNat, by omega⟩
  rwa [show ((⟨op.toNat, by omega⟩ : Fin 22).val : Int) = op from Int.toNat_of_nonneg h0] at this
theorem has2_in : ∀ n : Fin 22, pleatref02_Has.f 8 (n.val : Int) = some (tup (n.val : Int)) := by decide +kernel
theorem tup_out {op : Int} (h : op < 0 ∨ 22 ≤ op) : tup op = (false, false, false, false, false) := by
  have e : hasF op = 0 := by unfold hasF; repeat' split
                             all_goals first | rfl | omega
  unfold tup
  rw [e]
  decide +kernel
theorem has2 (op : Int) : Ev (fun k => pleatref02_Has.f k op) (tup op) := by
  by_cases h : 0 ≤ op ∧ op < 22
  · exact ops22 (p := fun op => Ev (fun k => pleatref02_Has.f k op) (tup op)) (fun n => Ev.of (pleatref02_Has.mono _) (has2_in n)) h.1 h.2
  · rw [tup_out (by omega)]
    refine Ev.of (k := 8) (pleatref02_Has.mono _) ?_
    simp only [pleatref02_Has.f, pleatref02_Has.j0, pleatref02_Has.j1, pleatref02_Has.j2]
    repeat (rw [if_neg (by first | omega | (simp; omega))])
theorem bit_place_in : ∀ n : Fin 22, bitF (hasF (n.val : Int)) 16 = true → bitF (hasF (n.val : Int)) 8 = true := by decide +kernel
theorem bit_place {op : Int} (h : bitF (hasF op) 16 = true) : bitF (hasF op) 8 = true := by
  by_cases hr : 0 ≤ op ∧ op < 22
  · exact ops22 (p := fun op => bitF (hasF op) 16 = true → bitF (hasF op) 8 = true) bit_place_in hr.1 hr.2 h
  · have e := tup_out (op := op) (by omega)
    have : bitF (hasF op) 16 = false := congrArg (fun t : Bool × Bool × Bool × Bool × Bool => t.2.2.2.2) e
    rw [this] at h
    cases h
theorem hasF_in {op : Int} (h0 : 0 ≤ op) (h1 : op < 22) : hasF op = hasT op := by unfold hasF; rw [if_neg (by omega), if_neg (by omega)]

theorem and_u32 (i : Nat) (hi : i ≤ 32) {x : Int} (h0 : 0 ≤ x) (h1 : x < 4294967296) : Go.bits .and .u32 x (2 ^ i - 1) = x % 2 ^ i :=
  Go.bits_mask .u32 32 (by decide) (fun n a b => by rw [IntKind.wrap_u32]; omega) i hi x h0 (by omega)
theorem and_15 {x : Int} (h0 : 0 ≤ x) (h1 : x < 4294967296) : Go.bits .and .u32 x 15 = x % 16 := and_u32 4 (by decide) h0 h1
theorem and_32767 {x : Int} (h0 : 0 ≤ x) (h1 : x < 4294967296) : Go.bits .and .u32 x 32767 = x % 32768 := and_u32 15 (by decide) h0 h1
theorem or_u32 (i : Nat) {x y : Int} (hx0 : 0 ≤ x) (hx : x % 2 ^ i = 0) (hx1 : x < 4294967296) (hy0 : 0 ≤ y) (hy : y < 2 ^ i) (hy1 : y < 4294967296) : Go.bits .or .u32 x y = x + y :=
  Go.bits_join .u32 32 (by decide) (fun n a b => by rw [IntKind.wrap_u32]; omega) i x y hx0 hx (by omega) hy0 hy (by omega)
def wordS (op d a b n : Int) : Int := op * 134217728 + d * 8388608 + a * 524288 + b * 32768 + n % 32768
theorem encW_eq {op d a b n : Int} (h0 : 0 ≤ op) (h1 : op < 22) (d0 : 0 ≤ d) (d1 : d < 16) (a0 : 0 ≤ a) (a1 : a < 16) (b0 : 0 ≤ b) (b1 : b < 16) : encW op d a b n = wordS op d a b n := by
  unfold encW wordS
  rw [and_32767 (by omega) (by omega), or_u32 27 (x := op * 134217728) (y := d * 8388608) (by omega) (by omega) (by omega) (by omega) (by omega) (by omega),
    or_u32 23 (x := op * 134217728 + d * 8388608) (y := a * 524288) (by omega) (by omega) (by omega) (by omega) (by omega) (by omega),
    or_u32 19 (x := op * 134217728 + d * 8388608 + a * 524288) (y := b * 32768) (by omega) (by omega) (by omega) (by omega) (by omega) (by omega),
    or_u32 15 (y := n % 4294967296 % 32768) (by omega) (by omega) (by omega) (by omega) (by omega) (by omega)]
  omega
def encS (op d a b n : Int) : Int × Int := if op < 0 then (0, 10) else if op ≥ 22 then (0, 10) else if BadIns (hasT op) d a b n then (0, 11) else (wordS op d a b n, 0)
theorem not_bad {f d a b n : Int} (h : ¬ BadIns f d a b n) : (0 ≤ d ∧ d < 16) ∧ (0 ≤ a ∧ a < 16) ∧ (0 ≤ b ∧ b < 16) ∧ lowT f ≤ n ∧ n ≤ highT f := by
  unfold BadIns badReg at h
  omega
theorem enc1 (op d a b n : Int) : isa_Encode.f op d a b n = some (encS op d a b n) := by
  unfold isa_Encode.f encS
  split
  · rfl
  · split
    · rfl
    · split
      · rfl
      · rename_i h1 h2 h3
        obtain ⟨⟨d0, d1⟩, ⟨a0, a1⟩, ⟨b0, b1⟩, _⟩ := not_bad h3
        rw [encW_eq (by omega) (by omega) d0 d1 a0 a1 b0 b1]
theorem low_range (f : Int) : -16384 ≤ lowT f ∧ highT f ≤ 16383 := by
  unfold lowT highT
  repeat' split
  all_goals omega

theorem reg2 (f m r : Int) : pleatref02_register.f (bitF f m) r = some (decide (¬ badReg f r m)) := by
  unfold pleatref02_register.f badReg bitF
  by_cases h : Go.bits .and .i64 f m = 0
  · have e : (Go.bits .and .i64 f m != 0) = false := by simp [h]
    rw [e, if_neg (by decide)]
    congr 1
    rw [Bool.eq_iff_iff]
    simp [h]
    omega
  · have e : (Go.bits .and .i64 f m != 0) = true := by simp [h]
    rw [e, if_pos rfl]
    by_cases h2 : r ≥ 0
    · rw [if_pos h2]
      congr 1
      rw [Bool.eq_iff_iff]
      simp [h]
      omega
    · rw [if_neg h2]
      congr 1
      rw [Bool.eq_iff_iff]
      simp [h]
      omega
theorem num2 (op n : Int) : pleatref02_number.f (bitF (hasF op) 1) (bitF (hasF op) 2) (bitF (hasF op) 4) (bitF (hasF op) 8) (bitF (hasF op) 16) n = some (decide (¬ (n < lowT (hasF op) ∨ n > highT (hasF op)))) := by
  have hp := bit_place (op := op)
  unfold pleatref02_number.f lowT highT
  unfold bitF at hp ⊢
  by_cases h8 : Go.bits .and .i64 (hasF op) 8 = 0
  · have h16 : Go.bits .and .i64 (hasF op) 16 = 0 := by
      rcases Decidable.em (Go.bits .and .i64 (hasF op) 16 = 0) with h | h
      · exact h
      · have := hp (by simp [h])
        simp [h8] at this
    have e : (Go.bits .and .i64 (hasF op) 8 != 0) = false := by simp [h8]
    rw [e, if_neg (by decide)]
    congr 1
    rw [Bool.eq_iff_iff]
    simp [h8, h16]
    omega
  · have e : (Go.bits .and .i64 (hasF op) 8 != 0) = true := by simp [h8]
    rw [e, if_pos rfl]
    by_cases h16 : Go.bits .and .i64 (hasF op) 16 = 0
    · have e : (Go.bits .and .i64 (hasF op) 16 != 0) = false := by simp [h16]
      rw [e, if_neg (by decide), if_pos h16, if_pos h16, if_neg h8, if_neg h8]
      by_cases h2 : n ≥ -16384
      · rw [if_pos h2]; congr 1; rw [Bool.eq_iff_iff]; simp; omega
      · rw [if_neg h2]; congr 1; rw [Bool.eq_iff_iff]; simp; omega
    · have e : (Go.bits .and .i64 (hasF op) 16 != 0) = true := by simp [h16]
      rw [e, if_pos rfl, if_neg h16, if_neg h16]
      by_cases h2 : n ≥ 0
      · rw [if_pos h2]; congr 1; rw [Bool.eq_iff_iff]; simp; omega
      · rw [if_neg h2]; congr 1; rw [Bool.eq_iff_iff]; simp; omega

theorem enc2 (op d a b n : Int) : Ev (fun k => pleatref02_Encode.f k op d a b n) (encS op d a b n) := by
  have j1f : (0 ≤ op ∧ op < 22) → ¬ BadIns (hasT op) d a b n → Ev (fun k => pleatref02_Encode.j1 k false op d a b n) (wordS op d a b n, 0) := fun ho hb => by
    obtain ⟨⟨d0, d1⟩, ⟨a0, a1⟩, ⟨b0, b1⟩, n0, n1⟩ := not_bad hb
    have hl := low_range (hasT op)
    refine Ev.succ ?_
    simp only [pleatref02_Encode.j1]
    refine Ev.iteF (by decide) (Ev.ite2 (fun hn => Ev.val ?_) (fun hn => Ev.val ?_))
    · rw [wrap64_id (x := n + 32768) (by omega) (by omega)]
      unfold wordS
      refine Prod.ext ?_ rfl
      show _ = _
      omega
    · unfold wordS
      refine Prod.ext ?_ rfl
      show _ = _
      omega
  have j1t : Ev (fun k => pleatref02_Encode.j1 k true op d a b n) (0, 11) := by
    refine Ev.succ ?_
    simp only [pleatref02_Encode.j1]
    exact Ev.iteT trivial (Ev.val rfl)
  have j0t : Ev (fun k => pleatref02_Encode.j0 k true op d a b n) (0, 10) := by
    refine Ev.succ ?_
    simp only [pleatref02_Encode.j0]
    exact Ev.iteT trivial (Ev.val rfl)
  have j0f : (0 ≤ op ∧ op < 22) → Ev (fun k => pleatref02_Encode.j0 k false op d a b n) (if BadIns (hasT op) d a b n then (0, 11) else (wordS op d a b n, 0)) := fun ho => by
    have hF := hasF_in ho.1 ho.2
    refine Ev.succ ?_
    simp only [pleatref02_Encode.j0]
    refine Ev.iteF (by decide) (Ev.bind (has2 op) ?_)
    simp only [tup]
    refine Ev.bind0 (reg2 _ _ _) (Ev.ite2 (fun h1 => ?_) (fun h1 => ?_))
    · refine Ev.bind0 (reg2 _ _ _) (Ev.ite2 (fun h2 => ?_) (fun h2 => ?_))
      · refine Ev.bind0 (reg2 _ _ _) (Ev.ite2 (fun h3 => ?_) (fun h3 => ?_))
        · refine Ev.bind0 (num2 op n) ?_
          have g1 := of_decide_eq_true h1
          have g2 := of_decide_eq_true h2
          have g3 := of_decide_eq_true h3
          by_cases h4 : n < lowT (hasF op) ∨ n > highT (hasF op)
          · rw [if_pos (by rw [hF] at h4; exact .inr (.inr (.inr h4)))]
            have e : (!decide (¬ (n < lowT (hasF op) ∨ n > highT (hasF op)))) = true := by simpa using h4
            rw [e]
            exact j1t
          · have hb : ¬ BadIns (hasT op) d a b n := fun h => by
              rw [hF] at g1 g2 g3 h4
              rcases h with h | h | h | h
              · exact g1 h
              · exact g2 h
              · exact g3 h
              · exact h4 h
            rw [if_neg hb]
            have e : (!decide (¬ (n < lowT (hasF op) ∨ n > highT (hasF op)))) = false := by simpa using h4
            rw [e]
            exact j1f ho hb
        · have g := fun h => h3 (decide_eq_true h)
          rw [if_pos (by rw [hF] at g; exact .inr (.inr (.inl (Decidable.of_not_not g))))]
          exact j1t
      · have g := fun h => h2 (decide_eq_true h)
        rw [if_pos (by rw [hF] at g; exact .inr (.inl (Decidable.of_not_not g)))]
        exact j1t
    · have g := fun h => h1 (decide_eq_true h)
      rw [if_pos (by rw [hF] at g; exact .inl (Decidable.of_not_not g))]
      exact j1t
  unfold pleatref02_Encode.f encS
  refine Ev.ite2 (fun h => ?_) (fun h => ?_)
  · rw [if_pos h]
    exact j0t
  · rw [if_neg h]
    by_cases h2 : op ≥ 22
    · rw [if_pos h2, show (decide (op > 21)) = true from decide_eq_true (by omega)]
      exact j0t
    · rw [if_neg h2, show (decide (op > 21)) = false from decide_eq_false (by omega)]
      exact j0f ⟨by omega, by omega⟩

theorem i8_id {x : Int} (h0 : -128 ≤ x) (h1 : x ≤ 127) : IntKind.i8.wrap x = x := by
  simp [IntKind.wrap, IntKind.bits, IntKind.signed]
  omega
/-- The number of a word, its sign as its op has it. -/
def nS (w : Int) : Int := if bitF (hasF (w / 134217728)) 8 = true ∧ bitF (hasF (w / 134217728)) 16 = false ∧ 16384 ≤ w % 32768 then w % 32768 - 32768 else w % 32768
def decS (w : Int) : Int × Int × Int × Int × Int :=
  if encS (w / 134217728) (w / 8388608 % 16) (w / 524288 % 16) (w / 32768 % 16) (nS w) = (w, 0) then (w / 134217728, w / 8388608 % 16, w / 524288 % 16, w / 32768 % 16, nS w) else (-1, 0, 0, 0, w)
def decJ (w : Int) (b : Bool) (op d a c m : Int) : Int × Int × Int × Int × Int := if encS op d a c (if b = true then m - 32768 else m) = (w, 0) then (op, d, a, c, if b = true then m - 32768 else m) else (-1, 0, 0, 0, w)
theorem decJ1 {w : Int} (w0 : 0 ≤ w) (w1 : w < 4294967296) (b : Bool) (op d a c m : Int) (m0 : 0 ≤ m) (m1 : m < 32768) : Ev (fun k => isa_Decode.j0 k w b op d a c m) (decJ w b op d a c m) := by
  have hw : wrap64 w = w := wrap64_id (by omega) (by omega)
  have hm : wrap64 (m - 32768) = m - 32768 := wrap64_id (by omega) (by omega)
  refine Ev.succ ?_
  simp only [isa_Decode.j0, hw, hm]
  cases b with
  | true =>
    refine Ev.iteT rfl (Ev.bind0 (enc1 _ _ _ _ _) ?_)
    unfold decJ
    simp only [if_true]
    refine Ev.ite2 (fun h2 => Ev.ite2 (fun h1 => Ev.val ?_) (fun h1 => Ev.val ?_)) (fun h2 => Ev.val ?_)
    · rw [if_pos (Prod.ext h1 h2)]
    · rw [if_neg (fun h => h1 (by rw [h]))]
    · rw [if_neg (fun h => h2 (by rw [h]))]
  | false =>
    refine Ev.iteF (by decide) (Ev.bind0 (enc1 _ _ _ _ _) ?_)
    unfold decJ
    simp only [Bool.false_eq_true, if_false]
    refine Ev.ite2 (fun h2 => Ev.ite2 (fun h1 => Ev.val ?_) (fun h1 => Ev.val ?_)) (fun h2 => Ev.val ?_)
    · rw [if_pos (Prod.ext h1 h2)]
    · rw [if_neg (fun h => h1 (by rw [h]))]
    · rw [if_neg (fun h => h2 (by rw [h]))]
theorem decJ2 {w : Int} (w0 : 0 ≤ w) (w1 : w < 4294967296) (b : Bool) (op d a c m : Int) (m0 : 0 ≤ m) (m1 : m < 32768) : Ev (fun k => pleatref02_Decode.j0 k w b op d a c m) (decJ w b op d a c m) := by
  have hw : wrap64 w = w := wrap64_id (by omega) (by omega)
  have hm : wrap64 (m - 32768) = m - 32768 := wrap64_id (by omega) (by omega)
  refine Ev.succ ?_
  simp only [pleatref02_Decode.j0, hw, hm]
  cases b with
  | true =>
    refine Ev.iteT rfl (Ev.bind (enc2 _ _ _ _ _) ?_)
    unfold decJ
    simp only [if_true]
    refine Ev.ite2 (fun h2 => Ev.ite2 (fun h1 => Ev.val ?_) (fun h1 => Ev.val ?_)) (fun h2 => Ev.val ?_)
    · rw [if_pos (Prod.ext h1 h2)]
    · rw [if_neg (fun h => h1 (by rw [h]))]
    · rw [if_neg (fun h => h2 (by rw [h]))]
  | false =>
    refine Ev.iteF (by decide) (Ev.bind (enc2 _ _ _ _ _) ?_)
    unfold decJ
    simp only [Bool.false_eq_true, if_false]
    refine Ev.ite2 (fun h2 => Ev.ite2 (fun h1 => Ev.val ?_) (fun h1 => Ev.val ?_)) (fun h2 => Ev.val ?_)
    · rw [if_pos (Prod.ext h1 h2)]
    · rw [if_neg (fun h => h1 (by rw [h]))]
    · rw [if_neg (fun h => h2 (by rw [h]))]
theorem parts {w : Int} (w0 : 0 ≤ w) (w1 : w < 4294967296) : IntKind.i8.wrap (w / 134217728) = w / 134217728 ∧ IntKind.i8.wrap (Go.bits .and .u32 (w / 8388608) 15) = w / 8388608 % 16 ∧ IntKind.i8.wrap (Go.bits .and .u32 (w / 524288) 15) = w / 524288 % 16 ∧
    IntKind.i8.wrap (Go.bits .and .u32 (w / 32768) 15) = w / 32768 % 16 ∧ wrap64 (Go.bits .and .u32 w 32767) = w % 32768 := by
  rw [and_15 (by omega) (by omega), and_15 (by omega) (by omega), and_15 (by omega) (by omega), and_32767 w0 w1]
  exact ⟨i8_id (by omega) (by omega), i8_id (by omega) (by omega), i8_id (by omega) (by omega), i8_id (by omega) (by omega), wrap64_id (by omega) (by omega)⟩
theorem dec1 {w : Int} (w0 : 0 ≤ w) (w1 : w < 4294967296) : Ev (fun k => isa_Decode.f k w) (decS w) := by
  have m0 : 0 ≤ w % 32768 := by omega
  have m1 : w % 32768 < 32768 := by omega
  obtain ⟨p1, p2, p3, p4, p5⟩ := parts w0 w1
  have J := fun b => decJ1 w0 w1 b (w / 134217728) (w / 8388608 % 16) (w / 524288 % 16) (w / 32768 % 16) (w % 32768) m0 m1
  have E0 : (bitF (hasF (w / 134217728)) 8 = true ∧ bitF (hasF (w / 134217728)) 16 = false ∧ 16384 ≤ w % 32768) → decJ w true (w / 134217728) (w / 8388608 % 16) (w / 524288 % 16) (w / 32768 % 16) (w % 32768) = decS w := fun h => by
    unfold decJ decS nS
    simp only [if_pos h, if_true]
  have E1 : ¬ (bitF (hasF (w / 134217728)) 8 = true ∧ bitF (hasF (w / 134217728)) 16 = false ∧ 16384 ≤ w % 32768) → decJ w false (w / 134217728) (w / 8388608 % 16) (w / 524288 % 16) (w / 32768 % 16) (w % 32768) = decS w := fun h => by
    unfold decJ decS nS
    simp only [if_neg h, Bool.false_eq_true, if_false]
  unfold isa_Decode.f
  rw [p1, p2, p3, p4, p5]
  refine Ev.bind0 (has1 _) (Ev.ite2 (fun h8 => ?_) (fun h8 => Ev.ite2 (fun h16 => ?_) (fun h16 => ?_)))
  · exact Ev.to (J false) (E1 (fun h => by simp [bitF, h8] at h))
  · by_cases hm : w % 32768 ≥ 16384
    · rw [show decide (w % 32768 ≥ 16384) = true from decide_eq_true hm]
      exact Ev.to (J true) (E0 ⟨by simp [bitF, h8], by simp [bitF, h16], hm⟩)
    · rw [show decide (w % 32768 ≥ 16384) = false from decide_eq_false hm]
      exact Ev.to (J false) (E1 (fun h => hm h.2.2))
  · exact Ev.to (J false) (E1 (fun h => by simp [bitF, h16] at h))
theorem dec2 {w : Int} (w0 : 0 ≤ w) (w1 : w < 4294967296) : Ev (fun k => pleatref02_Decode.f k w) (decS w) := by
  have m0 : 0 ≤ w % 32768 := by omega
  have m1 : w % 32768 < 32768 := by omega
  obtain ⟨p1, p2, p3, p4, p5⟩ := parts w0 w1
  have J := fun b => decJ2 w0 w1 b (w / 134217728) (w / 8388608 % 16) (w / 524288 % 16) (w / 32768 % 16) (w % 32768) m0 m1
  have E0 : (bitF (hasF (w / 134217728)) 8 = true ∧ bitF (hasF (w / 134217728)) 16 = false ∧ 16384 ≤ w % 32768) → decJ w true (w / 134217728) (w / 8388608 % 16) (w / 524288 % 16) (w / 32768 % 16) (w % 32768) = decS w := fun h => by
    unfold decJ decS nS
    simp only [if_pos h, if_true]
  have E1 : ¬ (bitF (hasF (w / 134217728)) 8 = true ∧ bitF (hasF (w / 134217728)) 16 = false ∧ 16384 ≤ w % 32768) → decJ w false (w / 134217728) (w / 8388608 % 16) (w / 524288 % 16) (w / 32768 % 16) (w % 32768) = decS w := fun h => by
    unfold decJ decS nS
    simp only [if_neg h, Bool.false_eq_true, if_false]
  unfold pleatref02_Decode.f
  rw [p1, p2, p3, p4, p5]
  refine Ev.bind (has2 _) ?_
  simp only [tup]
  refine Ev.ite2 (fun h8 => Ev.ite2 (fun h16 => ?_) (fun h16 => ?_)) (fun h8 => ?_)
  · exact Ev.to (J false) (E1 (fun h => by rw [h16] at h; cases h.2.1))
  · by_cases hm : w % 32768 ≥ 16384
    · rw [show decide (w % 32768 ≥ 16384) = true from decide_eq_true hm]
      exact Ev.to (J true) (E0 ⟨h8, by simpa using h16, hm⟩)
    · rw [show decide (w % 32768 ≥ 16384) = false from decide_eq_false hm]
      exact Ev.to (J false) (E1 (fun h => hm h.2.2))
  · exact Ev.to (J false) (E1 (fun h => h8 h.1))
theorem encS_ok {op d a b n w : Int} (h : encS op d a b n = (w, 0)) : (0 ≤ op ∧ op < 22) ∧ ¬ BadIns (hasT op) d a b n ∧ w = wordS op d a b n := by
  unfold encS at h
  split at h
  · injection h with h1 h2; cases h2
  · split at h
    · injection h with h1 h2; cases h2
    · split at h
      · injection h with h1 h2; cases h2
      · injection h with h1 h2
        exact ⟨⟨by omega, by omega⟩, by assumption, h1.symm⟩
theorem encS_snd (op d a b n : Int) : (encS op d a b n).2 = 0 ∨ ((encS op d a b n).1 = 0 ∧ ((encS op d a b n).2 = 10 ∨ (encS op d a b n).2 = 11)) := by
  unfold encS
  repeat' split
  all_goals simp
theorem encS_fst (op d a b n : Int) : 0 ≤ (encS op d a b n).1 ∧ (encS op d a b n).1 < 4294967296 := by
  by_cases h : (encS op d a b n).2 = 0
  · obtain ⟨⟨h0, h1⟩, hb, hw⟩ := encS_ok (w := (encS op d a b n).1) (Prod.ext rfl h)
    obtain ⟨⟨d0, d1⟩, ⟨a0, a1⟩, ⟨b0, b1⟩, _⟩ := not_bad hb
    unfold wordS at hw
    omega
  · have := encS_snd op d a b n
    omega
theorem round_trip {op d a b n w : Int} (h : encS op d a b n = (w, 0)) : decS w = (op, d, a, b, n) := by
  obtain ⟨⟨h0, h1⟩, hb, hw⟩ := encS_ok h
  obtain ⟨⟨d0, d1⟩, ⟨a0, a1⟩, ⟨b0, b1⟩, n0, n1⟩ := not_bad hb
  have hl := low_range (hasT op)
  have q : 0 ≤ n % 32768 ∧ n % 32768 < 32768 := by omega
  unfold wordS at hw
  generalize hm : n % 32768 = m at hw q
  have e1 : w / 134217728 = op := by omega
  have e2 : w / 8388608 % 16 = d := by omega
  have e3 : w / 524288 % 16 = a := by omega
  have e4 : w / 32768 % 16 = b := by omega
  have e5 : w % 32768 = m := by omega
  have e6 : nS w = n := by
    unfold nS bitF
    rw [e1, e5, hasF_in h0 h1]
    unfold lowT at n0
    unfold highT at n1
    by_cases h16 : Go.bits .and .i64 (hasT op) 16 = 0
    · rw [if_pos h16] at n0 n1
      by_cases h8 : Go.bits .and .i64 (hasT op) 8 = 0
      · rw [if_pos h8] at n0 n1
        rw [if_neg (by simp [h8])]
        omega
      · rw [if_neg h8] at n0 n1
        by_cases hmm : 16384 ≤ m
        · rw [if_pos (by simp [h8, h16, hmm])]; omega
        · rw [if_neg (by simp [hmm])]; omega
    · rw [if_neg h16] at n0 n1
      rw [if_neg (by simp [h16])]
      omega
  unfold decS
  rw [e1, e2, e3, e4, e6, if_pos h]
/-- What a word decodes to is the instruction that has it, or none. -/
theorem decS_cases (w : Int) : (decS w).1 = -1 ∧ decS w = (-1, 0, 0, 0, w) ∨ 0 ≤ (decS w).1 ∧ encS (decS w).1 (decS w).2.1 (decS w).2.2.1 (decS w).2.2.2.1 (decS w).2.2.2.2 = (w, 0) := by
  unfold decS
  split
  · rename_i h
    exact .inr ⟨(encS_ok h).1.1, h⟩
  · exact .inl ⟨rfl, rfl⟩

def tgtS (w : Int) : Int × Bool := if bitF (hasF (decS w).1) 16 = true then ((decS w).2.2.2.2, true) else (0, false)
theorem tgt1 {w : Int} (w0 : 0 ≤ w) (w1 : w < 4294967296) : Ev (fun k => isa_Target.f k w) (tgtS w) := by
  unfold isa_Target.f tgtS
  refine Ev.bind (dec1 w0 w1) (Ev.bind0 (has1 _) (Ev.ite2 (fun h => Ev.val ?_) (fun h => Ev.val ?_)))
  · rw [if_neg (by simp [bitF, h])]
  · rw [if_pos (by simp [bitF, h])]
theorem tgt2 {w : Int} (w0 : 0 ≤ w) (w1 : w < 4294967296) : Ev (fun k => pleatref02_Target.f k w) (tgtS w) := by
  unfold pleatref02_Target.f tgtS
  refine Ev.bind (dec2 w0 w1) (Ev.ite2 (fun h => Ev.val ?_) (fun h => Ev.bind (has2 _) ?_))
  · have e := tup_out (op := (decS w).1) (.inl h)
    have : bitF (hasF (decS w).1) 16 = false := congrArg (fun t : Bool × Bool × Bool × Bool × Bool => t.2.2.2.2) e
    rw [this]
    rfl
  · simp only [tup]
    exact Ev.ite2 (fun h => Ev.val (by rw [if_pos h])) (fun h => Ev.val (by rw [if_neg h]))
/-- A target is a place. -/
theorem tgtS_range {w : Int} (h : (tgtS w).2 = true) : 0 ≤ (tgtS w).1 ∧ (tgtS w).1 < 16384 := by
  unfold tgtS at h ⊢
  split at h
  · rename_i hb
    rw [if_pos hb]
    rcases decS_cases w with ⟨h1, _⟩ | ⟨h1, h2⟩
    · have e := tup_out (op := (decS w).1) (.inl (by omega))
      have : bitF (hasF (decS w).1) 16 = false := congrArg (fun t : Bool × Bool × Bool × Bool × Bool => t.2.2.2.2) e
      rw [this] at hb
      cases hb
    · obtain ⟨⟨g0, g1⟩, hbad, _⟩ := encS_ok h2
      obtain ⟨_, _, _, n0, n1⟩ := not_bad hbad
      rw [hasF_in g0 g1] at hb
      have h16 : ¬ Go.bits .and .i64 (hasT (decS w).1) 16 = 0 := by simpa [bitF] using hb
      unfold lowT at n0
      unfold highT at n1
      rw [if_neg h16] at n0 n1
      exact ⟨n0, by show (decS w).2.2.2.2 < 16384; omega⟩
  · cases h
theorem tgtS_false {w : Int} (h : (tgtS w).2 = false) : (tgtS w).1 = 0 := by
  unfold tgtS at h ⊢
  split at h
  · cases h
  · rename_i hb
    rw [if_neg hb]

def endsO (op : Int) : Bool := if op = -1 then true else if op = 0 then true else if op = 15 then true else if op = 16 then true else if op = 17 then true else if op = 18 then true else if op = 19 then true else if op = 21 then true else false
theorem ends1 {w : Int} (w0 : 0 ≤ w) (w1 : w < 4294967296) : Ev (fun k => isa_Ends.f k w) (endsO (decS w).1) := by
  unfold isa_Ends.f endsO
  refine Ev.bind (dec1 w0 w1) ?_
  iterate 8 (refine Ev.ite2 (fun h => Ev.val (by rw [if_pos h])) (fun h => ?_); rw [if_neg h])
  exact Ev.val rfl
theorem ends2 {w : Int} (w0 : 0 ≤ w) (w1 : w < 4294967296) : Ev (fun k => pleatref02_Ends.f k w) (endsO (decS w).1) := by
  unfold pleatref02_Ends.f endsO
  refine Ev.bind (dec2 w0 w1) ?_
  iterate 8 (refine Ev.ite2 (fun h => Ev.val (by rw [if_pos h])) (fun h => ?_); rw [if_neg h])
  exact Ev.val rfl
def fallsO (op : Int) : Bool := if endsO op = true then op == 16 else true
theorem falls1 {w : Int} (w0 : 0 ≤ w) (w1 : w < 4294967296) : Ev (fun k => isa_Falls.f k w) (fallsO (decS w).1) := by
  unfold isa_Falls.f fallsO
  refine Ev.bind (ends1 w0 w1) (Ev.ite2 (fun h => Ev.bind (dec1 w0 w1) (Ev.val (by rw [if_pos h]))) (fun h => Ev.val (by rw [if_neg h])))
theorem falls2 {w : Int} (w0 : 0 ≤ w) (w1 : w < 4294967296) : Ev (fun k => pleatref02_Falls.f k w) (fallsO (decS w).1) := by
  unfold pleatref02_Falls.f fallsO
  refine Ev.bind (ends2 w0 w1) (Ev.ite2 (fun h => Ev.bind (dec2 w0 w1) (Ev.val (by rw [if_pos h]))) (fun h => Ev.val (by rw [if_neg h])))

end Go.Proofs.Ytiaohbbafaaibaa.P
