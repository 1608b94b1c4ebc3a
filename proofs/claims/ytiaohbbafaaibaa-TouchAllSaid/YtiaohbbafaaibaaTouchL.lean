/- OWN TEXT: reading and writing words, over plain numbers: what the program's and the reference's functions come to. -/
import Derived.Test.YtiaohbbafaaibaaP20
import Derived.Test.YtiaohbbafaaibaaHTouch
import Derived.Laws.BitsAllLaws
set_option linter.unusedVariables false
set_option linter.unusedSimpArgs false
namespace Go.Proofs.Ytiaohbbafaaibaa.P
open Go.RowKit Go.Proofs.YtiaohbbafaaibaaW.PrintWords Go.Proofs.YtiaohbbafaaibaaW.PrintLast Go.Proofs.YtiaohbbafaaibaaW.PrintMore

theorem bitW_in : ∀ n : Fin 16, bitW (n.val : Int) = ((2 ^ n.val : Nat) : Int) ∧ shl .u16 1 (n.val : Int) = bitW (n.val : Int) := by decide +kernel
theorem regs16 {p : Int → Prop} (h : ∀ n : Fin 16, p (n.val : Int)) {r : Int} (h0 : 0 ≤ r) (h1 : r < 16) : p r := by
  have := h ⟨r.toNat, by omega⟩
  rwa [show ((⟨r.toNat, by omega⟩ : Fin 16).val : Int) = r from Int.toNat_of_nonneg h0] at this
theorem bitW_range {r : Int} (h0 : 0 ≤ r) (h1 : r < 16) : 0 ≤ bitW r ∧ bitW r < 65536 :=
  regs16 (p := fun r => 0 ≤ bitW r ∧ bitW r < 65536) (by decide +kernel) h0 h1
theorem shl_bitW {r : Int} (h0 : 0 ≤ r) (h1 : r < 16) : shl .u16 1 r = bitW r :=
  regs16 (p := fun r => shl .u16 1 r = bitW r) (fun n => (bitW_in n).2) h0 h1
theorem or_zero {x : Int} (h0 : 0 ≤ x) (h1 : x < 65536) : Go.bits .or .u16 0 x = x := by
  rw [Go.u16_or 0 x (by omega) (by omega) h0 h1]
  simp
  omega
theorem or_zero' {x : Int} (h0 : 0 ≤ x) (h1 : x < 65536) : Go.bits .or .u16 x 0 = x := by
  rw [Go.u16_or x 0 h0 h1 (by omega) (by omega)]
  simp
  omega
theorem or_range {x y : Int} (h0 : 0 ≤ x) (h1 : x < 65536) (h2 : 0 ≤ y) (h3 : y < 65536) : 0 ≤ Go.bits .or .u16 x y ∧ Go.bits .or .u16 x y < 65536 := by
  rw [Go.u16_or x y h0 h1 h2 h3]
  have : x.toNat ||| y.toNat < 2 ^ 16 := Nat.or_lt_two_pow (by omega) (by omega)
  omega
/-- What the reference's two bits come to. -/
def readsR (b2 b3 : Bool) (i2 i3 : Int) : Int := Go.bits .or .u16 (if b2 = true then bitW i2 else 0) (if b3 = true then bitW i3 else 0)
theorem readsI_eq (b2 b3 : Bool) {i2 i3 : Int} (h2 : 0 ≤ i2) (h3 : i2 < 16) (h4 : 0 ≤ i3) (h5 : i3 < 16) : readsI b2 b3 i2 i3 = readsR b2 b3 i2 i3 := by
  have r2 := bitW_range h2 h3
  have r3 := bitW_range h4 h5
  unfold readsI readsR
  cases b2 <;> cases b3 <;> simp only [Bool.false_eq_true, if_true, if_false]
  · exact (or_zero (by omega) (by omega)).symm
  · rw [or_zero r2.1 r2.2, or_zero' r2.1 r2.2]
  · rw [or_zero r2.1 r2.2]
theorem readsR_range (b2 b3 : Bool) {i2 i3 : Int} (h2 : 0 ≤ i2) (h3 : i2 < 16) (h4 : 0 ≤ i3) (h5 : i3 < 16) : 0 ≤ readsR b2 b3 i2 i3 ∧ readsR b2 b3 i2 i3 < 65536 := by
  have r2 := bitW_range h2 h3
  have r3 := bitW_range h4 h5
  unfold readsR
  exact or_range (by split <;> omega) (by split <;> omega) (by split <;> omega) (by split <;> omega)
theorem readsS_range (w : Int) : 0 ≤ readsS w ∧ readsS w < 65536 := by
  obtain ⟨_, ⟨h2, h3⟩, ⟨h4, h5⟩⟩ := decS_range w
  unfold readsS
  rw [readsI_eq _ _ h2 h3 h4 h5]
  exact readsR_range _ _ h2 h3 h4 h5
theorem writesS_range (w : Int) : 0 ≤ writesS w ∧ writesS w < 65536 := by
  obtain ⟨⟨h0, h1⟩, _⟩ := decS_range w
  have r := bitW_range h0 h1
  unfold writesS writesI
  repeat' split
  all_goals omega
theorem reads1 {w : Int} (w0 : 0 ≤ w) (w1 : w < 4294967296) : touch_Reads.f w = some (readsS w) := by
  unfold touch_Reads.f
  rw [if_pos w0, if_pos w1, or_zero (readsS_range w).1 (readsS_range w).2]
theorem writes1 {w : Int} (w0 : 0 ≤ w) (w1 : w < 4294967296) : touch_Writes.f w = some (writesS w) := by
  unfold touch_Writes.f
  rw [if_pos w0, if_pos w1, or_zero (writesS_range w).1 (writesS_range w).2]
def linksS (w : Int) : Bool := Go.bits .or .u16 (readsS w) (writesS w) / 32768 == 1
theorem and_top {x : Int} (h0 : 0 ≤ x) (h1 : x < 65536) : (Go.bits .and .u16 x 32768 != 0) = (x / 32768 == 1) := by
  rw [Go.u16_and x 32768 h0 h1 (by omega) (by omega)]
  obtain ⟨n, rfl⟩ := Int.eq_ofNat_of_zero_le h0
  have key : (n &&& 2 ^ 15) = if n.testBit 15 = true then 2 ^ 15 else 0 := by
    apply Nat.eq_of_testBit_eq
    intro i
    rw [Nat.testBit_and, Nat.testBit_two_pow]
    by_cases hn15 : n.testBit 15 = true
    · rw [if_pos hn15, Nat.testBit_two_pow]
      by_cases hi : 15 = i
      · subst hi
        rw [hn15]
        rfl
      · rw [decide_eq_false hi, Bool.and_false]
    · rw [if_neg hn15, Nat.zero_testBit]
      by_cases hi : 15 = i
      · subst hi
        rw [Bool.eq_false_iff.mpr hn15]
        rfl
      · rw [decide_eq_false hi, Bool.and_false]
  rw [Int.toNat_natCast, show (32768 : Int).toNat = 2 ^ 15 from rfl, key]
  have hn : n < 65536 := by omega
  by_cases h : n.testBit 15 = true
  · have h2 : n / 32768 % 2 = 1 := by
      have := h
      rw [Nat.testBit_eq_decide_div_mod_eq] at this
      simpa using this
    have h3 : (n : Int) / 32768 = 1 := by omega
    rw [if_pos h, h3]
    decide
  · have h2 : ¬ n / 32768 % 2 = 1 := by
      intro e
      apply h
      rw [Nat.testBit_eq_decide_div_mod_eq]
      simpa using e
    have h3 : (n : Int) / 32768 = 0 := by omega
    rw [if_neg h, h3]
    decide
theorem links1 {w : Int} (w0 : 0 ≤ w) (w1 : w < 4294967296) : touch_Links.f w = some (linksS w) := by
  have r := readsS_range w
  have s := writesS_range w
  unfold touch_Links.f linksS
  rw [if_pos w0, if_pos w1, or_zero r.1 r.2, and_top (or_range r.1 r.2 s.1 s.2).1 (or_range r.1 r.2 s.1 s.2).2]
theorem bit2 {b : Bool} {r : Int} (h0 : 0 ≤ r) (h1 : r < 16) : pleatref13_bit.f b r = some (if b = true then bitW r else 0) := by
  unfold pleatref13_bit.f
  cases b with
  | false => rfl
  | true => simp only [if_true, if_pos h0, shl_bitW h0 h1]
theorem reads2 {w : Int} (w0 : 0 ≤ w) (w1 : w < 4294967296) : Ev (fun k => pleatref13_Reads.f k w) (readsS w) := by
  obtain ⟨_, ⟨h2, h3⟩, ⟨h4, h5⟩⟩ := decS_range w
  unfold pleatref13_Reads.f
  refine Ev.bind (dec2 w0 w1) (Ev.bind (has2 _) (Ev.bind0 (bit2 h2 h3) (Ev.bind0 (bit2 h4 h5) (Ev.val ?_))))
  unfold readsS
  rw [readsI_eq _ _ h2 h3 h4 h5]
  rfl
theorem writes2 {w : Int} (w0 : 0 ≤ w) (w1 : w < 4294967296) : Ev (fun k => pleatref13_Writes.f k w) (writesS w) := by
  obtain ⟨⟨h0, h1⟩, _⟩ := decS_range w
  have j : ∀ b : Bool, Ev (fun k => pleatref13_Writes.j0 k b (decS w).1 (decS w).2.1 (decS w).2.2.1 (decS w).2.2.2.1 (decS w).2.2.2.2) (if b = true then 32768 else if (tup (decS w).1).1 = true then bitW (decS w).2.1 else 0) := fun b => by
    refine Ev.succ ?_
    simp only [pleatref13_Writes.j0]
    refine Ev.ite2 (fun h => Ev.val (by rw [if_pos h])) (fun h => ?_)
    rw [if_neg h]
    exact Ev.bind (has2 _) (Ev.bind0 (bit2 h0 h1) (Ev.val rfl))
  have hd17 : (tup 17).1 = false := by decide +kernel
  have hd18 : (tup 18).1 = false := by decide +kernel
  unfold pleatref13_Writes.f
  refine Ev.bind (dec2 w0 w1) (Ev.ite2 (fun h => Ev.to (j true) ?_) (fun h => Ev.to (j _) ?_))
  · unfold writesS writesI
    rw [h, hd17]
    rfl
  · unfold writesS writesI
    by_cases h18 : (decS w).1 = 18
    · rw [h18, hd18]
      rfl
    · rw [if_neg (by simpa using h18), if_neg h, if_neg h18]
theorem links2 {w : Int} (w0 : 0 ≤ w) (w1 : w < 4294967296) : Ev (fun k => pleatref13_Links.f k w) (linksS w) := by
  unfold pleatref13_Links.f
  exact Ev.bind (reads2 w0 w1) (Ev.bind (writes2 w0 w1) (Ev.val rfl))
/-- May a word not stand with others? -/
def aloneS (w : Int) : Bool := if (decS w).1 = -1 ∨ (decS w).1 = 16 then true else if (decS w).1 = 19 ∨ (decS w).1 = 17 then false else if (decS w).1 = 18 then (decS w).2.2.1 == 15 else linksS w
theorem alone1 {w : Int} (w0 : 0 ≤ w) (w1 : w < 4294967296) : Ev (fun k => touch_Alone.f k w) (aloneS w) := by
  have j1 : ∀ b : Bool, Ev (fun k => touch_Alone.j1 k w (decS w).1 b (decS w).1 (decS w).2.1 (decS w).2.2.1 (decS w).2.2.2.1 (decS w).2.2.2.2) (if b = true then false else if (decS w).1 = 18 then (decS w).2.2.1 == 15 else linksS w) := fun b => by
    refine Ev.succ ?_
    simp only [touch_Alone.j1]
    refine Ev.ite2 (fun h => Ev.val (by rw [if_pos h])) (fun h => ?_)
    rw [if_neg h]
    exact Ev.ite2 (fun h => Ev.val (by rw [if_pos h])) (fun h => Ev.bind0 (links1 w0 w1) (Ev.val (by rw [if_neg h])))
  have j0 : ∀ b : Bool, Ev (fun k => touch_Alone.j0 k w (decS w).1 b (decS w).1 (decS w).2.1 (decS w).2.2.1 (decS w).2.2.2.1 (decS w).2.2.2.2) (if b = true then true else if (decS w).1 = 19 ∨ (decS w).1 = 17 then false else if (decS w).1 = 18 then (decS w).2.2.1 == 15 else linksS w) := fun b => by
    refine Ev.succ ?_
    simp only [touch_Alone.j0]
    refine Ev.ite2 (fun h => Ev.val (by rw [if_pos h])) (fun h => ?_)
    rw [if_neg h]
    refine Ev.ite2 (fun h => Ev.to (j1 _) ?_) (fun h => Ev.to (j1 _) ?_)
    · rw [if_pos (show ((decS w).1 == 19) = true by simpa using h), if_pos (show (decS w).1 = 19 ∨ (decS w).1 = 17 from .inl h)]
    · by_cases h17 : (decS w).1 = 17
      · rw [if_pos (show ((decS w).1 == 17) = true by simpa using h17), if_pos (show (decS w).1 = 19 ∨ (decS w).1 = 17 from .inr h17)]
      · rw [if_neg (show ¬ ((decS w).1 == 17) = true by simpa using h17), if_neg (show ¬ ((decS w).1 = 19 ∨ (decS w).1 = 17) by omega)]
  unfold touch_Alone.f aloneS
  refine Ev.bind (dec1 w0 w1) (Ev.ite2 (fun h => Ev.to (j0 _) ?_) (fun h => Ev.to (j0 _) ?_))
  · rw [if_pos (show ((decS w).1 == -1) = true by simpa using h), if_pos (show (decS w).1 = -1 ∨ (decS w).1 = 16 from .inl h)]
  · by_cases h16 : (decS w).1 = 16
    · rw [if_pos (show ((decS w).1 == 16) = true by simpa using h16), if_pos (show (decS w).1 = -1 ∨ (decS w).1 = 16 from .inr h16)]
    · rw [if_neg (show ¬ ((decS w).1 == 16) = true by simpa using h16), if_neg (show ¬ ((decS w).1 = -1 ∨ (decS w).1 = 16) by omega)]
theorem alone2 {w : Int} (w0 : 0 ≤ w) (w1 : w < 4294967296) : Ev (fun k => pleatref13_Alone.f k w) (aloneS w) := by
  have j1 : ∀ b : Bool, Ev (fun k => pleatref13_Alone.j1 k w (decS w).1 b (decS w).1 (decS w).2.1 (decS w).2.2.1 (decS w).2.2.2.1 (decS w).2.2.2.2) (if b = true then false else if (decS w).1 = 18 then (decS w).2.2.1 == 15 else linksS w) := fun b => by
    refine Ev.succ ?_
    simp only [pleatref13_Alone.j1]
    refine Ev.ite2 (fun h => Ev.val (by rw [if_pos h])) (fun h => ?_)
    rw [if_neg h]
    exact Ev.ite2 (fun h => Ev.val (by rw [if_pos h])) (fun h => Ev.bind (links2 w0 w1) (Ev.val (by rw [if_neg h])))
  have j0 : ∀ b : Bool, Ev (fun k => pleatref13_Alone.j0 k w (decS w).1 b (decS w).1 (decS w).2.1 (decS w).2.2.1 (decS w).2.2.2.1 (decS w).2.2.2.2) (if b = true then true else if (decS w).1 = 19 ∨ (decS w).1 = 17 then false else if (decS w).1 = 18 then (decS w).2.2.1 == 15 else linksS w) := fun b => by
    refine Ev.succ ?_
    simp only [pleatref13_Alone.j0]
    refine Ev.ite2 (fun h => Ev.val (by rw [if_pos h])) (fun h => ?_)
    rw [if_neg h]
    refine Ev.ite2 (fun h => Ev.to (j1 _) ?_) (fun h => Ev.to (j1 _) ?_)
    · rw [if_pos (show ((decS w).1 == 19) = true by simpa using h), if_pos (show (decS w).1 = 19 ∨ (decS w).1 = 17 from .inl h)]
    · by_cases h17 : (decS w).1 = 17
      · rw [if_pos (show ((decS w).1 == 17) = true by simpa using h17), if_pos (show (decS w).1 = 19 ∨ (decS w).1 = 17 from .inr h17)]
      · rw [if_neg (show ¬ ((decS w).1 == 17) = true by simpa using h17), if_neg (show ¬ ((decS w).1 = 19 ∨ (decS w).1 = 17) by omega)]
  unfold pleatref13_Alone.f aloneS
  refine Ev.bind (dec2 w0 w1) (Ev.ite2 (fun h => Ev.to (j0 _) ?_) (fun h => Ev.to (j0 _) ?_))
  · rw [if_pos (show ((decS w).1 == -1) = true by simpa using h), if_pos (show (decS w).1 = -1 ∨ (decS w).1 = 16 from .inl h)]
  · by_cases h16 : (decS w).1 = 16
    · rw [if_pos (show ((decS w).1 == 16) = true by simpa using h16), if_pos (show (decS w).1 = -1 ∨ (decS w).1 = 16 from .inr h16)]
    · rw [if_neg (show ¬ ((decS w).1 == 16) = true by simpa using h16), if_neg (show ¬ ((decS w).1 = -1 ∨ (decS w).1 = 16) by omega)]
theorem touch_works : Ev (fun k => pleatlaw13_works.f k) true := Ev.of (k := 30) (pleatlaw13_works.mono) (by decide +kernel)

end Go.Proofs.Ytiaohbbafaaibaa.P
