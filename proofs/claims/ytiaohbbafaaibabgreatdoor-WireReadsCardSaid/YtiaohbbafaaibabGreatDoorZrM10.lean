/- OWN TEXT and printed parts of this claim, laid together: HApL, HApM, HApA, HApF, HApB, HApKWords, HApKLongs. -/
import Derived.Test.YtiaohbbafaaibabGreatDoorZrM0
import Derived.ArgAppend
import Derived.Great.Walk
import Derived.Test.YtiaohbbafaaibabGreatDoorZrM4
import Derived.StillTailTactics
/- OWN TEXT: lists that are written full, grown and looked at (Bag.Apart): what memory holds of them. -/
namespace Go.Proofs.YtiaohbbafaaibabGreatDoor.P
open Go.RowKit Go.Proofs.YtiaohbbafaaibabGreatDoorW.PrintWords Go.Proofs.YtiaohbbafaaibabGreatDoorW.PrintLast Go.Proofs.YtiaohbbafaaibabGreatDoorW.PrintMore Go.Proofs.YtiaohbbafaaibabGreatDoor.Arr
set_option linter.unusedVariables false
set_option linter.unusedSimpArgs false
def FlC (cs : Array Value) (s : Nat) (mk : Nat → List Value) (k : Nat) : Prop := ∀ i, i < k → ∀ j u, (mk i)[j]? = some u → cs[i * s + j]? = some u
def Fl (W : World) (B0 e s : Nat) (own : Nat → Nat) (mk : Nat → Nat → List Value) (n : Nat) (A : Option Addr) (len cap k : Nat) : Prop :=
 (A = none ∧ len = 0 ∧ cap = 0 ∧ k = 0) ∨ ∃ b cs, A = some ⟨b, 0, none⟩ ∧ W.heap[b]? = some (.cells cs e (0, 0)) ∧ own b = n ∧ B0 ≤ b ∧ cs.size = cap * s ∧ len ≤ cap ∧ k ≤ len ∧ FlC cs s (mk n) k
structure Wrote (W W1 : World) (b e s i : Nat) (vals : List Value) (cs : Array Value) : Prop where
  old : W.heap[b]? = some (.cells cs e (0, 0))
  new : ∃ cs1 : Array Value, W1.heap[b]? = some (.cells cs1 e (0, 0)) ∧ cs1.size = cs.size ∧ (∀ t u, vals[t]? = some u → cs1[i * s + t]? = some u) ∧ ∀ p, p < i * s ∨ i * s + s ≤ p → cs1[p]? = cs[p]?
  grown : W.grownBy W1 (some b)
theorem FlC.put {cs cs1 : Array Value} {s i k : Nat} {mk : Nat → List Value} (h : FlC cs s mk k) (hmk : ∀ i, (mk i).length = s) (h1 : ∀ t u, (mk i)[t]? = some u → cs1[i * s + t]? = some u) (h2 : ∀ p, p < i * s ∨ i * s + s ≤ p → cs1[p]? = cs[p]?) : FlC cs1 s mk k := by
 intro i' hi' j u hu
 by_cases he : i' = i
 ·
  subst he; exact h1 j u hu
 ·
  have hj : j < s := by
   have := (List.getElem?_eq_some_iff.1 hu).1
   rw [hmk] at this
   exact this
  rw [h2]
  ·
   exact h i' hi' j u hu
  ·
   rcases Nat.lt_or_gt_of_ne he with h | h
   ·
    left
    have := Nat.mul_le_mul_right s (Nat.succ_le_of_lt h)
    rw [Nat.succ_mul] at this
    omega
   ·
    right
    have := Nat.mul_le_mul_right s (Nat.succ_le_of_lt h)
    rw [Nat.succ_mul] at this
    omega
theorem FlC.more {cs cs1 : Array Value} {s k : Nat} {mk : Nat → List Value} (h : FlC cs s mk k) (hmk : ∀ i, (mk i).length = s) (h1 : ∀ t u, (mk k)[t]? = some u → cs1[k * s + t]? = some u) (h2 : ∀ p, p < k * s ∨ k * s + s ≤ p → cs1[p]? = cs[p]?) : FlC cs1 s mk (k + 1) := by
 intro i' hi' j u hu
 by_cases he : i' = k
 ·
  subst he; exact h1 j u hu
 ·
  exact h.put hmk h1 h2 i' (by omega) j u hu
section
variable {W W1 : World} {B0 e s n len cap k : Nat} {own : Nat → Nat} {mk : Nat → Nat → List Value} {A : Option Addr}
theorem Fl.keep (h : Fl W B0 e s own mk n A len cap k) (hk : ∀ (b : Nat) (cs : Array Value), W.heap[b]? = some (.cells cs e (0, 0)) → W1.heap[b]? = W.heap[b]?) : Fl W1 B0 e s own mk n A len cap k := by
 rcases h with h | ⟨b, cs, h1, h2, h3⟩
 ·
  exact .inl h
 ·
  exact .inr ⟨b, cs, h1, (hk b cs h2).trans h2, h3⟩
theorem Fl.below (h : Fl W B0 e s own mk n A len cap k) (hb : Below W.heap.size W W1) : Fl W1 B0 e s own mk n A len cap k := h.keep fun b cs hbk => hb.block b (blk_lt hbk)
theorem Fl.other (h : Fl W B0 e s own mk n A len cap k) {g t : Nat} {cs : Array Value} {fz : Nat × Nat} (hg : W.heap[g]? = some (.cells cs t fz)) (ht : t ≠ e) (hr : W.grownBy W1 (some g)) : Fl W1 B0 e s own mk n A len cap k := h.keep fun b cs' hbk => hr.block b (blk_lt hbk) (fun he => by
  obtain rfl := Option.some.inj he
  rw [hbk] at hg
  injection hg with hg
  injection hg with h1 h2 h3
  exact ht h2.symm)
theorem Fl.put (h : Fl W B0 e s own mk n A len cap k) (hmk : ∀ n i, (mk n i).length = s) {b m i : Nat} {cs : Array Value} (hw : Wrote W W1 b e s i (mk m i) cs) (ho : own b = m) : Fl W1 B0 e s own mk n A len cap k := by
 rcases h with h | ⟨b', cs', h1, h2, h3, h4, h5, h6, h7, h8⟩
 ·
  exact .inl h
 ·
  by_cases he : b' = b
  ·
   subst he
   obtain ⟨cs1, n1, n2, n3, n4⟩ := hw.new
   have hcs : cs' = cs := by
    have := h2.symm.trans hw.old
    injection this with this
    injection this
   subst hcs
   rw [h3] at ho
   subst ho
   exact .inr ⟨b', cs1, h1, n1, h3, h4, by rw [n2, h5], h6, h7, h8.put (hmk n) n3 n4⟩
  ·
   exact .inr ⟨b', cs', h1, (hw.grown.block b' (blk_lt h2) (fun z => he (Option.some.inj z))).trans h2, h3, h4, h5, h6, h7, h8⟩
theorem Fl.fill {b : Nat} (h : Fl W B0 e s own mk n (some ⟨b, 0, none⟩) len cap k) (hmk : ∀ n i, (mk n i).length = s) {cs : Array Value} (hk : k < len) (hw : Wrote W W1 b e s k (mk n k) cs) : Fl W1 B0 e s own mk n (some ⟨b, 0, none⟩) len cap (k + 1) := by
 rcases h with ⟨h, _⟩ | ⟨b', cs', h1, h2, h3, h4, h5, h6, h7, h8⟩
 ·
  cases h
 ·
  obtain rfl : b = b' := by injection h1 with h1; injection h1
  obtain ⟨cs1, n1, n2, n3, n4⟩ := hw.new
  have hcs : cs' = cs := by
   have := h2.symm.trans hw.old
   injection this with this
   injection this
  subst hcs
  exact .inr ⟨b, cs1, rfl, n1, h3, h4, by rw [n2, h5], h6, hk, h8.more (hmk n) n3 n4⟩
theorem Fl.grow {b : Nat} (h : Fl W B0 e s own mk n (some ⟨b, 0, none⟩) len cap len) (hmk : ∀ n i, (mk n i).length = s) {cs : Array Value} (hk : len < cap) (hw : Wrote W W1 b e s len (mk n len) cs) : Fl W1 B0 e s own mk n (some ⟨b, 0, none⟩) (len + 1) cap (len + 1) := by
 rcases h with ⟨h, _⟩ | ⟨b', cs', h1, h2, h3, h4, h5, h6, h7, h8⟩
 ·
  cases h
 ·
  obtain rfl : b = b' := by injection h1 with h1; injection h1
  obtain ⟨cs1, n1, n2, n3, n4⟩ := hw.new
  have hcs : cs' = cs := by
   have := h2.symm.trans hw.old
   injection this with this
   injection this
  subst hcs
  exact .inr ⟨b, cs1, rfl, n1, h3, h4, by rw [n2, h5], hk, Nat.le_refl _, h8.more (hmk n) n3 n4⟩
theorem Fl.own1 {own1 : Nat → Nat} (h : Fl W B0 e s own mk n A len cap k) (ho : ∀ b, b < W.heap.size → own1 b = own b) : Fl W B0 e s own1 mk n A len cap k := by
 rcases h with h | ⟨b, cs, h1, h2, h3, h4⟩
 ·
  exact .inl h
 ·
  exact .inr ⟨b, cs, h1, h2, (ho b (blk_lt h2)).trans h3, h4⟩
theorem Fl.cell {b : Nat} (h : Fl W B0 e s own mk n (some ⟨b, 0, none⟩) len cap k) {i : Nat} (hi : i < k) {j : Nat} {u : Value} (hu : (mk n i)[j]? = some u) : W.cell? ⟨b, i * s + j, none⟩ = some u := by
 rcases h with ⟨h, _⟩ | ⟨b', cs', h1, h2, h3, h4, h5, h6, h7, h8⟩
 ·
  cases h
 ·
  obtain rfl : b = b' := by injection h1 with h1; injection h1
  exact (cell_of_row _ _ _ _ _ _ h2).trans (h8 i hi j u hu)
theorem Fl.blk (h : Fl W B0 e s own mk n A len cap k) (hl : 0 < len) : ∃ b cs, A = some ⟨b, 0, none⟩ ∧ W.heap[b]? = some (.cells cs e (0, 0)) ∧ own b = n ∧ B0 ≤ b ∧ cs.size = cap * s ∧ len ≤ cap := by
 rcases h with ⟨h1, h2, _⟩ | ⟨b, cs, h1, h2, h3, h4, h5, h6, _⟩
 ·
  omega
 ·
  exact ⟨b, cs, h1, h2, h3, h4, h5, h6⟩
end
theorem Wrote.set {W : World} {b e i : Nat} {cs : Array Value} (u : Value) (h : W.heap[b]? = some (.cells cs e (0, 0))) (hi : i < cs.size) : Wrote W (W.setCell ⟨b, i, none⟩ u) b e 1 i [u] cs :=
  ⟨h, ⟨cs.setIfInBounds i u, blk_set h i u, Array.size_setIfInBounds .., fun t v hv => by
    cases t with
    | zero =>
      obtain rfl : u = v := Option.some.inj hv
      rw [Nat.mul_one, Nat.add_zero, Array.getElem?_setIfInBounds_self_of_lt hi]
    | succ t => simp at hv, fun p hp => by
    rw [Nat.mul_one] at hp
    rw [Array.getElem?_setIfInBounds_ne (by omega)]⟩, put_grownN (put_set h)⟩
structure St (w0 w W : World) (e : Nat) : Prop where
  low : Below w0.heap.size w0 W
  sz : w.heap.size ≤ W.heap.size
  b0 : w0.heap.size ≤ w.heap.size
  far : ∀ k, k < w.heap.size → (∀ cs, w.heap[k]? ≠ some (.cells cs e (0, 0))) → W.heap[k]? = w.heap[k]?
section
variable {w0 w W W1 : World} {e : Nat}
theorem St.refl (h : Below w0.heap.size w0 w) : St w0 w w e := ⟨h, Nat.le_refl _, h.size, fun _ _ _ => rfl⟩
theorem St.below (h : St w0 w W e) (hb : Below W.heap.size W W1) : St w0 w W1 e := ⟨below_then h.low h.low.size hb, Nat.le_trans h.sz hb.size, h.b0, fun k hk hn => (hb.block k (Nat.lt_of_lt_of_le hk h.sz)).trans (h.far k hk hn)⟩
theorem St.fresh (h : St w0 w W e) (hg : W.grownBy W1 none) : St w0 w W1 e := h.below ⟨hg.os, hg.tape, hg.output, hg.size, fun q hq => hg.block q hq (by simp)⟩
theorem St.mine (h : St w0 w W e) {g : Nat} (hg : W.grownBy W1 (some g)) (hw : w.heap.size ≤ g) : St w0 w W1 e :=
 ⟨⟨hg.os.trans h.low.os, hg.tape.trans h.low.tape, hg.output.trans h.low.output, Nat.le_trans h.low.size hg.size, fun q hq => (hg.block q (Nat.lt_of_lt_of_le hq h.low.size) (fun z => by have := Option.some.inj z; have := h.b0; omega)).trans (h.low.block q hq)⟩, Nat.le_trans h.sz hg.size, h.b0, fun k hk hn => (hg.block k (Nat.lt_of_lt_of_le hk h.sz) (fun z => by have := Option.some.inj z; omega)).trans (h.far k hk hn)⟩
theorem St.row (h : St w0 w W e) {g : Nat} {cs : Array Value} (hg : W.grownBy W1 (some g)) (hb : W.heap[g]? = some (.cells cs e (0, 0))) (hw : w0.heap.size ≤ g) : St w0 w W1 e :=
  ⟨⟨hg.os.trans h.low.os, hg.tape.trans h.low.tape, hg.output.trans h.low.output, Nat.le_trans h.low.size hg.size, fun q hq => (hg.block q (Nat.lt_of_lt_of_le hq h.low.size) (fun z => by have := Option.some.inj z; omega)).trans (h.low.block q hq)⟩, Nat.le_trans h.sz hg.size, h.b0, fun k hk hn => (hg.block k (Nat.lt_of_lt_of_le hk h.sz) (fun z => by
    obtain rfl := Option.some.inj z
    have h1 := h.far k hk hn
    rw [hb] at h1
    exact hn cs h1.symm)).trans (h.far k hk hn)⟩
theorem St.blk (h : St w0 w W e) {g t : Nat} {cs : Array Value} {fz : Nat × Nat} (hb : w.heap[g]? = some (.cells cs t fz)) (ht : t ≠ e) : W.heap[g]? = some (.cells cs t fz) := (h.far g (blk_lt hb) (fun cs' hc => by
  rw [hb] at hc
  injection hc with hc
  injection hc with h1 h2 h3
  exact ht h2)).trans hb
end
section
variable {P : Program} {ops : Array Oper} {rest : List Oper} {o : Oper} {a : Act} {Q : Exit → Act → World → Prop}
theorem set_cells_wrote {W : World} {b e s i : Nat} {cs : Array Value} {vals : List Value} (h : W.heap[b]? = some (.cells cs e (0, 0))) (hl : vals.length = s) (hi : i * s + s ≤ cs.size) : Wrote W (W.setCells b (i * s) vals) b e s i vals cs := by
 obtain ⟨cs1, h1, h2, h3⟩ := setCells_row vals (i * s) W cs h (by omega)
 obtain ⟨k1, k2, k3, k4⟩ := setCells_same b vals (i * s) W
 refine ⟨h, ⟨cs1, h1, h2, fun t u hu => ?_, fun p hp => ?_⟩, ⟨k1, k2, k3, by omega, fun k _ hk => setCells_far vals (i * s) k (fun e => hk (by rw [e]))⟩⟩
 ·
  have ht : t < vals.length := (List.getElem?_eq_some_iff.1 hu).1
  have hsz : cs.toList.length = cs.size := Array.length_toList
  rw [← Array.getElem?_toList, h3, List.append_assoc, List.getElem?_append_right (by rw [List.length_take]; omega), List.length_take, hsz, Nat.min_eq_left (by omega), Nat.add_sub_cancel_left, List.getElem?_append_left ht]
  exact hu
 ·
  have hsz : cs.toList.length = cs.size := Array.length_toList
  rw [← Array.getElem?_toList, ← Array.getElem?_toList, h3]
  rcases hp with hp | hp
  ·
   rw [List.append_assoc, List.getElem?_append_left (by rw [List.length_take, hsz]; omega), List.getElem?_take_of_lt hp]
  ·
   rw [List.getElem?_append_right (by rw [List.length_append, List.length_take, hsz]; omega), List.length_append, List.length_take, hsz, Nat.min_eq_left (by omega), hl, List.getElem?_drop]
   congr 1
   omega
theorem fresh_case {w0 w W W1 : World} {e s n len : Nat} {own : Nat → Nat} {mk : Nat → Nat → List Value} {v1 : Value} {xs : List Value} {X : Value → World → Prop} (HS : St w0 w W e) (hmk : ∀ n i, (mk n i).length = s) (_ : 0 ≤ len) (hown : W1.ownsRow W.heap.size e s v1 (len + 1) xs) (hgr : W.grownBy W1 none) (hxs : ∀ i, i < len + 1 → ∀ j u, (mk n i)[j]? = some u → xs[i * s + j]? = some u)
  (h : ∀ A1 cap1 own1 W1, Fl W1 w0.heap.size e s own1 mk n A1 (len + 1) cap1 (len + 1) → St w0 w W1 e → W.heap.size ≤ W1.heap.size → (∀ k, k < W.heap.size → (∀ cs, W.heap[k]? ≠ some (.cells cs e (0, 0))) → W1.heap[k]? = W.heap[k]?) → (∀ m A' l' c' k', Fl W w0.heap.size e s own mk m A' l' c' k' → Fl W1 w0.heap.size e s own1 mk m A' l' c' k') → X (.slice A1 (len + 1) cap1) W1) : X v1 W1 := by
 obtain ⟨hl, hv⟩ := hown
 rcases hv with ⟨_, h0⟩ | ⟨g, cap1, cur, rfl, hg1, hg2, hg3, hg4, hg5, hg6⟩
 ·
  omega
 ·
  refine h (some ⟨g, 0, none⟩) cap1 (fun b => if b = g then n else own b) W1 (.inr ⟨g, cur, rfl, hg2, if_pos rfl, Nat.le_trans HS.b0 (Nat.le_trans HS.sz hg1), hg5, hg3, Nat.le_refl _, fun i hi j u hu => ?_⟩) (HS.fresh hgr) hgr.size (fun k hk _ => hgr.block k hk (by simp)) (fun m A' l' c' k' hm => ?_)
  ·
   have h1 := hxs i hi j u hu
   rw [← hg6] at h1
   have hj := (List.getElem?_eq_some_iff.1 h1).1
   rw [List.length_take] at hj
   rw [List.getElem?_take_of_lt (by omega), Array.getElem?_toList] at h1
   exact h1
  ·
   refine (hm.own1 (own1 := fun b => if b = g then n else own b) (fun b hb => if_neg (by omega))).keep (fun b cs hb => hgr.block b (blk_lt hb) (by simp))
theorem Fl.append {w0 w W : World} {e s n len cap : Nat} {own : Nat → Nat} {mk : Nat → Nat → List Value} {A : Option Addr} (H : Fl W w0.heap.size e s own mk n A len cap len) (HS : St w0 w W e) (hmk : ∀ n i, (mk n i).length = s)
    (hg : o.guard = none) (x1 x2 : Operand) (t : TypeId) (hop : o.op = Op.call { callee := Callee.builtin Builtin.append, args := #[x1, x2], argTypes := #[t, t] })
    (i : TypeInfo) (z : Value) (bytes : Nat) (h1 : P.underlying t = some (.slice e)) (h2 : P.info? e = some i) (h3 : i.zero = some z) (h4 : i.size = s) (h5 : i.bytes = bytes) (h6 : z.cells.size = s) (h7 : 0 < s)
    (hs : a.eval x1 = .slice A len cap) (ad : Addr) (c : Nat) (hx : a.eval x2 = .slice (some ad) 1 c) (hc : ∀ j u, (mk n len)[j]? = some u → W.cell? (ad.add j) = some u) (h1c : ∀ u ∈ mk n len, u.oneCell' = true)
    (b1 : len + 1 ≤ maxLen) (b2 : (len + 1) * bytes ≤ 140737488355328)
    (h : ∀ A1 cap1 own1 W1, Fl W1 w0.heap.size e s own1 mk n A1 (len + 1) cap1 (len + 1) → St w0 w W1 e → W.heap.size ≤ W1.heap.size → (∀ k, k < W.heap.size → (∀ cs, W.heap[k]? ≠ some (.cells cs e (0, 0))) → W1.heap[k]? = W.heap[k]?) → (∀ m A' l' c' k', Fl W w0.heap.size e s own mk m A' l' c' k' → Fl W1 w0.heap.size e s own1 mk m A' l' c' k') → wpList P ops Q rest (a.put o.dst (.slice A1 (len + 1) cap1)) W1) :
    wpList P ops Q (o :: rest) a W := by
  rcases H with ⟨rfl, rfl, rfl, _⟩ | ⟨b, cs, rfl, hb, ho, hB, hsz, hlc, _, hF⟩
  · refine wpList_append_grows W hg x1 x2 t hop e i z s bytes h1 h2 h3 h4 h5 h6 h7 none 0 0 [] hs (fun _ => ⟨rfl, rfl⟩) (by simp) (fun b hb => by cases hb) ad 1 c (mk n 0) hx (by rw [hmk]; omega) hc h1c (by omega) b1 b2 ?_
    intro v1 W1 hown hgr
    rw [List.nil_append] at hown
    exact fresh_case (own := own) (n := n) (X := fun v W => wpList P ops Q rest (a.put o.dst v) W) HS hmk (by omega) hown hgr (fun i hi j u hu => by
      have : i = 0 := by omega
      subst this
      rw [Nat.zero_mul, Nat.zero_add]
      exact hu) h
  · have holds : ∀ j u, (cs.toList.take (len * s))[j]? = some u → W.cell? ⟨b, 0 + j, none⟩ = some u := by
      intro j u hu
      have hj : j < len * s := by
        have := (List.getElem?_eq_some_iff.1 hu).1
        rw [List.length_take] at this
        omega
      rw [Nat.zero_add]
      refine (cell_of_row _ _ _ _ _ _ hb).trans ?_
      rw [List.getElem?_take_of_lt hj, Array.getElem?_toList] at hu
      exact hu
    have hle : len * s ≤ cap * s := Nat.mul_le_mul_right s hlc
    have hlo : (cs.toList.take (len * s)).length = len * s := by rw [List.length_take, Array.length_toList]; omega
    refine wpList_append_arg W hg x1 x2 t hop e i z s bytes h1 h2 h3 h4 h5 h6 h7 b 0 len cap (cs.toList.take (len * s)) hs hlo holds ad 1 c (mk n len) hx (by rw [hmk]; omega) hc h1c ?_ b1 b2 ?_ ?_
    · intro hroom j hj
      rw [hmk] at hj
      have h8 : (len + 1) * s ≤ cap * s := Nat.mul_le_mul_right s hroom
      rw [Nat.succ_mul] at h8
      refine ⟨?_, blk_frozen hb _⟩
      rw [cell_of_row _ _ _ _ _ _ hb, Nat.zero_add, Array.getElem?_eq_getElem (by omega)]
      rfl
    · intro hroom
      have h8 : (len + 1) * s ≤ cap * s := Nat.mul_le_mul_right s hroom
      rw [Nat.succ_mul] at h8
      rw [Nat.zero_add]
      have hw := set_cells_wrote (W := W) (i := len) (vals := mk n len) hb (hmk n len) (by omega)
      have HF : Fl W w0.heap.size e s own mk n (some ⟨b, 0, none⟩) len cap len := .inr ⟨b, cs, rfl, hb, ho, hB, hsz, hlc, Nat.le_refl _, hF⟩
      refine h (some ⟨b, 0, none⟩) cap own _ (HF.grow hmk (by omega) hw) (HS.row hw.grown hb hB) hw.grown.size (fun k hk hn => hw.grown.block k hk (fun z => by
        obtain rfl := Option.some.inj z
        exact hn cs hb)) (fun m A' l' c' k' hm => hm.put hmk hw ho)
    · intro hfull v1 W1 hown hgr
      refine fresh_case (own := own) (n := n) (X := fun v W => wpList P ops Q rest (a.put o.dst v) W) HS hmk (Nat.zero_le _) hown hgr (fun i hi j u hu => ?_) h
      have hj : j < s := by
        have := (List.getElem?_eq_some_iff.1 hu).1
        rw [hmk] at this
        exact this
      by_cases he : i = len
      · subst he
        rw [List.getElem?_append_right (by omega), hlo, Nat.add_sub_cancel_left]
        exact hu
      · have h9 : (i + 1) * s ≤ len * s := Nat.mul_le_mul_right s (by omega)
        rw [Nat.succ_mul] at h9
        rw [List.getElem?_append_left (by omega), List.getElem?_take_of_lt (by omega), Array.getElem?_toList]
        exact hF i (by omega) j u hu

end
end Go.Proofs.YtiaohbbafaaibabGreatDoor.P

/- OWN TEXT: lists that are written full, grown and looked at (Bag.Apart): what is held on the way, and what each append does to it. -/
namespace Go.Proofs.YtiaohbbafaaibabGreatDoor.P
open Go.RowKit Go.Proofs.YtiaohbbafaaibabGreatDoorW.PrintWords Go.Proofs.YtiaohbbafaaibabGreatDoorW.PrintLast Go.Proofs.YtiaohbbafaaibabGreatDoorW.PrintMore Go.Proofs.YtiaohbbafaaibabGreatDoor.Arr
set_option linter.unusedVariables false
set_option linter.unusedSimpArgs false
abbrev Tri := Option Addr × Nat × Nat
def slT (p : Tri) : Value := .slice p.1 p.2.1 p.2.2
theorem slT_one (p : Tri) : (slT p).oneCell' = true := rfl
abbrev KS : Kd Tri := Kd.scalar slT slT_one
def Col (W : World) (base E1 B0 E s : Nat) (own : Nat → Nat) (mk : Nat → Nat → List Value) (L : Nat → Nat) (d n : Nat) (u : Value) : Prop :=
 ∃ ts : List Tri, ts.length = n ∧ KS.R E1 W base (fun _ => True) u ts ∧ ∀ m p, ts[m]? = some p → p.2.1 = L m + d ∧ Fl W B0 E s own mk m p.1 (L m + d) p.2.2 (L m + d)
section
variable {W W1 : World} {base E1 B0 E s d n : Nat} {own own1 : Nat → Nat} {mk : Nat → Nat → List Value} {L : Nat → Nat} {u : Value}
theorem Col.nil : Col W base E1 B0 E s own mk L d 0 (.slice none 0 0) := ⟨[], rfl, Kd.R_nil _ _ _ _ _, fun m p h => by simp at h⟩
theorem Col.form (h : Col W base E1 B0 E s own mk L d n u) : ∃ A c, u = .slice A n c := by
 obtain ⟨ts, rfl, hR, _⟩ := h
 exact Kd.R_slice hR
theorem Col.at (h : Col W base E1 B0 E s own mk L d n u) {m : Nat} (hm : m < n) : ∃ g c A' c', u = .slice (some ⟨g, 0, none⟩) n c ∧ W.cell? ⟨g, m, none⟩ = some (.slice A' (L m + d) c') ∧ Fl W B0 E s own mk m A' (L m + d) c' (L m + d) := by
 obtain ⟨ts, rfl, hR, hF⟩ := h
 obtain ⟨g, c, rfl, _⟩ := Kd.R_form hR (by omega)
 have h1 := (Kd.R_celln ((none, 0, 0) : Tri) hR (m : Int) (by omega) (by omega)).1
 have h2 := List.getElem?_eq_getElem hm
 have h3 := hF m _ h2
 have h4 : rdOf ((none, 0, 0) : Tri) ts (m : Int) = ts[m] := by
  unfold rdOf
  rw [Int.toNat_natCast, List.getD_eq_getElem?_getD, h2]
  rfl
 rw [h4, Int.toNat_natCast] at h1
 refine ⟨g, c, ts[m].1, ts[m].2.2, rfl, ?_, h3.2⟩
 rw [h1]
 unfold slT
 rw [h3.1]
theorem Col.move (h : Col W base E1 B0 E s own mk L d n u) (hb : ∀ (k : Nat) (cs : Array Value), u.ownBlock = some k → W.heap[k]? = some (.cells cs E1 (0, 0)) → W1.heap[k]? = W.heap[k]?) (hF : ∀ m A' l' c' k', Fl W B0 E s own mk m A' l' c' k' → Fl W1 B0 E s own1 mk m A' l' c' k') : Col W1 base E1 B0 E s own1 mk L d n u := by
 obtain ⟨ts, h1, hR, h2⟩ := h
 refine ⟨ts, h1, ?_, fun m p hp => ⟨(h2 m p hp).1, hF m _ _ _ _ (h2 m p hp).2⟩⟩
 have hR1 : KS.R E1 W base (fun k => u.ownBlock = some k) u ts := Kd.R_of_own (Kd.own_of_R hR) (fun k hk => hk)
 refine Kd.R_mono (Kd.R_move (Kd.R_bound hR1) (fun k hk => ?_)) (fun _ _ => trivial)
 obtain ⟨hk1, _, _, q, hq, cells, hc⟩ := hk
 obtain rfl : q = E1 := by
  rcases List.mem_cons.1 hq with h | h
  ·
   exact h
  ·
   cases h
 exact hb k cells hk1 hc
theorem Col.typed (h : Col W base E1 B0 E s own mk L d n u) {k : Nat} (hk : u.ownBlock = some k) : k < W.heap.size ∧ base ≤ k ∧ ∃ cs, W.heap[k]? = some (.cells cs E1 (0, 0)) := by
 obtain ⟨ts, h1, hR, h2⟩ := h
 have h3 : KS.R E1 W base (fun k => u.ownBlock = some k) u ts := Kd.R_of_own (Kd.own_of_R hR) (fun k hk => hk)
 have := (Kd.R_bound h3).1 k hk
 obtain ⟨_, h4, h5, q, hq, cells, hc⟩ := this
 obtain rfl : q = E1 := by
  rcases List.mem_cons.1 hq with h | h
  ·
   exact h
  ·
   cases h
 exact ⟨h5, h4, cells, hc⟩
end
section
variable {W W1 w0 w : World} {E1 B0 E s d n : Nat} {own : Nat → Nat} {mk : Nat → Nat → List Value} {L : Nat → Nat} {u : Value}
theorem Col.flat {base : Nat} (h : Col W base E1 B0 E s own mk L d n u) (hE : E1 ≠ E) (hg : W.grownBy W1 u.ownBlock) : ∀ m A' l' c' k', Fl W B0 E s own mk m A' l' c' k' → Fl W1 B0 E s own mk m A' l' c' k' := fun m A' l' c' k' hF => hF.keep (fun b cs hb => hg.block b (blk_lt hb) (fun z => by
  obtain ⟨_, _, cs', hc⟩ := h.typed z.symm
  rw [hb] at hc
  injection hc with hc
  injection hc with h1 h2 h3
  exact hE h2.symm))
theorem Col.st (h : Col W w.heap.size E1 B0 E s own mk L d n u) (hS : St w0 w W E) (hg : W.grownBy W1 u.ownBlock) : St w0 w W1 E := by
 cases hu : u.ownBlock with
 | none => rw [hu] at hg; exact hS.fresh hg
 | some k => rw [hu] at hg; exact hS.mine hg (h.typed hu).2.1
end
structure P2 (E E1 s : Nat) (mk : Nat → Nat → List Value) (w0 w W : World) (M : Nat) (A : Nat → Option Addr) (L C : Nat → Nat) (own : Nat → Nat) (n5 n6 : Nat) (u5 u6 : Value) : Prop where
  st : St w0 w W E
  rows : ∀ m, m < M → Fl W w0.heap.size E s own mk m (A m) (L m) (C m) (L m)
  one : Col W w.heap.size E1 w0.heap.size E s own mk L 1 n5 u5
  more : Col W w.heap.size E1 w0.heap.size E s own mk L 70 n6 u6
  ne : ∀ k, u5.ownBlock = some k → u6.ownBlock ≠ some k
section
variable {E E1 s : Nat} {mk : Nat → Nat → List Value} {w0 w W W1 : World} {M : Nat} {A : Nat → Option Addr} {L C : Nat → Nat} {own own1 : Nat → Nat} {n5 n6 : Nat} {u5 u6 : Value}
theorem P2.below (h : P2 E E1 s mk w0 w W M A L C own n5 n6 u5 u6) (hb : Below W.heap.size W W1) : P2 E E1 s mk w0 w W1 M A L C own n5 n6 u5 u6 :=
 ⟨h.st.below hb, fun m hm => (h.rows m hm).below hb, h.one.move (fun k cs _ hc => hb.block k (blk_lt hc)) (fun _ _ _ _ _ hF => hF.below hb), h.more.move (fun k cs _ hc => hb.block k (blk_lt hc)) (fun _ _ _ _ _ hF => hF.below hb), h.ne⟩
theorem P2.mine (h : P2 E E1 s mk w0 w W M A L C own n5 n6 u5 u6) (hE : E1 ≠ E) (hS : St w0 w W1 E) (hfar : ∀ k, k < W.heap.size → (∀ cs, W.heap[k]? ≠ some (.cells cs E (0, 0))) → W1.heap[k]? = W.heap[k]?) (hF : ∀ m A' l' c' k', Fl W w0.heap.size E s own mk m A' l' c' k' → Fl W1 w0.heap.size E s own1 mk m A' l' c' k') : P2 E E1 s mk w0 w W1 M A L C own1 n5 n6 u5 u6 := by
  have hb : ∀ (u : Value) (k : Nat) (cs : Array Value), u.ownBlock = some k → W.heap[k]? = some (.cells cs E1 (0, 0)) → W1.heap[k]? = W.heap[k]? := fun u k cs _ hc => hfar k (blk_lt hc) (fun cs' hc' => by
    rw [hc] at hc'
    injection hc' with hc'
    injection hc' with h1 h2 h3
    exact hE h2)
  exact ⟨hS, fun m hm => hF m _ _ _ _ (h.rows m hm), h.one.move (hb u5) hF, h.more.move (hb u6) hF, h.ne⟩
section
variable {P : Program} {ops : Array Oper} {rest : List Oper} {o : Oper} {a : Act} {Q : Exit → Act → World → Prop}
theorem P2.app_l (h : P2 E E1 s mk w0 w W M A L C own n5 n6 u5 u6) (hE : E1 ≠ E) (hmk : ∀ n i, (mk n i).length = s) (h1c : ∀ n i, ∀ u ∈ mk n i, u.oneCell' = true) (hg : o.guard = none) (x1 x2 : Operand) (t : TypeId) (hop : o.op = Op.call { callee := Callee.builtin Builtin.append, args := #[x1, x2], argTypes := #[t, t] })
  (z : Value) (bytes : Nat) (h1 : P.underlying t = some (.slice E)) (hinfo : (P.info? E).map (fun i => (i.zero, i.size, i.bytes)) = some (some z, s, bytes)) (h6 : z.cells.size = s) (h7 : 0 < s)
  {n len cap : Nat} {Al : Option Addr} (H : Fl W w0.heap.size E s own mk n Al len cap len) (hs : a.eval x1 = .slice Al len cap) (hx : a.eval x2 = .slice (some ⟨W.heap.size, 0, none⟩) 1 1) (hlen : len ≤ 1000000000000) (hby : bytes ≤ 128)
  (cs : Array Value) (hcs : cs = (mk n len).toArray)
  (k : ∀ A1 cap1 own1 W1, P2 E E1 s mk w0 w W1 M A L C own1 n5 n6 u5 u6 → Fl W1 w0.heap.size E s own1 mk n A1 (len + 1) cap1 (len + 1) → wpList P ops Q rest (a.put o.dst (.slice A1 (len + 1) cap1)) W1) :
  wpList P ops Q (o :: rest) a (W.alloc (.cells cs E)) := by
 subst hcs
 obtain ⟨i, hi, hz⟩ := Option.map_eq_some_iff.1 hinfo
 simp only [Prod.mk.injEq] at hz
 have hb := below_alloc (Below.refl W.heap.size W) (.cells (mk n len).toArray E)
 have h2 := h.below hb
 have hblk : (W.alloc (.cells (mk n len).toArray E)).heap[W.heap.size]? = some (.cells (mk n len).toArray E (0, 0)) := blk_new W _
 have hbig : (len + 1) * bytes ≤ 140737488355328 := Nat.le_trans (Nat.mul_le_mul (Nat.succ_le_succ hlen) hby) (by decide)
 refine (H.below hb).append h2.st hmk hg x1 x2 t hop i z bytes h1 hi hz.1 hz.2.1 hz.2.2 h6 h7 hs ⟨W.heap.size, 0, none⟩ 1 hx (fun j u hu => ?_) (h1c n len) (by simp only [maxLen]; omega) hbig ?_
 ·
  rw [add_plain, cell_of_row _ _ j _ _ _ hblk, ← Array.getElem?_toList]
  exact hu
 ·
  intro A1 cap1 own1 W1 hF hS hsz hfar hmv
  exact k A1 cap1 own1 W1 (h2.mine hE hS hfar hmv) hF
theorem P2.app_one (h : P2 E E1 s mk w0 w W M A L C own n5 n6 u5 u6) (hE : E1 ≠ E) (hg : o.guard = none) (x1 x2 : Operand) (t : TypeId) (hop : o.op = Op.call { callee := Callee.builtin Builtin.append, args := #[x1, x2], argTypes := #[t, t] })
  (h1 : P.underlying t = some (.slice E1)) (hinfo : (P.info? E1).map (fun i => (i.zero, i.size, i.bytes)) = some (some (.slice none 0 0), 1, 24))
  (hs : a.eval x1 = u5) (hx : a.eval x2 = .slice (some ⟨W.heap.size, 0, none⟩) 1 1) (hn : n5 ≤ 1000) {Al : Option Addr} {cap : Nat} (H : Fl W w0.heap.size E s own mk n5 Al (L n5 + 1) cap (L n5 + 1))
  (k : ∀ v1 W1, P2 E E1 s mk w0 w W1 M A L C own (n5 + 1) n6 v1 u6 → (∀ m A' l' c' k', Fl W w0.heap.size E s own mk m A' l' c' k' → Fl W1 w0.heap.size E s own mk m A' l' c' k') → wpList P ops Q rest (a.put o.dst v1) W1) :
  wpList P ops Q (o :: rest) a (W.alloc (.cells #[.slice Al (L n5 + 1) cap] E1)) := by
 obtain ⟨ts, hts, hR, hT⟩ := h.one
 refine Kd.R_append KS (w0 := W) (W := W) w.heap.size hg x1 x2 t E1 (.slice none 0 0) 24 hop h1 hinfo rfl (by decide) (by decide) u5 ts ((Al, L n5 + 1, cap) : Tri) [slT (Al, L n5 + 1, cap)] (fun _ => True) (fun _ => False) hs hx rfl (fun _ hk => hk.elim) (fun _ _ => trivial) hR (Below.refl _ _) h.st.sz (by rw [hts]; omega) ?_
 intro v1 W1 hR1 _ hg1 halt
 have hmv := h.one.flat hE hg1
 refine k v1 W1 ⟨h.one.st h.st hg1, fun m hm => hmv m _ _ _ _ (h.rows m hm), ⟨ts ++ [(Al, L n5 + 1, cap)], by rw [List.length_append, hts]; rfl, hR1, fun m p hp => ?_⟩, h.more.move (fun q cs hq hc => hg1.block q (blk_lt hc) (fun z => h.ne q z.symm hq)) hmv, fun q hq hq6 => ?_⟩ hmv
 ·
  rcases Nat.lt_or_ge m ts.length with hm | hm
  ·
   rw [List.getElem?_append_left hm] at hp
   exact ⟨(hT m p hp).1, hmv m _ _ _ _ (hT m p hp).2⟩
  ·
   rw [List.getElem?_append_right hm] at hp
   have hm2 : m = ts.length := by
    have := (List.getElem?_eq_some_iff.1 hp).1
    simp at this
    omega
   subst hm2
   rw [Nat.sub_self] at hp
   obtain rfl : (Al, L n5 + 1, cap) = p := Option.some.inj hp
   rw [hts]
   exact ⟨rfl, hmv n5 _ _ _ _ H⟩
 ·
  rcases halt with he | ⟨b, hb1, hb2⟩
  ·
   exact h.ne q (he.symm.trans hq) hq6
  ·
   rw [hq] at hb1
   obtain rfl := Option.some.inj hb1
   have := (h.more.typed hq6).1
   omega
theorem P2.app_more (h : P2 E E1 s mk w0 w W M A L C own n5 n6 u5 u6) (hE : E1 ≠ E) (hg : o.guard = none) (x1 x2 : Operand) (t : TypeId) (hop : o.op = Op.call { callee := Callee.builtin Builtin.append, args := #[x1, x2], argTypes := #[t, t] })
  (h1 : P.underlying t = some (.slice E1)) (hinfo : (P.info? E1).map (fun i => (i.zero, i.size, i.bytes)) = some (some (.slice none 0 0), 1, 24))
  (hs : a.eval x1 = u6) (hx : a.eval x2 = .slice (some ⟨W.heap.size, 0, none⟩) 1 1) (hn : n6 ≤ 1000) {Al : Option Addr} {cap : Nat} (H : Fl W w0.heap.size E s own mk n6 Al (L n6 + 70) cap (L n6 + 70))
  (k : ∀ v1 W1, P2 E E1 s mk w0 w W1 M A L C own n5 (n6 + 1) u5 v1 → wpList P ops Q rest (a.put o.dst v1) W1) :
  wpList P ops Q (o :: rest) a (W.alloc (.cells #[.slice Al (L n6 + 70) cap] E1)) := by
 obtain ⟨ts, hts, hR, hT⟩ := h.more
 refine Kd.R_append KS (w0 := W) (W := W) w.heap.size hg x1 x2 t E1 (.slice none 0 0) 24 hop h1 hinfo rfl (by decide) (by decide) u6 ts ((Al, L n6 + 70, cap) : Tri) [slT (Al, L n6 + 70, cap)] (fun _ => True) (fun _ => False) hs hx rfl (fun _ hk => hk.elim) (fun _ _ => trivial) hR (Below.refl _ _) h.st.sz (by rw [hts]; omega) ?_
 intro v1 W1 hR1 _ hg1 halt
 have hmv := h.more.flat hE hg1
 refine k v1 W1 ⟨h.more.st h.st hg1, fun m hm => hmv m _ _ _ _ (h.rows m hm), h.one.move (fun q cs hq hc => hg1.block q (blk_lt hc) (fun z => h.ne q hq z.symm)) hmv, ⟨ts ++ [(Al, L n6 + 70, cap)], by rw [List.length_append, hts]; rfl, hR1, fun m p hp => ?_⟩, fun q hq hq6 => ?_⟩
 ·
  rcases Nat.lt_or_ge m ts.length with hm | hm
  ·
   rw [List.getElem?_append_left hm] at hp
   exact ⟨(hT m p hp).1, hmv m _ _ _ _ (hT m p hp).2⟩
  ·
   rw [List.getElem?_append_right hm] at hp
   have hm2 : m = ts.length := by
    have := (List.getElem?_eq_some_iff.1 hp).1
    simp at this
    omega
   subst hm2
   rw [Nat.sub_self] at hp
   obtain rfl : (Al, L n6 + 70, cap) = p := Option.some.inj hp
   rw [hts]
   exact ⟨rfl, hmv n6 _ _ _ _ H⟩
 ·
  rcases halt with he | ⟨b, hb1, hb2⟩
  ·
   exact h.ne q hq (he.symm.trans hq6)
  ·
   rw [hq6] at hb1
   obtain rfl := Option.some.inj hb1
   have := (h.one.typed hq).1
   omega
end
end
end Go.Proofs.YtiaohbbafaaibabGreatDoor.P

/- OWN TEXT: Bag.AddBytes walked: one list more is gathered. -/
namespace Go.Proofs.YtiaohbbafaaibabGreatDoor.P
open Go.RowKit Go.Proofs.YtiaohbbafaaibabGreatDoorW.PrintWords Go.Proofs.YtiaohbbafaaibabGreatDoorW.PrintLast Go.Proofs.YtiaohbbafaaibabGreatDoorW.PrintMore Go.Proofs.YtiaohbbafaaibabGreatDoor.Arr
set_option linter.unusedVariables false
set_option linter.unusedSimpArgs false
theorem infoAddBytes : (Tryz.prog.info? 31).map (fun i => (i.zero, i.size, i.bytes)) = some (some (.slice none 0 0), 1, 24) := by kernel_rfl
theorem row_not_bag {W : World} {g e t base : Nat} {cs : Array Value} {ok : Nat → Prop} {v : Value} {ts : List Tri} (hb : W.heap[g]? = some (.cells cs t (0, 0))) (hr : KS.R e W base ok v ts) (ht : e ≠ t) : some g ≠ v.ownBlock := fun h => by
 obtain ⟨_, _, _, q, hq, cells, hc⟩ := (Kd.R_bound hr).1 g h.symm
 obtain rfl : q = e := by
  rcases List.mem_cons.1 hq with h | h
  ·
   exact h
  ·
   cases h
 rw [hc] at hb
 injection hb with hb
 injection hb with h1 h2
 exact ht h2
set_option maxHeartbeats 8000000 in
set_option maxRecDepth 100000 in
theorem addBytes.calls (w0 w : World) (g : Nat) (cg : Array Value) (ts : List Tri) (v : Value) (hb : w.heap[g]? = some (.cells cg 56 (0, 0))) (hc : cg[0]? = some v) (hg : w0.heap.size ≤ g) (low : Below w0.heap.size w0 w) (hR : KS.R 31 w w0.heap.size (fun _ => True) v ts) (hn : ts.length < 300) (p : Tri) :
    Calls Tryz.prog 13 #[.pointer (some ⟨g, 0, none⟩), .slice p.1 p.2.1 p.2.2] w fun e w' => e = .returned (.tuple #[]) ∧ ∃ v1, w'.heap[g]? = some (.cells (cg.setIfInBounds 0 v1) 56 (0, 0)) ∧ KS.R 31 w' w0.heap.size (fun _ => True) v1 (ts ++ [p]) ∧ Below w0.heap.size w0 w' ∧ ∀ k, k < w.heap.size → k ≠ g → (∀ cs, w.heap[k]? ≠ some (.cells cs 31 (0, 0))) → w'.heap[k]? = w.heap[k]? := by
  have HB := Aside0.mk hb
  have HC := Aside0.mk hc
  have HG := Aside0.mk hg
  have LOW := Aside0.mk low
  have HR := Aside0.mk hR
  have HN := Aside0.mk hn
  have hz0 := (blk_cell hb 0).trans hc
  obtain ⟨A0, c0, e0⟩ := Kd.R_slice hR
  subst e0
  have hlt : decide ((ts.length : Int) < 300) = true := decide_eq_true (by omega)
  clear hb hc hg low hR hn
  go_enter Tryz.func13, Tryz.ntmps13
  go_wp2_with (((with_reducible refine gate_builtin (b := .append) (xs := #[.tmp 14, .tmp 16]) rfl ?_); at_builtin; refine Kd.R_append KS (w0 := w0) (W := w) w0.heap.size rfl (.tmp 14) (.tmp 16) 38 31 (.slice none 0 0) 24 rfl Tryz.underlying38 infoAddBytes rfl (by decide) (by decide) (.slice A0 ts.length c0) ts p [slT p] (fun _ => True) (fun _ => False) rfl rfl rfl (fun _ hk => hk.elim) (fun _ _ => trivial) HR.out LOW.out LOW.out.size (by have := HN.out; omega) ?_; intro v1 w1 hr1 hlow hgr _; obtain ⟨Ao, co, eo⟩ := Kd.R_slice hr1; obtain ⟨nn, hnn⟩ : ∃ nn, nn = (ts ++ [p]).length := ⟨_, rfl⟩; rw [← hnn] at eo; subst eo; have hnb := row_not_bag HB.out HR.out (by decide); have hbk := (hgr.block g (blk_lt HB.out) hnb).trans HB.out; have HB1 := Aside0.mk hbk; have hz1 := (blk_cell hbk 0).trans HC.out; have hzf := blk_frozen hbk 0; have HR1 := Aside0.mk hr1; have LOW1 := Aside0.mk hlow; have HG1 := Aside0.mk hgr; clear hr1 hlow hgr hnb hbk hnn))
  refine Go.Great.bodyPost_end0 rfl rfl ?_
  refine ⟨rfl, .slice Ao nn co, blk_set HB1.out 0 _, ?_, ?_, ?_⟩
  · exact Kd.R_set HR1.out HB1.out (fun q hq => by
      rcases List.mem_cons.1 hq with h | h
      · rw [h]; decide
      · cases h) 0 _
  · exact below_set LOW1.out HG.out
  · intro k hk hkg hkt
    refine (Below.heap_setCell _ _ _ k hkg).trans (HG1.out.block k hk (fun h => ?_))
    obtain ⟨_, _, _, q, hq, cells, hcc⟩ := (Kd.R_bound HR.out).1 k h.symm
    rcases List.mem_cons.1 hq with h | h
    · subst h; exact hkt cells hcc
    · cases h
end Go.Proofs.YtiaohbbafaaibabGreatDoor.P

/- OWN TEXT: Bag.AddWords, AddLongs, AddSymbols, AddRelocs walked. -/
namespace Go.Proofs.YtiaohbbafaaibabGreatDoor.P
open Go.RowKit Go.Proofs.YtiaohbbafaaibabGreatDoorW.PrintWords Go.Proofs.YtiaohbbafaaibabGreatDoorW.PrintLast Go.Proofs.YtiaohbbafaaibabGreatDoorW.PrintMore Go.Proofs.YtiaohbbafaaibabGreatDoor.Arr
set_option linter.unusedVariables false
set_option linter.unusedSimpArgs false
theorem infoAddLongs : (Tryz.prog.info? 23).map (fun i => (i.zero, i.size, i.bytes)) = some (some (.slice none 0 0), 1, 24) := by kernel_rfl
set_option maxHeartbeats 8000000 in
set_option maxRecDepth 100000 in
theorem addLongs.calls (w0 w : World) (g : Nat) (cg : Array Value) (ts : List Tri) (v : Value) (hb : w.heap[g]? = some (.cells cg 56 (0, 0))) (hc : cg[4]? = some v) (hg : w0.heap.size ≤ g) (low : Below w0.heap.size w0 w) (hR : KS.R 23 w w0.heap.size (fun _ => True) v ts) (hn : ts.length < 300) (p : Tri) :
    Calls Tryz.prog 76 #[.pointer (some ⟨g, 0, none⟩), .slice p.1 p.2.1 p.2.2] w fun e w' => e = .returned (.tuple #[]) ∧ ∃ v1, w'.heap[g]? = some (.cells (cg.setIfInBounds 4 v1) 56 (0, 0)) ∧ KS.R 23 w' w0.heap.size (fun _ => True) v1 (ts ++ [p]) ∧ Below w0.heap.size w0 w' ∧ ∀ k, k < w.heap.size → k ≠ g → (∀ cs, w.heap[k]? ≠ some (.cells cs 23 (0, 0))) → w'.heap[k]? = w.heap[k]? := by
  have HB := Aside0.mk hb
  have HC := Aside0.mk hc
  have HG := Aside0.mk hg
  have LOW := Aside0.mk low
  have HR := Aside0.mk hR
  have HN := Aside0.mk hn
  have hz0 := (blk_cell hb 4).trans hc
  obtain ⟨A0, c0, e0⟩ := Kd.R_slice hR
  subst e0
  have hlt : decide ((ts.length : Int) < 300) = true := decide_eq_true (by omega)
  clear hb hc hg low hR hn
  go_enter Tryz.func76, Tryz.ntmps76
  go_wp2_with (((with_reducible refine gate_builtin (b := .append) (xs := #[.tmp 14, .tmp 16]) rfl ?_); at_builtin; refine Kd.R_append KS (w0 := w0) (W := w) w0.heap.size rfl (.tmp 14) (.tmp 16) 42 23 (.slice none 0 0) 24 rfl Tryz.underlying42 infoAddLongs rfl (by decide) (by decide) (.slice A0 ts.length c0) ts p [slT p] (fun _ => True) (fun _ => False) rfl rfl rfl (fun _ hk => hk.elim) (fun _ _ => trivial) HR.out LOW.out LOW.out.size (by have := HN.out; omega) ?_; intro v1 w1 hr1 hlow hgr _; obtain ⟨Ao, co, eo⟩ := Kd.R_slice hr1; obtain ⟨nn, hnn⟩ : ∃ nn, nn = (ts ++ [p]).length := ⟨_, rfl⟩; rw [← hnn] at eo; subst eo; have hnb := row_not_bag HB.out HR.out (by decide); have hbk := (hgr.block g (blk_lt HB.out) hnb).trans HB.out; have HB1 := Aside0.mk hbk; have hz1 := (blk_cell hbk 4).trans HC.out; have hzf := blk_frozen hbk 4; have HR1 := Aside0.mk hr1; have LOW1 := Aside0.mk hlow; have HG1 := Aside0.mk hgr; clear hr1 hlow hgr hnb hbk hnn))
  refine Go.Great.bodyPost_end0 rfl rfl ?_
  refine ⟨rfl, .slice Ao nn co, blk_set HB1.out 4 _, ?_, ?_, ?_⟩
  · exact Kd.R_set HR1.out HB1.out (fun q hq => by
      rcases List.mem_cons.1 hq with h | h
      · rw [h]; decide
      · cases h) 4 _
  · exact below_set LOW1.out HG.out
  · intro k hk hkg hkt
    refine (Below.heap_setCell _ _ _ k hkg).trans (HG1.out.block k hk (fun h => ?_))
    obtain ⟨_, _, _, q, hq, cells, hcc⟩ := (Kd.R_bound HR.out).1 k h.symm
    rcases List.mem_cons.1 hq with h | h
    · subst h; exact hkt cells hcc
    · cases h
theorem infoAddWords : (Tryz.prog.info? 22).map (fun i => (i.zero, i.size, i.bytes)) = some (some (.slice none 0 0), 1, 24) := by kernel_rfl
set_option maxHeartbeats 8000000 in
set_option maxRecDepth 100000 in
theorem addWords.calls (w0 w : World) (g : Nat) (cg : Array Value) (ts : List Tri) (v : Value) (hb : w.heap[g]? = some (.cells cg 56 (0, 0))) (hc : cg[5]? = some v) (hg : w0.heap.size ≤ g) (low : Below w0.heap.size w0 w) (hR : KS.R 22 w w0.heap.size (fun _ => True) v ts) (hn : ts.length < 300) (p : Tri) :
    Calls Tryz.prog 75 #[.pointer (some ⟨g, 0, none⟩), .slice p.1 p.2.1 p.2.2] w fun e w' => e = .returned (.tuple #[]) ∧ ∃ v1, w'.heap[g]? = some (.cells (cg.setIfInBounds 5 v1) 56 (0, 0)) ∧ KS.R 22 w' w0.heap.size (fun _ => True) v1 (ts ++ [p]) ∧ Below w0.heap.size w0 w' ∧ ∀ k, k < w.heap.size → k ≠ g → (∀ cs, w.heap[k]? ≠ some (.cells cs 22 (0, 0))) → w'.heap[k]? = w.heap[k]? := by
  have HB := Aside0.mk hb
  have HC := Aside0.mk hc
  have HG := Aside0.mk hg
  have LOW := Aside0.mk low
  have HR := Aside0.mk hR
  have HN := Aside0.mk hn
  have hz0 := (blk_cell hb 5).trans hc
  obtain ⟨A0, c0, e0⟩ := Kd.R_slice hR
  subst e0
  have hlt : decide ((ts.length : Int) < 300) = true := decide_eq_true (by omega)
  clear hb hc hg low hR hn
  go_enter Tryz.func75, Tryz.ntmps75
  go_wp2_with (((with_reducible refine gate_builtin (b := .append) (xs := #[.tmp 14, .tmp 16]) rfl ?_); at_builtin; refine Kd.R_append KS (w0 := w0) (W := w) w0.heap.size rfl (.tmp 14) (.tmp 16) 43 22 (.slice none 0 0) 24 rfl Tryz.underlying43 infoAddWords rfl (by decide) (by decide) (.slice A0 ts.length c0) ts p [slT p] (fun _ => True) (fun _ => False) rfl rfl rfl (fun _ hk => hk.elim) (fun _ _ => trivial) HR.out LOW.out LOW.out.size (by have := HN.out; omega) ?_; intro v1 w1 hr1 hlow hgr _; obtain ⟨Ao, co, eo⟩ := Kd.R_slice hr1; obtain ⟨nn, hnn⟩ : ∃ nn, nn = (ts ++ [p]).length := ⟨_, rfl⟩; rw [← hnn] at eo; subst eo; have hnb := row_not_bag HB.out HR.out (by decide); have hbk := (hgr.block g (blk_lt HB.out) hnb).trans HB.out; have HB1 := Aside0.mk hbk; have hz1 := (blk_cell hbk 5).trans HC.out; have hzf := blk_frozen hbk 5; have HR1 := Aside0.mk hr1; have LOW1 := Aside0.mk hlow; have HG1 := Aside0.mk hgr; clear hr1 hlow hgr hnb hbk hnn))
  refine Go.Great.bodyPost_end0 rfl rfl ?_
  refine ⟨rfl, .slice Ao nn co, blk_set HB1.out 5 _, ?_, ?_, ?_⟩
  · exact Kd.R_set HR1.out HB1.out (fun q hq => by
      rcases List.mem_cons.1 hq with h | h
      · rw [h]; decide
      · cases h) 5 _
  · exact below_set LOW1.out HG.out
  · intro k hk hkg hkt
    refine (Below.heap_setCell _ _ _ k hkg).trans (HG1.out.block k hk (fun h => ?_))
    obtain ⟨_, _, _, q, hq, cells, hcc⟩ := (Kd.R_bound HR.out).1 k h.symm
    rcases List.mem_cons.1 hq with h | h
    · subst h; exact hkt cells hcc
    · cases h
theorem infoAddSymbols : (Tryz.prog.info? 24).map (fun i => (i.zero, i.size, i.bytes)) = some (some (.slice none 0 0), 1, 24) := by kernel_rfl
set_option maxHeartbeats 8000000 in
set_option maxRecDepth 100000 in
theorem addSymbols.calls (w0 w : World) (g : Nat) (cg : Array Value) (ts : List Tri) (v : Value) (hb : w.heap[g]? = some (.cells cg 56 (0, 0))) (hc : cg[8]? = some v) (hg : w0.heap.size ≤ g) (low : Below w0.heap.size w0 w) (hR : KS.R 24 w w0.heap.size (fun _ => True) v ts) (hn : ts.length < 300) (p : Tri) :
    Calls Tryz.prog 77 #[.pointer (some ⟨g, 0, none⟩), .slice p.1 p.2.1 p.2.2] w fun e w' => e = .returned (.tuple #[]) ∧ ∃ v1, w'.heap[g]? = some (.cells (cg.setIfInBounds 8 v1) 56 (0, 0)) ∧ KS.R 24 w' w0.heap.size (fun _ => True) v1 (ts ++ [p]) ∧ Below w0.heap.size w0 w' ∧ ∀ k, k < w.heap.size → k ≠ g → (∀ cs, w.heap[k]? ≠ some (.cells cs 24 (0, 0))) → w'.heap[k]? = w.heap[k]? := by
  have HB := Aside0.mk hb
  have HC := Aside0.mk hc
  have HG := Aside0.mk hg
  have LOW := Aside0.mk low
  have HR := Aside0.mk hR
  have HN := Aside0.mk hn
  have hz0 := (blk_cell hb 8).trans hc
  obtain ⟨A0, c0, e0⟩ := Kd.R_slice hR
  subst e0
  have hlt : decide ((ts.length : Int) < 300) = true := decide_eq_true (by omega)
  clear hb hc hg low hR hn
  go_enter Tryz.func77, Tryz.ntmps77
  go_wp2_with (((with_reducible refine gate_builtin (b := .append) (xs := #[.tmp 14, .tmp 16]) rfl ?_); at_builtin; refine Kd.R_append KS (w0 := w0) (W := w) w0.heap.size rfl (.tmp 14) (.tmp 16) 46 24 (.slice none 0 0) 24 rfl Tryz.underlying46 infoAddSymbols rfl (by decide) (by decide) (.slice A0 ts.length c0) ts p [slT p] (fun _ => True) (fun _ => False) rfl rfl rfl (fun _ hk => hk.elim) (fun _ _ => trivial) HR.out LOW.out LOW.out.size (by have := HN.out; omega) ?_; intro v1 w1 hr1 hlow hgr _; obtain ⟨Ao, co, eo⟩ := Kd.R_slice hr1; obtain ⟨nn, hnn⟩ : ∃ nn, nn = (ts ++ [p]).length := ⟨_, rfl⟩; rw [← hnn] at eo; subst eo; have hnb := row_not_bag HB.out HR.out (by decide); have hbk := (hgr.block g (blk_lt HB.out) hnb).trans HB.out; have HB1 := Aside0.mk hbk; have hz1 := (blk_cell hbk 8).trans HC.out; have hzf := blk_frozen hbk 8; have HR1 := Aside0.mk hr1; have LOW1 := Aside0.mk hlow; have HG1 := Aside0.mk hgr; clear hr1 hlow hgr hnb hbk hnn))
  refine Go.Great.bodyPost_end0 rfl rfl ?_
  refine ⟨rfl, .slice Ao nn co, blk_set HB1.out 8 _, ?_, ?_, ?_⟩
  · exact Kd.R_set HR1.out HB1.out (fun q hq => by
      rcases List.mem_cons.1 hq with h | h
      · rw [h]; decide
      · cases h) 8 _
  · exact below_set LOW1.out HG.out
  · intro k hk hkg hkt
    refine (Below.heap_setCell _ _ _ k hkg).trans (HG1.out.block k hk (fun h => ?_))
    obtain ⟨_, _, _, q, hq, cells, hcc⟩ := (Kd.R_bound HR.out).1 k h.symm
    rcases List.mem_cons.1 hq with h | h
    · subst h; exact hkt cells hcc
    · cases h
theorem infoAddRelocs : (Tryz.prog.info? 25).map (fun i => (i.zero, i.size, i.bytes)) = some (some (.slice none 0 0), 1, 24) := by kernel_rfl
set_option maxHeartbeats 8000000 in
set_option maxRecDepth 100000 in
theorem addRelocs.calls (w0 w : World) (g : Nat) (cg : Array Value) (ts : List Tri) (v : Value) (hb : w.heap[g]? = some (.cells cg 56 (0, 0))) (hc : cg[9]? = some v) (hg : w0.heap.size ≤ g) (low : Below w0.heap.size w0 w) (hR : KS.R 25 w w0.heap.size (fun _ => True) v ts) (hn : ts.length < 300) (p : Tri) :
    Calls Tryz.prog 78 #[.pointer (some ⟨g, 0, none⟩), .slice p.1 p.2.1 p.2.2] w fun e w' => e = .returned (.tuple #[]) ∧ ∃ v1, w'.heap[g]? = some (.cells (cg.setIfInBounds 9 v1) 56 (0, 0)) ∧ KS.R 25 w' w0.heap.size (fun _ => True) v1 (ts ++ [p]) ∧ Below w0.heap.size w0 w' ∧ ∀ k, k < w.heap.size → k ≠ g → (∀ cs, w.heap[k]? ≠ some (.cells cs 25 (0, 0))) → w'.heap[k]? = w.heap[k]? := by
  have HB := Aside0.mk hb
  have HC := Aside0.mk hc
  have HG := Aside0.mk hg
  have LOW := Aside0.mk low
  have HR := Aside0.mk hR
  have HN := Aside0.mk hn
  have hz0 := (blk_cell hb 9).trans hc
  obtain ⟨A0, c0, e0⟩ := Kd.R_slice hR
  subst e0
  have hlt : decide ((ts.length : Int) < 300) = true := decide_eq_true (by omega)
  clear hb hc hg low hR hn
  go_enter Tryz.func78, Tryz.ntmps78
  go_wp2_with (((with_reducible refine gate_builtin (b := .append) (xs := #[.tmp 14, .tmp 16]) rfl ?_); at_builtin; refine Kd.R_append KS (w0 := w0) (W := w) w0.heap.size rfl (.tmp 14) (.tmp 16) 47 25 (.slice none 0 0) 24 rfl Tryz.underlying47 infoAddRelocs rfl (by decide) (by decide) (.slice A0 ts.length c0) ts p [slT p] (fun _ => True) (fun _ => False) rfl rfl rfl (fun _ hk => hk.elim) (fun _ _ => trivial) HR.out LOW.out LOW.out.size (by have := HN.out; omega) ?_; intro v1 w1 hr1 hlow hgr _; obtain ⟨Ao, co, eo⟩ := Kd.R_slice hr1; obtain ⟨nn, hnn⟩ : ∃ nn, nn = (ts ++ [p]).length := ⟨_, rfl⟩; rw [← hnn] at eo; subst eo; have hnb := row_not_bag HB.out HR.out (by decide); have hbk := (hgr.block g (blk_lt HB.out) hnb).trans HB.out; have HB1 := Aside0.mk hbk; have hz1 := (blk_cell hbk 9).trans HC.out; have hzf := blk_frozen hbk 9; have HR1 := Aside0.mk hr1; have LOW1 := Aside0.mk hlow; have HG1 := Aside0.mk hgr; clear hr1 hlow hgr hnb hbk hnn))
  refine Go.Great.bodyPost_end0 rfl rfl ?_
  refine ⟨rfl, .slice Ao nn co, blk_set HB1.out 9 _, ?_, ?_, ?_⟩
  · exact Kd.R_set HR1.out HB1.out (fun q hq => by
      rcases List.mem_cons.1 hq with h | h
      · rw [h]; decide
      · cases h) 9 _
  · exact below_set LOW1.out HG.out
  · intro k hk hkg hkt
    refine (Below.heap_setCell _ _ _ k hkg).trans (HG1.out.block k hk (fun h => ?_))
    obtain ⟨_, _, _, q, hq, cells, hcc⟩ := (Kd.R_bound HR.out).1 k h.symm
    rcases List.mem_cons.1 hq with h | h
    · subst h; exact hkt cells hcc
    · cases h
end Go.Proofs.YtiaohbbafaaibabGreatDoor.P

/- OWN TEXT: Bag.apartBytes, walked: lists of bytes that share no memory. -/
namespace Go.Proofs.YtiaohbbafaaibabGreatDoor.P
open Go.RowKit Go.Proofs.YtiaohbbafaaibabGreatDoorW.PrintWords Go.Proofs.YtiaohbbafaaibabGreatDoorW.PrintLast Go.Proofs.YtiaohbbafaaibabGreatDoorW.PrintMore Go.Proofs.YtiaohbbafaaibabGreatDoor.Arr
set_option linter.unusedVariables false
set_option linter.unusedSimpArgs false
def mkBytes (n i : Nat) : List Value := [.int .u8 (IntKind.u8.wrap (31 * (n : Int) + 7 * (i : Int) + 3))]
theorem mkBytes_len (n i : Nat) : (mkBytes n i).length = 1 := rfl
theorem mkBytes_one (n i : Nat) : ∀ u ∈ mkBytes n i, u.oneCell' = true := by
 intro u hu
 rw [List.mem_singleton.1 hu]
 rfl
theorem info_ap31 : (Tryz.prog.info? 31).map (fun i => (i.zero, i.size, i.bytes)) = some (some (.slice none 0 0), 1, 24) := by kernel_rfl
def P1 (E s : Nat) (mk : Nat → Nat → List Value) (w0 w W : World) (M : Nat) (A : Nat → Option Addr) (L C : Nat → Nat) (own : Nat → Nat) (n i : Nat) : Prop :=
 St w0 w W E ∧ ∀ m, m < M → Fl W w0.heap.size E s own mk m (A m) (L m) (C m) (if m < n then L m else if m = n then i else 0)
section
variable {E s : Nat} {mk : Nat → Nat → List Value} {w0 w W W1 : World} {M : Nat} {A : Nat → Option Addr} {L C : Nat → Nat} {own : Nat → Nat} {n i : Nat}
theorem P1.start (h : St w0 w W E) (hr : ∀ m, m < M → Fl W w0.heap.size E s own mk m (A m) (L m) (C m) 0) : P1 E s mk w0 w W M A L C own 0 0 := ⟨h, fun m hm => by
  rw [if_neg (by omega)]
  by_cases he : m = 0
  · rw [if_pos he]; exact hr m hm
  · rw [if_neg he]; exact hr m hm⟩
theorem P1.now (h : P1 E s mk w0 w W M A L C own n i) (hn : n < M) : Fl W w0.heap.size E s own mk n (A n) (L n) (C n) i := by
 have := h.2 n hn
 rw [if_neg (by omega), if_pos rfl] at this
 exact this
theorem P1.put (h : P1 E s mk w0 w W M A L C own n i) (hn : n < M) (hmk : ∀ n i, (mk n i).length = s) {b : Nat} {cs : Array Value} (hA : A n = some ⟨b, 0, none⟩) (ho : own b = n) (hB : w0.heap.size ≤ b) (hi : i < L n) (hw : Wrote W W1 b E s i (mk n i) cs) : P1 E s mk w0 w W1 M A L C own n (i + 1) :=
  ⟨h.1.row hw.grown hw.old hB, fun m hm => by
    by_cases he : m = n
    · subst he
      rw [if_neg (by omega), if_pos rfl]
      have h1 := h.now hn
      rw [hA] at h1 ⊢
      exact h1.fill hmk hi hw
    · have h1 := h.2 m hm
      rw [if_neg he] at h1 ⊢
      exact h1.put hmk hw ho⟩
theorem P1.next (h : P1 E s mk w0 w W M A L C own n (L n)) : P1 E s mk w0 w W M A L C own (n + 1) 0 := ⟨h.1, fun m hm => by
  have h1 := h.2 m hm
  by_cases hl : m < n
  · rw [if_pos hl] at h1; rw [if_pos (by omega)]; exact h1
  · rw [if_neg hl] at h1
    by_cases he : m = n
    · subst he; rw [if_pos rfl] at h1; rw [if_pos (by omega)]; exact h1
    · rw [if_neg he] at h1
      rw [if_neg (by omega)]
      by_cases he2 : m = n + 1
      · rw [if_pos he2]; exact h1
      · rw [if_neg he2]; exact h1⟩
theorem P1.full (h : P1 E s mk w0 w W M A L C own M i) : ∀ m, m < M → Fl W w0.heap.size E s own mk m (A m) (L m) (C m) (L m) := fun m hm => by
 have h1 := h.2 m hm
 rw [if_pos hm] at h1
 exact h1
end
set_option maxHeartbeats 60000000 in
set_option maxRecDepth 100000 in
theorem apBytes.calls (w0 w : World) (g o_ : Nat) (cg co : Array Value) (M capO : Nat) (A : Nat → Option Addr) (L C : Nat → Nat) (own : Nat → Nat) (hbag : w.heap[g]? = some (.cells cg 56 (0, 0))) (hc : cg[0]? = some (.slice (some ⟨o_, 0, none⟩) M capO)) (ho : w.heap[o_]? = some (.cells co 31 (0, 0))) (hco : ∀ m, m < M → co[m]? = some (.slice (A m) (L m) (C m))) (hM : M ≤ 300) (hL : ∀ m, L m ≤ 1000000000) (low : Below w0.heap.size w0 w) (hrows : ∀ m, m < M → Fl w w0.heap.size 5 1 own mkBytes m (A m) (L m) (C m) 0) :
  Calls Tryz.prog 40 #[.pointer (some ⟨g, 0, none⟩)] w fun e w' => e = .returned (.bool true) ∧ St w0 w w' 5 := by
 have HBAG := Aside0.mk hbag
 have HC := Aside0.mk hc
 have HO := Aside0.mk ho
 have HCO := Aside0.mk hco
 have HM := Aside0.mk hM
 have HL := Aside0.mk hL
 have HP := Aside0.mk (P1.start (St.refl low) hrows)
 clear hbag hc ho hco hM hL low hrows
 go_enter Tryz.func40, Tryz.ntmps40
 go_wp2
 go_loopw [3] (fun u3 wr => ∃ n : Nat, u3 = .int .i64 (n : Int) ∧ n ≤ M ∧ Aside0 (P1 5 1 mkBytes w0 w wr M A L C own n 0)) (fun u3 _ => M - (intOf u3).toNat)
 case atStart => exact ⟨0, rfl, Nat.zero_le _, HP⟩
 case round =>
  clear HP
  obtain ⟨n, rfl, hnle, HP⟩ := hrel
  have hb0 := (blk_cell (HP.out.1.blk HBAG.out (by decide)) 0).trans HC.out
  by_cases hlt : n < M
  ·
   have HN := Aside0.mk hlt
   have hltb : decide ((n : Int) < (M : Int)) = true := decide_eq_true (by omega)
   have p0t : ((0 : Int) ≤ (n : Int)) = True := eq_true (by omega)
   have q0t : ((n : Int) < (M : Int)) = True := eq_true (by omega)
   have bn : (n : Int) ≤ 300 := by have := HM.out; omega
   have hv0 := (blk_cell (HP.out.1.blk HO.out (by decide)) n).trans (HCO.out n HN.out)
   clear hlt hnle
   go_wp2
   go_loopw [4] (fun u4 wr => ∃ i : Nat, u4 = .int .i64 (i : Int) ∧ i ≤ L n ∧ Aside0 (P1 5 1 mkBytes w0 w wr M A L C own n i)) (fun u4 _ => L n - (intOf u4).toNat)
   case atStart => exact ⟨0, rfl, Nat.zero_le _, HP⟩
   case round =>
    clear HP hb0 hv0
    obtain ⟨i, rfl, hile, HP⟩ := hrel
    have hb0 := (blk_cell (HP.out.1.blk HBAG.out (by decide)) 0).trans HC.out
    have hv0 := (blk_cell (HP.out.1.blk HO.out (by decide)) n).trans (HCO.out n HN.out)
    by_cases hli : i < L n
    ·
     have HI := Aside0.mk hli
     have hlib : decide ((i : Int) < (L n : Int)) = true := decide_eq_true (by omega)
     have p1t : ((0 : Int) ≤ (i : Int)) = True := eq_true (by omega)
     have q1t : ((i : Int) < (L n : Int)) = True := eq_true (by omega)
     have bi : (i : Int) ≤ 1000000000 := by have := HL.out n; omega
     obtain ⟨b, cs, hA, hblk, hown, hB, hcs, hlc⟩ := (HP.out.now HN.out).blk (by omega)
     have HF := Aside0.mk (And.intro hA (And.intro hblk (And.intro hown (And.intro hB (And.intro hcs hlc)))))
     rw [hA] at hv0
     obtain ⟨old, hold⟩ : ∃ old, cs[i]? = some old := ⟨_, Array.getElem?_eq_getElem (by omega)⟩
     have hcl := (blk_cell hblk i).trans hold
     have hfz := blk_frozen hblk i
     clear hA hblk hown hB hcs hlc hli hile hold
     go_wp2
     go_roundw
     case measure => have hq := HI.out; simp only [intOf]; omega
     case rel => exact ⟨i + 1, by first | rfl | go_num, by have := HI.out; omega, ⟨HP.out.put HN.out mkBytes_len HF.out.1 HF.out.2.2.1 HF.out.2.2.2.1 HI.out (Wrote.set _ HF.out.2.1 (by have h1 := HF.out.2.2.2.2.1; have h2 := HF.out.2.2.2.2.2; have h3 := HI.out; omega))⟩⟩
    ·
     have hie : i = L n := by omega
     subst hie
     have hlib : decide ((L n : Int) < (L n : Int)) = false := by simp
     clear hli hile
     go_wp2
     go_roundw
     case measure => have hq := HN.out; simp only [intOf]; omega
     case rel => exact ⟨n + 1, by first | rfl | go_num, by have := HN.out; omega, ⟨HP.out.next⟩⟩
  ·
   have hne : n = M := by omega
   subst hne
   have hltb : decide ((n : Int) < (n : Int)) = false := by simp
   have HP2 := Aside0.mk (show ∃ own, P2 5 31 1 mkBytes w0 w _ n A L C own 0 0 (.slice none 0 0) (.slice none 0 0) from ⟨own, HP.out.1, HP.out.full, Col.nil, Col.nil, fun k hk => by simp [Value.ownBlock] at hk⟩)
   clear hlt hnle HP
   go_wp2
   go_loopw [5, 6, 7] (fun u5 u6 u7 wr => ∃ m : Nat, u7 = .int .i64 (m : Int) ∧ m ≤ n ∧ Aside0 (∃ own, P2 5 31 1 mkBytes w0 w wr n A L C own m m u5 u6)) (fun _ _ u7 _ => n - (intOf u7).toNat)
   case atStart => exact ⟨0, rfl, Nat.zero_le _, HP2⟩
   case round =>
    clear HP2
    obtain ⟨m, rfl, hmle, HP⟩ := hrel
    obtain ⟨own1, hP⟩ := HP.out
    have HP := Aside0.mk hP
    clear hP
    have hb0 := (blk_cell (HP.out.st.blk HBAG.out (by decide)) 0).trans HC.out
    obtain ⟨A5, c5, e5⟩ := HP.out.one.form
    obtain ⟨A6, c6, e6⟩ := HP.out.more.form
    subst e5 e6
    by_cases hlt : m < n
    ·
     have HN := Aside0.mk hlt
     have hltb : decide ((m : Int) < (n : Int)) = true := decide_eq_true (by omega)
     have p0t : ((0 : Int) ≤ (m : Int)) = True := eq_true (by omega)
     have q0t : ((m : Int) < (n : Int)) = True := eq_true (by omega)
     have bn : (m : Int) ≤ 300 := by have := HM.out; omega
     have bl : ((L m : Nat) : Int) ≤ 1000000000 := by have := HL.out m; omega
     have hv0 := (blk_cell (HP.out.st.blk HO.out (by decide)) m).trans (HCO.out m HN.out)
     clear hlt hmle
     go_wp2
     go_loopw [5, 8, 9] (fun u5 u8 u9 wr => ∃ i : Nat, u9 = .int .i64 (i : Int) ∧ L m ≤ i ∧ i ≤ L m + 70 ∧ ∃ Al cap, u8 = .slice Al i cap ∧ Aside0 (∃ own, P2 5 31 1 mkBytes w0 w wr n A L C own (if i = L m then m else m + 1) m u5 (.slice A6 m c6) ∧ Fl wr w0.heap.size 5 1 own mkBytes m Al i cap i)) (fun _ _ u9 _ => L m + 70 - (intOf u9).toNat)
     case atStart => exact ⟨L m, rfl, Nat.le_refl _, by omega, A m, C m, rfl, ⟨own1, by rw [if_pos rfl]; exact HP.out, HP.out.rows m HN.out⟩⟩
     case round =>
      clear HP hb0 hv0
      obtain ⟨i, rfl, hlo, hile, Al, cap, rfl, HP⟩ := hrel
      obtain ⟨own2, hP, hF⟩ := HP.out
      have HP := Aside0.mk (And.intro hP hF)
      clear hP hF
      have hb0 := (blk_cell (HP.out.1.st.blk HBAG.out (by decide)) 0).trans HC.out
      have hv0 := (blk_cell (HP.out.1.st.blk HO.out (by decide)) m).trans (HCO.out m HN.out)
      obtain ⟨A5, c5, e5⟩ := HP.out.1.one.form
      subst e5
      have bi : (i : Int) ≤ 2000000000 := by have := HL.out m; omega
      have HILE := Aside0.mk hile
      by_cases hli : i < L m + 70
      ·
       have HI := Aside0.mk hli
       have hlib : decide ((i : Int) < (L m : Int) + 70) = true := decide_eq_true (by omega)
       clear hli hile
       by_cases hie : i = L m
       ·
        subst_vars
        have heq : ((L m : Int) == (L m : Int)) = true := beq_self_eq_true _
        rw [if_pos rfl] at HP ⊢
        clear hlo
        go_wp2_with (first | ((with_reducible refine gate_builtin (b := .append) (xs := #[.tmp 82, .tmp 90]) rfl ?_); at_builtin; refine P2.app_l HP.out.1 (by decide) mkBytes_len mkBytes_one rfl (.tmp 82) (.tmp 90) 31 rfl (.int .u8 0) 1 Tryz.underlying31 info_byte rfl (by decide) HP.out.2 rfl rfl (by have := HILE.out; have := HL.out m; omega) (by decide) _ rfl ?_; intro A1 cap1 own3 w1 hP1 hF1; have HP1 := Aside0.mk (And.intro hP1 hF1); have hb1 := (blk_cell (hP1.st.blk HBAG.out (by decide)) 0).trans HC.out; have hv1 := (blk_cell (hP1.st.blk HO.out (by decide)) m).trans (HCO.out m HN.out); clear hP1 hF1 hb0 hv0 HP) | ((with_reducible refine gate_builtin (b := .append) (xs := #[.tmp 102, .tmp 104]) rfl ?_); at_builtin; refine P2.app_one HP1.out.1 (by decide) rfl (.tmp 102) (.tmp 104) 38 rfl Tryz.underlying38 info_ap31 rfl rfl (by have := HN.out; have := HM.out; omega) HP1.out.2 ?_; intro v1 w2 hP2 hmv; have HP2 := Aside0.mk (And.intro hP2 (hmv _ _ _ _ _ HP1.out.2)); clear hP2 hmv hb1 hv1 HP1))
        go_roundw
        case measure => simp only [intOf]; omega
        case rel => exact ⟨L m + 1, by first | rfl | go_num, by omega, by omega, _, _, rfl, ⟨_, by rw [if_neg (by omega)]; exact HP2.out.1, HP2.out.2⟩⟩
       ·
        have hieb : ((i : Int) == (L m : Int)) = false := beq_eq_false_iff_ne.mpr (by omega)
        have HNE := Aside0.mk hie
        rw [if_neg hie] at HP ⊢
        have HLO := Aside0.mk hlo
        clear hlo hie
        go_wp2_with (first | ((with_reducible refine gate_builtin (b := .append) (xs := #[.tmp 82, .tmp 90]) rfl ?_); at_builtin; refine P2.app_l HP.out.1 (by decide) mkBytes_len mkBytes_one rfl (.tmp 82) (.tmp 90) 31 rfl (.int .u8 0) 1 Tryz.underlying31 info_byte rfl (by decide) HP.out.2 rfl rfl (by have := HILE.out; have := HL.out m; omega) (by decide) _ rfl ?_; intro A1 cap1 own3 w1 hP1 hF1; have HP1 := Aside0.mk (And.intro hP1 hF1); have hb1 := (blk_cell (hP1.st.blk HBAG.out (by decide)) 0).trans HC.out; have hv1 := (blk_cell (hP1.st.blk HO.out (by decide)) m).trans (HCO.out m HN.out); clear hP1 hF1 hb0 hv0 HP))
        go_roundw
        case measure => have hq := HI.out; simp only [intOf]; omega
        case rel => exact ⟨i + 1, by first | rfl | go_num, by have := HLO.out; omega, by have := HI.out; omega, _, _, rfl, ⟨_, by rw [if_neg (by have := HLO.out; omega)]; exact HP1.out.1, HP1.out.2⟩⟩
      ·
       have hie : i = L m + 70 := by omega
       subst hie
       have hlib : decide (((L m + 70 : Nat) : Int) < (L m : Int) + 70) = false := decide_eq_false (by omega)
       rw [if_neg (by omega)] at HP ⊢
       clear hlo hile hli
       go_wp2_with (first | ((with_reducible refine gate_builtin (b := .append) (xs := #[.tmp 106, .tmp 108]) rfl ?_); at_builtin; refine P2.app_more HP.out.1 (by decide) rfl (.tmp 106) (.tmp 108) 38 rfl Tryz.underlying38 info_ap31 rfl rfl (by have := HN.out; have := HM.out; omega) HP.out.2 ?_; intro v1 w1 hP1; have HP1 := Aside0.mk hP1; clear hP1 hb0 hv0 HP))
       go_roundw
       case measure => have hq := HN.out; simp only [intOf]; omega
       case rel => exact ⟨m + 1, by first | rfl | go_num, by have := HN.out; omega, ⟨_, HP1.out⟩⟩
    ·
     have hme : m = n := by omega
     subst hme
     have hltb : decide ((m : Int) < (m : Int)) = false := by simp
     clear hlt hmle
     go_wp2
     go_loop [10] (fun u10 => ∃ q : Nat, u10 = .int .i64 (q : Int) ∧ q ≤ m) (fun u10 => m - (intOf u10).toNat)
     case atStart => exact ⟨0, rfl, Nat.zero_le _⟩
     case round =>
      obtain ⟨q, rfl, hqle⟩ := hrel
      by_cases hlt : q < m
      ·
       have HN := Aside0.mk hlt
       have hltb : decide ((q : Int) < (m : Int)) = true := decide_eq_true (by omega)
       have p0t : ((0 : Int) ≤ (q : Int)) = True := eq_true (by omega)
       have q0t : ((q : Int) < (m : Int)) = True := eq_true (by omega)
       have bn : (q : Int) ≤ 300 := by have := HM.out; omega
       have bl : ((L q : Nat) : Int) ≤ 1000000000 := by have := HL.out q; omega
       have hv0 := (blk_cell (HP.out.st.blk HO.out (by decide)) q).trans (HCO.out q HN.out)
       obtain ⟨g5, x5, B5, y5, e5, hc5, hf5⟩ := HP.out.one.at HN.out
       obtain ⟨g6, x6, B6, y6, e6, hc6, hf6⟩ := HP.out.more.at HN.out
       injection e5 with e51 e52 e53
       injection e6 with e61 e62 e63
       subst e51 e53 e61 e63
       obtain ⟨b5, _, rfl, _⟩ := hf5.blk (by omega)
       obtain ⟨b6, _, rfl, _⟩ := hf6.blk (by omega)
       have HF5 := Aside0.mk hf5
       have HF6 := Aside0.mk hf6
       clear e52 e62 hf5 hf6 hlt hqle
       go_wp2
       go_loop [11] (fun u11 => ∃ i : Nat, u11 = .int .i64 (i : Int) ∧ i ≤ L q + 70) (fun u11 => L q + 70 - (intOf u11).toNat)
       case atStart => exact ⟨0, rfl, Nat.zero_le _⟩
       case round =>
        obtain ⟨i, rfl, hile⟩ := hrel
        have bi : (i : Int) ≤ 2000000000 := by have := HL.out q; omega
        by_cases hli : i < L q + 70
        ·
         have HI := Aside0.mk hli
         have hlib : decide ((i : Int) < ((L q + 70 : Nat) : Int)) = true := decide_eq_true (by omega)
         have hlib2 : decide ((i : Int) < (L q : Int) + 70) = true := decide_eq_true (by omega)
         have p1t : ((0 : Int) ≤ (i : Int)) = True := eq_true (by omega)
         have q1t : ((i : Int) < ((L q + 70 : Nat) : Int)) = True := eq_true (by omega)
         have q1u : ((i : Int) < (L q : Int) + 70) = True := eq_true (by omega)
         have hm6 := HF6.out.cell hli (j := 0) (u := .int .u8 (IntKind.u8.wrap (31 * (q : Int) + 7 * (i : Int) + 3))) rfl
         rw [Nat.mul_one, Nat.add_zero] at hm6
         by_cases h1 : i < L q
         ·
          have t1 : decide ((i : Int) < (L q : Int)) = true := decide_eq_true (by omega)
          have t2 : ((i : Int) == (L q : Int)) = false := beq_eq_false_iff_ne.mpr (by omega)
          have q2t : ((i : Int) < (L q : Int)) = True := eq_true (by omega)
          obtain ⟨b0, _, hA0, _⟩ := (HP.out.rows q HN.out).blk (by omega)
          have hf0 := HP.out.rows q HN.out
          rw [hA0] at hf0 hv0
          have hm0 := hf0.cell h1 (j := 0) (u := .int .u8 (IntKind.u8.wrap (31 * (q : Int) + 7 * (i : Int) + 3))) rfl
          rw [Nat.mul_one, Nat.add_zero] at hm0
          clear hA0 hf0 h1 hli hile
          go_wp2
          go_round
          case measure => have hq := HI.out; simp only [intOf]; omega
          case rel => exact ⟨i + 1, by first | rfl | go_num, by have := HI.out; omega⟩
         ·
          have t1 : decide ((i : Int) < (L q : Int)) = false := decide_eq_false (by omega)
          have t1f : ((i : Int) < (L q : Int)) = False := eq_false (by omega)
          have t1n : (i < L q) = False := eq_false h1
          by_cases h2 : i = L q
          ·
           have t2 : ((i : Int) == (L q : Int)) = true := beq_iff_eq.mpr (by omega)
           have q3t : ((i : Int) < ((L q + 1 : Nat) : Int)) = True := eq_true (by omega)
           have q3u : ((i : Int) < (L q : Int) + 1) = True := eq_true (by omega)
           have hm5 := HF5.out.cell (show i < L q + 1 by omega) (j := 0) (u := .int .u8 (IntKind.u8.wrap (31 * (q : Int) + 7 * (i : Int) + 3))) rfl
           rw [Nat.mul_one, Nat.add_zero] at hm5
           clear h1 h2 hli hile
           go_wp2
           go_round
           case measure => have hq := HI.out; simp only [intOf]; omega
           case rel => exact ⟨i + 1, by first | rfl | go_num, by have := HI.out; omega⟩
          ·
           have t2 : ((i : Int) == (L q : Int)) = false := beq_eq_false_iff_ne.mpr (by omega)
           clear h1 h2 hli hile
           go_wp2
           go_round
           case measure => have hq := HI.out; simp only [intOf]; omega
           case rel => exact ⟨i + 1, by first | rfl | go_num, by have := HI.out; omega⟩
        ·
         have hie : i = L q + 70 := by omega
         subst hie
         have hlib : decide (((L q + 70 : Nat) : Int) < ((L q + 70 : Nat) : Int)) = false := by simp
         have hlib2 : decide (((L q + 70 : Nat) : Int) < (L q : Int) + 70) = false := decide_eq_false (by omega)
         clear hli hile
         go_wp2
         go_round
         case measure => have hq := HN.out; simp only [intOf]; omega
         case rel => exact ⟨q + 1, by first | rfl | go_num, by have := HN.out; omega⟩
      ·
       have hqe : q = m := by omega
       subst hqe
       have hltb : decide ((q : Int) < (q : Int)) = false := by simp
       clear hlt hqle
       go_wp2
       go_ret
       exact ⟨rfl, HP.out.st⟩
end Go.Proofs.YtiaohbbafaaibabGreatDoor.P

/- OWN TEXT: Bag.apartWords, walked: lists that share no memory. -/
namespace Go.Proofs.YtiaohbbafaaibabGreatDoor.P
open Go.RowKit Go.Proofs.YtiaohbbafaaibabGreatDoorW.PrintWords Go.Proofs.YtiaohbbafaaibabGreatDoorW.PrintLast Go.Proofs.YtiaohbbafaaibabGreatDoorW.PrintMore Go.Proofs.YtiaohbbafaaibabGreatDoor.Arr
set_option linter.unusedVariables false
set_option linter.unusedSimpArgs false
def numI (n i : Nat) : Int := 1048576 * (n : Int) + (i : Int) + 1
theorem numS (n i : Nat) (w : World) (hn : (n : Int) ≤ 300) (hi : (i : Int) ≤ 2000000000) :
  Calls Tryz.prog 79 #[.int .i64 (n : Int), .int .i64 (i : Int)] w fun e w' => e = .returned (.int .i64 (numI n i)) ∧ w' = w := by
 have h1 : wrap64 (1048576 * (n : Int)) = 1048576 * (n : Int) := wrap64_id (by omega) (by omega)
 have h2 : wrap64 (1048576 * (n : Int) + (i : Int)) = 1048576 * (n : Int) + (i : Int) := wrap64_id (by omega) (by omega)
 have h3 : wrap64 (1048576 * (n : Int) + (i : Int) + 1) = numI n i := wrap64_id (by omega) (by omega)
 have HH := Aside0.mk (And.intro h1 (And.intro h2 h3))
 clear h1 h2 h3 hn hi
 go_enter Tryz.func79, Tryz.ntmps79
 go_wp2
 go_ret
 refine ⟨?_, rfl⟩
 show Ending.returned (Value.int .i64 (wrap64 (wrap64 (wrap64 (1048576 * (n : Int)) + (i : Int)) + 1))) = _
 rw [HH.out.1, HH.out.2.1, HH.out.2.2]
theorem P1.below {E s : Nat} {mk : Nat → Nat → List Value} {w0 w W W1 : World} {M : Nat} {A : Nat → Option Addr} {L C : Nat → Nat} {own : Nat → Nat} {n i : Nat} (h : P1 E s mk w0 w W M A L C own n i) (hb : Below W.heap.size W W1) : P1 E s mk w0 w W1 M A L C own n i := ⟨h.1.below hb, fun m hm => (h.2 m hm).below hb⟩
def mkWords (n i : Nat) : List Value := [.int .u32 (numI n i % 4294967296)]
theorem mkWords_len (n i : Nat) : (mkWords n i).length = 1 := rfl
theorem mkWords_one (n i : Nat) : ∀ u ∈ mkWords n i, u.oneCell' = true := by
 intro u hu
 simp only [mkWords, List.mem_cons, List.not_mem_nil, or_false] at hu
 rcases hu with rfl
 rfl
theorem info_ap22 : (Tryz.prog.info? 22).map (fun i => (i.zero, i.size, i.bytes)) = some (some (.slice none 0 0), 1, 24) := by kernel_rfl
set_option maxHeartbeats 60000000 in
set_option maxRecDepth 100000 in
theorem apWords.calls (w0 w : World) (g o_ : Nat) (cg co : Array Value) (M capO : Nat) (A : Nat → Option Addr) (L C : Nat → Nat) (own : Nat → Nat) (hbag : w.heap[g]? = some (.cells cg 56 (0, 0))) (hc : cg[5]? = some (.slice (some ⟨o_, 0, none⟩) M capO)) (ho : w.heap[o_]? = some (.cells co 22 (0, 0))) (hco : ∀ m, m < M → co[m]? = some (.slice (A m) (L m) (C m))) (hM : M ≤ 300) (hL : ∀ m, L m ≤ 1000000000) (low : Below w0.heap.size w0 w) (hrows : ∀ m, m < M → Fl w w0.heap.size 78 1 own mkWords m (A m) (L m) (C m) 0) :
  Calls Tryz.prog 45 #[.pointer (some ⟨g, 0, none⟩)] w fun e w' => e = .returned (.bool true) ∧ St w0 w w' 78 := by
 have hu1 := Tryz.underlying78
 have HBAG := Aside0.mk hbag
 have HC := Aside0.mk hc
 have HO := Aside0.mk ho
 have HCO := Aside0.mk hco
 have HM := Aside0.mk hM
 have HL := Aside0.mk hL
 have HP := Aside0.mk (P1.start (St.refl low) hrows)
 clear hbag hc ho hco hM hL low hrows
 go_enter Tryz.func45, Tryz.ntmps45
 go_wp2
 go_loopw [3] (fun u3 wr => ∃ n : Nat, u3 = .int .i64 (n : Int) ∧ n ≤ M ∧ Aside0 (P1 78 1 mkWords w0 w wr M A L C own n 0)) (fun u3 _ => M - (intOf u3).toNat)
 case atStart => exact ⟨0, rfl, Nat.zero_le _, HP⟩
 case round =>
  clear HP
  obtain ⟨n, rfl, hnle, HP⟩ := hrel
  have hb0 := (blk_cell (HP.out.1.blk HBAG.out (by decide)) 5).trans HC.out
  by_cases hlt : n < M
  ·
   have HN := Aside0.mk hlt
   have hltb : decide ((n : Int) < (M : Int)) = true := decide_eq_true (by omega)
   have p0t : ((0 : Int) ≤ (n : Int)) = True := eq_true (by omega)
   have q0t : ((n : Int) < (M : Int)) = True := eq_true (by omega)
   have bn : (n : Int) ≤ 300 := by have := HM.out; omega
   have hv0 := (blk_cell (HP.out.1.blk HO.out (by decide)) n).trans (HCO.out n HN.out)
   clear hlt hnle
   go_wp2
   go_loopw [4] (fun u4 wr => ∃ i : Nat, u4 = .int .i64 (i : Int) ∧ i ≤ L n ∧ Aside0 (P1 78 1 mkWords w0 w wr M A L C own n i)) (fun u4 _ => L n - (intOf u4).toNat)
   case atStart => exact ⟨0, rfl, Nat.zero_le _, HP⟩
   case round =>
    clear HP hb0 hv0
    obtain ⟨i, rfl, hile, HP⟩ := hrel
    have hb0 := (blk_cell (HP.out.1.blk HBAG.out (by decide)) 5).trans HC.out
    have hv0 := (blk_cell (HP.out.1.blk HO.out (by decide)) n).trans (HCO.out n HN.out)
    by_cases hli : i < L n
    ·
     have HI := Aside0.mk hli
     have hlib : decide ((i : Int) < (L n : Int)) = true := decide_eq_true (by omega)
     have p1t : ((0 : Int) ≤ (i : Int)) = True := eq_true (by omega)
     have q1t : ((i : Int) < (L n : Int)) = True := eq_true (by omega)
     have bi : (i : Int) ≤ 2000000000 := by have := HL.out n; omega
     obtain ⟨b, cs, hA, hblk, hown, hB, hcs, hlc⟩ := (HP.out.now HN.out).blk (by omega)
     have hsz : i * 1 + 1 ≤ cs.size := by rw [hcs]; have := Nat.mul_le_mul_right 1 (show i + 1 ≤ C n by omega); omega
     have HF := Aside0.mk (And.intro hA (And.intro hblk (And.intro hown (And.intro hB (And.intro hsz hlc)))))
     rw [hA] at hv0
     have bn2 : (n : Int) ≤ 300 := bn
     clear hA hown hB hcs hlc hli hile
     go_wp2
     go_still_tail 13, (by kernel_rfl)
     still_call (numS n i _ bn2 bi)
     repeat still_step
     refine wpStill_nil ?_
     change wpList _ _ _ _ _ wr.drew
     have HPd := Aside0.mk (HP.out.below (below_drew (Below.refl _ _)))
     have hblkd : wr.drew.heap[b]? = some (.cells cs 78 (0, 0)) := hblk
     obtain ⟨old0, hold0⟩ : ∃ old, cs[i]? = some old := ⟨_, Array.getElem?_eq_getElem (by omega)⟩
     have hcl0 := (blk_cell hblkd i).trans hold0
     have hfz0 := blk_frozen hblkd i
     clear HP hblk hsz bn2 hold0 hb0 hv0
     generalize wr.drew = w2 at HPd hblkd hcl0 hfz0 ⊢
     have HBK := Aside0.mk hblkd
     clear hblkd
     go_wp2
     go_roundw
     case measure => have hq := HI.out; simp only [intOf]; omega
     case rel => exact ⟨i + 1, by first | rfl | go_num, by have := HI.out; omega, ⟨HPd.out.put HN.out mkWords_len HF.out.1 HF.out.2.2.1 HF.out.2.2.2.1 HI.out (Wrote.set _ HBK.out (by have := HF.out.2.2.2.2.1; omega))⟩⟩
    ·
     have hie : i = L n := by omega
     subst hie
     have hlib : decide ((L n : Int) < (L n : Int)) = false := by simp
     clear hli hile
     go_wp2
     go_roundw
     case measure => have hq := HN.out; simp only [intOf]; omega
     case rel => exact ⟨n + 1, by first | rfl | go_num, by have := HN.out; omega, ⟨HP.out.next⟩⟩
  ·
   have hne : n = M := by omega
   subst hne
   have hltb : decide ((n : Int) < (n : Int)) = false := by simp
   have HP2 := Aside0.mk (show ∃ own, P2 78 22 1 mkWords w0 w _ n A L C own 0 0 (.slice none 0 0) (.slice none 0 0) from ⟨own, HP.out.1, HP.out.full, Col.nil, Col.nil, fun k hk => by simp [Value.ownBlock] at hk⟩)
   clear hlt hnle HP
   go_wp2
   go_loopw [5, 6, 7] (fun u5 u6 u7 wr => ∃ m : Nat, u7 = .int .i64 (m : Int) ∧ m ≤ n ∧ Aside0 (∃ own, P2 78 22 1 mkWords w0 w wr n A L C own m m u5 u6)) (fun _ _ u7 _ => n - (intOf u7).toNat)
   case atStart => exact ⟨0, rfl, Nat.zero_le _, HP2⟩
   case round =>
    clear HP2
    obtain ⟨m, rfl, hmle, HP⟩ := hrel
    obtain ⟨own1, hP⟩ := HP.out
    clear HP
    have HP := Aside0.mk hP
    clear hP
    have hb0 := (blk_cell (HP.out.st.blk HBAG.out (by decide)) 5).trans HC.out
    obtain ⟨A5, c5, e5⟩ := HP.out.one.form
    obtain ⟨A6, c6, e6⟩ := HP.out.more.form
    subst e5 e6
    by_cases hlt : m < n
    ·
     have HN := Aside0.mk hlt
     have hltb : decide ((m : Int) < (n : Int)) = true := decide_eq_true (by omega)
     have p0t : ((0 : Int) ≤ (m : Int)) = True := eq_true (by omega)
     have q0t : ((m : Int) < (n : Int)) = True := eq_true (by omega)
     have bn : (m : Int) ≤ 300 := by have := HM.out; omega
     have bl : ((L m : Nat) : Int) ≤ 1000000000 := by have := HL.out m; omega
     have hv0 := (blk_cell (HP.out.st.blk HO.out (by decide)) m).trans (HCO.out m HN.out)
     clear hlt hmle
     go_wp2
     go_loopw [5, 8, 9] (fun u5 u8 u9 wr => ∃ i : Nat, u9 = .int .i64 (i : Int) ∧ L m ≤ i ∧ i ≤ L m + 70 ∧ ∃ Al cap, u8 = .slice Al i cap ∧ Aside0 (∃ own, P2 78 22 1 mkWords w0 w wr n A L C own (if i = L m then m else m + 1) m u5 (.slice A6 m c6) ∧ Fl wr w0.heap.size 78 1 own mkWords m Al i cap i)) (fun _ _ u9 _ => L m + 70 - (intOf u9).toNat)
     case atStart => exact ⟨L m, rfl, Nat.le_refl _, by omega, A m, C m, rfl, ⟨own1, by rw [if_pos rfl]; exact HP.out, HP.out.rows m HN.out⟩⟩
     case round =>
      clear HP hb0 hv0
      obtain ⟨i, rfl, hlo, hile, Al, cap, rfl, HP⟩ := hrel
      obtain ⟨own2, hP, hF⟩ := HP.out
      clear HP
      have HP := Aside0.mk (And.intro hP hF)
      clear hP hF
      have hb0 := (blk_cell (HP.out.1.st.blk HBAG.out (by decide)) 5).trans HC.out
      have hv0 := (blk_cell (HP.out.1.st.blk HO.out (by decide)) m).trans (HCO.out m HN.out)
      obtain ⟨A5, c5, e5⟩ := HP.out.1.one.form
      subst e5
      have bi : (i : Int) ≤ 2000000000 := by have := HL.out m; omega
      have HILE := Aside0.mk hile
      have BB := Aside0.mk (And.intro bn bi)
      by_cases hli : i < L m + 70
      ·
       have HI := Aside0.mk hli
       have hlib : decide ((i : Int) < (L m : Int) + 70) = true := decide_eq_true (by omega)
       clear hli hile
       by_cases hie : i = L m
       ·
        subst_vars
        have heq : ((L m : Int) == (L m : Int)) = true := beq_self_eq_true _
        rw [if_pos rfl] at HP ⊢
        clear hlo
        go_wp2_with (first | (go_at_call 79; refine (numS m (L m) _ BB.out.1 BB.out.2).mono ?_; rintro e_ w_ ⟨rfl, rfl⟩) | ((with_reducible refine gate_builtin (b := .append) (xs := #[.tmp 79, .tmp 84]) rfl ?_); at_builtin; refine P2.app_l HP.out.1 (by decide) mkWords_len mkWords_one rfl (.tmp 79) (.tmp 84) 22 rfl (.int .u32 0) 4 Tryz.underlying22 info_u32 rfl (by decide) HP.out.2 rfl rfl (by have := HILE.out; have := HL.out m; omega) (by decide) _ rfl ?_; intro A1 cap1 own3 w1 hP1 hF1; have HP1 := Aside0.mk (And.intro hP1 hF1); have hb1 := (blk_cell (hP1.st.blk HBAG.out (by decide)) 5).trans HC.out; have hv1 := (blk_cell (hP1.st.blk HO.out (by decide)) m).trans (HCO.out m HN.out); clear hP1 hF1 hb0 hv0 HP) | ((with_reducible refine gate_builtin (b := .append) (xs := #[.tmp 96, .tmp 98]) rfl ?_); at_builtin; refine P2.app_one HP1.out.1 (by decide) rfl (.tmp 96) (.tmp 98) 43 rfl Tryz.underlying43 info_ap22 rfl rfl (by have := HN.out; have := HM.out; omega) HP1.out.2 ?_; intro v1 w2 hP2 hmv; have HP2 := Aside0.mk (And.intro hP2 (hmv _ _ _ _ _ HP1.out.2)); clear hP2 hmv hb1 hv1 HP1))
        go_roundw
        case measure => simp only [intOf]; omega
        case rel => exact ⟨L m + 1, by first | rfl | go_num, by omega, by omega, _, _, rfl, ⟨_, by rw [if_neg (by omega)]; exact HP2.out.1, HP2.out.2⟩⟩
       ·
        have hieb : ((i : Int) == (L m : Int)) = false := beq_eq_false_iff_ne.mpr (by omega)
        have HNE := Aside0.mk hie
        rw [if_neg hie] at HP ⊢
        have HLO := Aside0.mk hlo
        clear hlo hie
        go_wp2_with (first | (go_at_call 79; refine (numS m i _ BB.out.1 BB.out.2).mono ?_; rintro e_ w_ ⟨rfl, rfl⟩) | ((with_reducible refine gate_builtin (b := .append) (xs := #[.tmp 79, .tmp 84]) rfl ?_); at_builtin; refine P2.app_l HP.out.1 (by decide) mkWords_len mkWords_one rfl (.tmp 79) (.tmp 84) 22 rfl (.int .u32 0) 4 Tryz.underlying22 info_u32 rfl (by decide) HP.out.2 rfl rfl (by have := HILE.out; have := HL.out m; omega) (by decide) _ rfl ?_; intro A1 cap1 own3 w1 hP1 hF1; have HP1 := Aside0.mk (And.intro hP1 hF1); have hb1 := (blk_cell (hP1.st.blk HBAG.out (by decide)) 5).trans HC.out; have hv1 := (blk_cell (hP1.st.blk HO.out (by decide)) m).trans (HCO.out m HN.out); clear hP1 hF1 hb0 hv0 HP))
        go_roundw
        case measure => have hq := HI.out; simp only [intOf]; omega
        case rel => exact ⟨i + 1, by first | rfl | go_num, by have := HLO.out; omega, by have := HI.out; omega, _, _, rfl, ⟨_, by rw [if_neg (by have := HLO.out; omega)]; exact HP1.out.1, HP1.out.2⟩⟩
      ·
       have hie : i = L m + 70 := by omega
       subst hie
       have hlib : decide (((L m + 70 : Nat) : Int) < (L m : Int) + 70) = false := decide_eq_false (by omega)
       rw [if_neg (by omega)] at HP ⊢
       clear hlo hile hli
       go_wp2_with (first | ((with_reducible refine gate_builtin (b := .append) (xs := #[.tmp 100, .tmp 102]) rfl ?_); at_builtin; refine P2.app_more HP.out.1 (by decide) rfl (.tmp 100) (.tmp 102) 43 rfl Tryz.underlying43 info_ap22 rfl rfl (by have := HN.out; have := HM.out; omega) HP.out.2 ?_; intro v1 w1 hP1; have HP1 := Aside0.mk hP1; clear hP1 hb0 hv0 HP))
       go_roundw
       case measure => have hq := HN.out; simp only [intOf]; omega
       case rel => exact ⟨m + 1, by first | rfl | go_num, by have := HN.out; omega, ⟨_, HP1.out⟩⟩
    ·
     have hme : m = n := by omega
     subst hme
     have hltb : decide ((m : Int) < (m : Int)) = false := by simp
     clear hlt hmle
     go_wp2
     go_loop [10] (fun u10 => ∃ q : Nat, u10 = .int .i64 (q : Int) ∧ q ≤ m) (fun u10 => m - (intOf u10).toNat)
     case atStart => exact ⟨0, rfl, Nat.zero_le _⟩
     case round =>
      obtain ⟨q, rfl, hqle⟩ := hrel
      by_cases hlt : q < m
      ·
       have HN := Aside0.mk hlt
       have hltb : decide ((q : Int) < (m : Int)) = true := decide_eq_true (by omega)
       have p0t : ((0 : Int) ≤ (q : Int)) = True := eq_true (by omega)
       have q0t : ((q : Int) < (m : Int)) = True := eq_true (by omega)
       have bn : (q : Int) ≤ 300 := by have := HM.out; omega
       have bl : ((L q : Nat) : Int) ≤ 1000000000 := by have := HL.out q; omega
       have hv0 := (blk_cell (HP.out.st.blk HO.out (by decide)) q).trans (HCO.out q HN.out)
       obtain ⟨g5, x5, B5, y5, e5, hc5, hf5⟩ := HP.out.one.at HN.out
       obtain ⟨g6, x6, B6, y6, e6, hc6, hf6⟩ := HP.out.more.at HN.out
       injection e5 with e51 e52 e53
       injection e6 with e61 e62 e63
       subst e51 e53 e61 e63
       obtain ⟨b5, _, rfl, _⟩ := hf5.blk (by omega)
       obtain ⟨b6, _, rfl, _⟩ := hf6.blk (by omega)
       have HF5 := Aside0.mk hf5
       have HF6 := Aside0.mk hf6
       clear e52 e62 hf5 hf6 hlt hqle
       go_wp2
       go_loop [11] (fun u11 => ∃ i : Nat, u11 = .int .i64 (i : Int) ∧ i ≤ L q + 70) (fun u11 => L q + 70 - (intOf u11).toNat)
       case atStart => exact ⟨0, rfl, Nat.zero_le _⟩
       case round =>
        obtain ⟨i, rfl, hile⟩ := hrel
        have bi : (i : Int) ≤ 2000000000 := by have := HL.out q; omega
        have BB := Aside0.mk (And.intro bn bi)
        by_cases hli : i < L q + 70
        ·
         have HI := Aside0.mk hli
         have hlib : decide ((i : Int) < ((L q + 70 : Nat) : Int)) = true := decide_eq_true (by omega)
         have hlib2 : decide ((i : Int) < (L q : Int) + 70) = true := decide_eq_true (by omega)
         have p1t : ((0 : Int) ≤ (i : Int)) = True := eq_true (by omega)
         have q1t : ((i : Int) < ((L q + 70 : Nat) : Int)) = True := eq_true (by omega)
         have q1u : ((i : Int) < (L q : Int) + 70) = True := eq_true (by omega)
         have hm6 := HF6.out.cell hli (j := 0) (u := .int .u32 (numI q i % 4294967296)) rfl
         rw [Nat.mul_one, Nat.add_zero] at hm6
         by_cases h1 : i < L q
         ·
          have t1 : decide ((i : Int) < (L q : Int)) = true := decide_eq_true (by omega)
          have t2 : ((i : Int) == (L q : Int)) = false := beq_eq_false_iff_ne.mpr (by omega)
          have q2t : ((i : Int) < (L q : Int)) = True := eq_true (by omega)
          obtain ⟨b0, _, hA0, _⟩ := (HP.out.rows q HN.out).blk (by omega)
          have hf0 := HP.out.rows q HN.out
          rw [hA0] at hf0 hv0
          have hm0 := hf0.cell h1 (j := 0) (u := .int .u32 (numI q i % 4294967296)) rfl
          rw [Nat.mul_one, Nat.add_zero] at hm0
          clear hA0 hf0 h1 hli hile
          (go_wp2_with (go_at_call 79; refine (numS q i _ BB.out.1 BB.out.2).mono ?_; rintro e_ w_ ⟨rfl, rfl⟩)); go_round; (case measure => have hq := HI.out; simp only [intOf]; omega); case rel => exact ⟨i + 1, by first | rfl | go_num, by have := HI.out; omega⟩
         ·
          have t1 : decide ((i : Int) < (L q : Int)) = false := decide_eq_false (by omega)
          have t1f : ((i : Int) < (L q : Int)) = False := eq_false (by omega)
          have t1n : (i < L q) = False := eq_false h1
          by_cases h2 : i = L q
          ·
           have t2 : ((i : Int) == (L q : Int)) = true := beq_iff_eq.mpr (by omega)
           have q3t : ((i : Int) < ((L q + 1 : Nat) : Int)) = True := eq_true (by omega)
           have q3u : ((i : Int) < (L q : Int) + 1) = True := eq_true (by omega)
           have hm5 := HF5.out.cell (show i < L q + 1 by omega) (j := 0) (u := .int .u32 (numI q i % 4294967296)) rfl
           rw [Nat.mul_one, Nat.add_zero] at hm5
           clear h1 h2 hli hile
           (go_wp2_with (go_at_call 79; refine (numS q i _ BB.out.1 BB.out.2).mono ?_; rintro e_ w_ ⟨rfl, rfl⟩)); go_round; (case measure => have hq := HI.out; simp only [intOf]; omega); case rel => exact ⟨i + 1, by first | rfl | go_num, by have := HI.out; omega⟩
          ·
           have t2 : ((i : Int) == (L q : Int)) = false := beq_eq_false_iff_ne.mpr (by omega)
           clear h1 h2 hli hile
           (go_wp2_with (go_at_call 79; refine (numS q i _ BB.out.1 BB.out.2).mono ?_; rintro e_ w_ ⟨rfl, rfl⟩)); go_round; (case measure => have hq := HI.out; simp only [intOf]; omega); case rel => exact ⟨i + 1, by first | rfl | go_num, by have := HI.out; omega⟩
        ·
         have hie : i = L q + 70 := by omega
         subst hie
         have hlib : decide (((L q + 70 : Nat) : Int) < ((L q + 70 : Nat) : Int)) = false := by simp
         have hlib2 : decide (((L q + 70 : Nat) : Int) < (L q : Int) + 70) = false := decide_eq_false (by omega)
         clear hli hile
         go_wp2
         go_round
         case measure => have hq := HN.out; simp only [intOf]; omega
         case rel => exact ⟨q + 1, by first | rfl | go_num, by have := HN.out; omega⟩
      ·
       have hqe : q = m := by omega
       subst hqe
       have hltb : decide ((q : Int) < (q : Int)) = false := by simp
       clear hlt hqle
       go_wp2
       go_ret
       exact ⟨rfl, HP.out.st⟩
end Go.Proofs.YtiaohbbafaaibabGreatDoor.P

/- OWN TEXT: Bag.apartLongs, walked: lists that share no memory. -/
namespace Go.Proofs.YtiaohbbafaaibabGreatDoor.P
open Go.RowKit Go.Proofs.YtiaohbbafaaibabGreatDoorW.PrintWords Go.Proofs.YtiaohbbafaaibabGreatDoorW.PrintLast Go.Proofs.YtiaohbbafaaibabGreatDoorW.PrintMore Go.Proofs.YtiaohbbafaaibabGreatDoor.Arr
set_option linter.unusedVariables false
set_option linter.unusedSimpArgs false
def mkLongs (n i : Nat) : List Value := [.int .i64 (numI n i)]
theorem mkLongs_len (n i : Nat) : (mkLongs n i).length = 1 := rfl
theorem mkLongs_one (n i : Nat) : ∀ u ∈ mkLongs n i, u.oneCell' = true := by
 intro u hu
 simp only [mkLongs, List.mem_cons, List.not_mem_nil, or_false] at hu
 rcases hu with rfl
 rfl
theorem info_ap23 : (Tryz.prog.info? 23).map (fun i => (i.zero, i.size, i.bytes)) = some (some (.slice none 0 0), 1, 24) := by kernel_rfl
set_option maxHeartbeats 60000000 in
set_option maxRecDepth 100000 in
theorem apLongs.calls (w0 w : World) (g o_ : Nat) (cg co : Array Value) (M capO : Nat) (A : Nat → Option Addr) (L C : Nat → Nat) (own : Nat → Nat) (hbag : w.heap[g]? = some (.cells cg 56 (0, 0))) (hc : cg[4]? = some (.slice (some ⟨o_, 0, none⟩) M capO)) (ho : w.heap[o_]? = some (.cells co 23 (0, 0))) (hco : ∀ m, m < M → co[m]? = some (.slice (A m) (L m) (C m))) (hM : M ≤ 300) (hL : ∀ m, L m ≤ 1000000000) (low : Below w0.heap.size w0 w) (hrows : ∀ m, m < M → Fl w w0.heap.size 2 1 own mkLongs m (A m) (L m) (C m) 0) :
  Calls Tryz.prog 44 #[.pointer (some ⟨g, 0, none⟩)] w fun e w' => e = .returned (.bool true) ∧ St w0 w w' 2 := by
 have hu1 := Tryz.underlying2
 have HBAG := Aside0.mk hbag
 have HC := Aside0.mk hc
 have HO := Aside0.mk ho
 have HCO := Aside0.mk hco
 have HM := Aside0.mk hM
 have HL := Aside0.mk hL
 have HP := Aside0.mk (P1.start (St.refl low) hrows)
 clear hbag hc ho hco hM hL low hrows
 go_enter Tryz.func44, Tryz.ntmps44
 go_wp2
 go_loopw [3] (fun u3 wr => ∃ n : Nat, u3 = .int .i64 (n : Int) ∧ n ≤ M ∧ Aside0 (P1 2 1 mkLongs w0 w wr M A L C own n 0)) (fun u3 _ => M - (intOf u3).toNat)
 case atStart => exact ⟨0, rfl, Nat.zero_le _, HP⟩
 case round =>
  clear HP
  obtain ⟨n, rfl, hnle, HP⟩ := hrel
  have hb0 := (blk_cell (HP.out.1.blk HBAG.out (by decide)) 4).trans HC.out
  by_cases hlt : n < M
  ·
   have HN := Aside0.mk hlt
   have hltb : decide ((n : Int) < (M : Int)) = true := decide_eq_true (by omega)
   have p0t : ((0 : Int) ≤ (n : Int)) = True := eq_true (by omega)
   have q0t : ((n : Int) < (M : Int)) = True := eq_true (by omega)
   have bn : (n : Int) ≤ 300 := by have := HM.out; omega
   have hv0 := (blk_cell (HP.out.1.blk HO.out (by decide)) n).trans (HCO.out n HN.out)
   clear hlt hnle
   go_wp2
   go_loopw [4] (fun u4 wr => ∃ i : Nat, u4 = .int .i64 (i : Int) ∧ i ≤ L n ∧ Aside0 (P1 2 1 mkLongs w0 w wr M A L C own n i)) (fun u4 _ => L n - (intOf u4).toNat)
   case atStart => exact ⟨0, rfl, Nat.zero_le _, HP⟩
   case round =>
    clear HP hb0 hv0
    obtain ⟨i, rfl, hile, HP⟩ := hrel
    have hb0 := (blk_cell (HP.out.1.blk HBAG.out (by decide)) 4).trans HC.out
    have hv0 := (blk_cell (HP.out.1.blk HO.out (by decide)) n).trans (HCO.out n HN.out)
    by_cases hli : i < L n
    ·
     have HI := Aside0.mk hli
     have hlib : decide ((i : Int) < (L n : Int)) = true := decide_eq_true (by omega)
     have p1t : ((0 : Int) ≤ (i : Int)) = True := eq_true (by omega)
     have q1t : ((i : Int) < (L n : Int)) = True := eq_true (by omega)
     have bi : (i : Int) ≤ 2000000000 := by have := HL.out n; omega
     obtain ⟨b, cs, hA, hblk, hown, hB, hcs, hlc⟩ := (HP.out.now HN.out).blk (by omega)
     have hsz : i * 1 + 1 ≤ cs.size := by rw [hcs]; have := Nat.mul_le_mul_right 1 (show i + 1 ≤ C n by omega); omega
     have HF := Aside0.mk (And.intro hA (And.intro hblk (And.intro hown (And.intro hB (And.intro hsz hlc)))))
     rw [hA] at hv0
     have bn2 : (n : Int) ≤ 300 := bn
     clear hA hown hB hcs hlc hli hile
     go_wp2
     go_still_tail 12, (by kernel_rfl)
     still_call (numS n i _ bn2 bi)
     repeat still_step
     refine wpStill_nil ?_
     change wpList _ _ _ _ _ wr.drew
     have HPd := Aside0.mk (HP.out.below (below_drew (Below.refl _ _)))
     have hblkd : wr.drew.heap[b]? = some (.cells cs 2 (0, 0)) := hblk
     obtain ⟨old0, hold0⟩ : ∃ old, cs[i]? = some old := ⟨_, Array.getElem?_eq_getElem (by omega)⟩
     have hcl0 := (blk_cell hblkd i).trans hold0
     have hfz0 := blk_frozen hblkd i
     clear HP hblk hsz bn2 hold0 hb0 hv0
     generalize wr.drew = w2 at HPd hblkd hcl0 hfz0 ⊢
     have HBK := Aside0.mk hblkd
     clear hblkd
     go_wp2
     go_roundw
     case measure => have hq := HI.out; simp only [intOf]; omega
     case rel => exact ⟨i + 1, by first | rfl | go_num, by have := HI.out; omega, ⟨HPd.out.put HN.out mkLongs_len HF.out.1 HF.out.2.2.1 HF.out.2.2.2.1 HI.out (Wrote.set _ HBK.out (by have := HF.out.2.2.2.2.1; omega))⟩⟩
    ·
     have hie : i = L n := by omega
     subst hie
     have hlib : decide ((L n : Int) < (L n : Int)) = false := by simp
     clear hli hile
     go_wp2
     go_roundw
     case measure => have hq := HN.out; simp only [intOf]; omega
     case rel => exact ⟨n + 1, by first | rfl | go_num, by have := HN.out; omega, ⟨HP.out.next⟩⟩
  ·
   have hne : n = M := by omega
   subst hne
   have hltb : decide ((n : Int) < (n : Int)) = false := by simp
   have HP2 := Aside0.mk (show ∃ own, P2 2 23 1 mkLongs w0 w _ n A L C own 0 0 (.slice none 0 0) (.slice none 0 0) from ⟨own, HP.out.1, HP.out.full, Col.nil, Col.nil, fun k hk => by simp [Value.ownBlock] at hk⟩)
   clear hlt hnle HP
   go_wp2
   go_loopw [5, 6, 7] (fun u5 u6 u7 wr => ∃ m : Nat, u7 = .int .i64 (m : Int) ∧ m ≤ n ∧ Aside0 (∃ own, P2 2 23 1 mkLongs w0 w wr n A L C own m m u5 u6)) (fun _ _ u7 _ => n - (intOf u7).toNat)
   case atStart => exact ⟨0, rfl, Nat.zero_le _, HP2⟩
   case round =>
    clear HP2
    obtain ⟨m, rfl, hmle, HP⟩ := hrel
    obtain ⟨own1, hP⟩ := HP.out
    clear HP
    have HP := Aside0.mk hP
    clear hP
    have hb0 := (blk_cell (HP.out.st.blk HBAG.out (by decide)) 4).trans HC.out
    obtain ⟨A5, c5, e5⟩ := HP.out.one.form
    obtain ⟨A6, c6, e6⟩ := HP.out.more.form
    subst e5 e6
    by_cases hlt : m < n
    ·
     have HN := Aside0.mk hlt
     have hltb : decide ((m : Int) < (n : Int)) = true := decide_eq_true (by omega)
     have p0t : ((0 : Int) ≤ (m : Int)) = True := eq_true (by omega)
     have q0t : ((m : Int) < (n : Int)) = True := eq_true (by omega)
     have bn : (m : Int) ≤ 300 := by have := HM.out; omega
     have bl : ((L m : Nat) : Int) ≤ 1000000000 := by have := HL.out m; omega
     have hv0 := (blk_cell (HP.out.st.blk HO.out (by decide)) m).trans (HCO.out m HN.out)
     clear hlt hmle
     go_wp2
     go_loopw [5, 8, 9] (fun u5 u8 u9 wr => ∃ i : Nat, u9 = .int .i64 (i : Int) ∧ L m ≤ i ∧ i ≤ L m + 70 ∧ ∃ Al cap, u8 = .slice Al i cap ∧ Aside0 (∃ own, P2 2 23 1 mkLongs w0 w wr n A L C own (if i = L m then m else m + 1) m u5 (.slice A6 m c6) ∧ Fl wr w0.heap.size 2 1 own mkLongs m Al i cap i)) (fun _ _ u9 _ => L m + 70 - (intOf u9).toNat)
     case atStart => exact ⟨L m, rfl, Nat.le_refl _, by omega, A m, C m, rfl, ⟨own1, by rw [if_pos rfl]; exact HP.out, HP.out.rows m HN.out⟩⟩
     case round =>
      clear HP hb0 hv0
      obtain ⟨i, rfl, hlo, hile, Al, cap, rfl, HP⟩ := hrel
      obtain ⟨own2, hP, hF⟩ := HP.out
      clear HP
      have HP := Aside0.mk (And.intro hP hF)
      clear hP hF
      have hb0 := (blk_cell (HP.out.1.st.blk HBAG.out (by decide)) 4).trans HC.out
      have hv0 := (blk_cell (HP.out.1.st.blk HO.out (by decide)) m).trans (HCO.out m HN.out)
      obtain ⟨A5, c5, e5⟩ := HP.out.1.one.form
      subst e5
      have bi : (i : Int) ≤ 2000000000 := by have := HL.out m; omega
      have HILE := Aside0.mk hile
      have BB := Aside0.mk (And.intro bn bi)
      by_cases hli : i < L m + 70
      ·
       have HI := Aside0.mk hli
       have hlib : decide ((i : Int) < (L m : Int) + 70) = true := decide_eq_true (by omega)
       clear hli hile
       by_cases hie : i = L m
       ·
        subst_vars
        have heq : ((L m : Int) == (L m : Int)) = true := beq_self_eq_true _
        rw [if_pos rfl] at HP ⊢
        clear hlo
        go_wp2_with (first | (go_at_call 79; refine (numS m (L m) _ BB.out.1 BB.out.2).mono ?_; rintro e_ w_ ⟨rfl, rfl⟩) | ((with_reducible refine gate_builtin (b := .append) (xs := #[.tmp 78, .tmp 82]) rfl ?_); at_builtin; refine P2.app_l HP.out.1 (by decide) mkLongs_len mkLongs_one rfl (.tmp 78) (.tmp 82) 23 rfl (.int .i64 0) 8 Tryz.underlying23 info_i64 rfl (by decide) HP.out.2 rfl rfl (by have := HILE.out; have := HL.out m; omega) (by decide) _ rfl ?_; intro A1 cap1 own3 w1 hP1 hF1; have HP1 := Aside0.mk (And.intro hP1 hF1); have hb1 := (blk_cell (hP1.st.blk HBAG.out (by decide)) 4).trans HC.out; have hv1 := (blk_cell (hP1.st.blk HO.out (by decide)) m).trans (HCO.out m HN.out); clear hP1 hF1 hb0 hv0 HP) | ((with_reducible refine gate_builtin (b := .append) (xs := #[.tmp 94, .tmp 96]) rfl ?_); at_builtin; refine P2.app_one HP1.out.1 (by decide) rfl (.tmp 94) (.tmp 96) 42 rfl Tryz.underlying42 info_ap23 rfl rfl (by have := HN.out; have := HM.out; omega) HP1.out.2 ?_; intro v1 w2 hP2 hmv; have HP2 := Aside0.mk (And.intro hP2 (hmv _ _ _ _ _ HP1.out.2)); clear hP2 hmv hb1 hv1 HP1))
        go_roundw
        case measure => simp only [intOf]; omega
        case rel => exact ⟨L m + 1, by first | rfl | go_num, by omega, by omega, _, _, rfl, ⟨_, by rw [if_neg (by omega)]; exact HP2.out.1, HP2.out.2⟩⟩
       ·
        have hieb : ((i : Int) == (L m : Int)) = false := beq_eq_false_iff_ne.mpr (by omega)
        have HNE := Aside0.mk hie
        rw [if_neg hie] at HP ⊢
        have HLO := Aside0.mk hlo
        clear hlo hie
        go_wp2_with (first | (go_at_call 79; refine (numS m i _ BB.out.1 BB.out.2).mono ?_; rintro e_ w_ ⟨rfl, rfl⟩) | ((with_reducible refine gate_builtin (b := .append) (xs := #[.tmp 78, .tmp 82]) rfl ?_); at_builtin; refine P2.app_l HP.out.1 (by decide) mkLongs_len mkLongs_one rfl (.tmp 78) (.tmp 82) 23 rfl (.int .i64 0) 8 Tryz.underlying23 info_i64 rfl (by decide) HP.out.2 rfl rfl (by have := HILE.out; have := HL.out m; omega) (by decide) _ rfl ?_; intro A1 cap1 own3 w1 hP1 hF1; have HP1 := Aside0.mk (And.intro hP1 hF1); have hb1 := (blk_cell (hP1.st.blk HBAG.out (by decide)) 4).trans HC.out; have hv1 := (blk_cell (hP1.st.blk HO.out (by decide)) m).trans (HCO.out m HN.out); clear hP1 hF1 hb0 hv0 HP))
        go_roundw
        case measure => have hq := HI.out; simp only [intOf]; omega
        case rel => exact ⟨i + 1, by first | rfl | go_num, by have := HLO.out; omega, by have := HI.out; omega, _, _, rfl, ⟨_, by rw [if_neg (by have := HLO.out; omega)]; exact HP1.out.1, HP1.out.2⟩⟩
      ·
       have hie : i = L m + 70 := by omega
       subst hie
       have hlib : decide (((L m + 70 : Nat) : Int) < (L m : Int) + 70) = false := decide_eq_false (by omega)
       rw [if_neg (by omega)] at HP ⊢
       clear hlo hile hli
       go_wp2_with (first | ((with_reducible refine gate_builtin (b := .append) (xs := #[.tmp 98, .tmp 100]) rfl ?_); at_builtin; refine P2.app_more HP.out.1 (by decide) rfl (.tmp 98) (.tmp 100) 42 rfl Tryz.underlying42 info_ap23 rfl rfl (by have := HN.out; have := HM.out; omega) HP.out.2 ?_; intro v1 w1 hP1; have HP1 := Aside0.mk hP1; clear hP1 hb0 hv0 HP))
       go_roundw
       case measure => have hq := HN.out; simp only [intOf]; omega
       case rel => exact ⟨m + 1, by first | rfl | go_num, by have := HN.out; omega, ⟨_, HP1.out⟩⟩
    ·
     have hme : m = n := by omega
     subst hme
     have hltb : decide ((m : Int) < (m : Int)) = false := by simp
     clear hlt hmle
     go_wp2
     go_loop [10] (fun u10 => ∃ q : Nat, u10 = .int .i64 (q : Int) ∧ q ≤ m) (fun u10 => m - (intOf u10).toNat)
     case atStart => exact ⟨0, rfl, Nat.zero_le _⟩
     case round =>
      obtain ⟨q, rfl, hqle⟩ := hrel
      by_cases hlt : q < m
      ·
       have HN := Aside0.mk hlt
       have hltb : decide ((q : Int) < (m : Int)) = true := decide_eq_true (by omega)
       have p0t : ((0 : Int) ≤ (q : Int)) = True := eq_true (by omega)
       have q0t : ((q : Int) < (m : Int)) = True := eq_true (by omega)
       have bn : (q : Int) ≤ 300 := by have := HM.out; omega
       have bl : ((L q : Nat) : Int) ≤ 1000000000 := by have := HL.out q; omega
       have hv0 := (blk_cell (HP.out.st.blk HO.out (by decide)) q).trans (HCO.out q HN.out)
       obtain ⟨g5, x5, B5, y5, e5, hc5, hf5⟩ := HP.out.one.at HN.out
       obtain ⟨g6, x6, B6, y6, e6, hc6, hf6⟩ := HP.out.more.at HN.out
       injection e5 with e51 e52 e53
       injection e6 with e61 e62 e63
       subst e51 e53 e61 e63
       obtain ⟨b5, _, rfl, _⟩ := hf5.blk (by omega)
       obtain ⟨b6, _, rfl, _⟩ := hf6.blk (by omega)
       have HF5 := Aside0.mk hf5
       have HF6 := Aside0.mk hf6
       clear e52 e62 hf5 hf6 hlt hqle
       go_wp2
       go_loop [11] (fun u11 => ∃ i : Nat, u11 = .int .i64 (i : Int) ∧ i ≤ L q + 70) (fun u11 => L q + 70 - (intOf u11).toNat)
       case atStart => exact ⟨0, rfl, Nat.zero_le _⟩
       case round =>
        obtain ⟨i, rfl, hile⟩ := hrel
        have bi : (i : Int) ≤ 2000000000 := by have := HL.out q; omega
        have BB := Aside0.mk (And.intro bn bi)
        by_cases hli : i < L q + 70
        ·
         have HI := Aside0.mk hli
         have hlib : decide ((i : Int) < ((L q + 70 : Nat) : Int)) = true := decide_eq_true (by omega)
         have hlib2 : decide ((i : Int) < (L q : Int) + 70) = true := decide_eq_true (by omega)
         have p1t : ((0 : Int) ≤ (i : Int)) = True := eq_true (by omega)
         have q1t : ((i : Int) < ((L q + 70 : Nat) : Int)) = True := eq_true (by omega)
         have q1u : ((i : Int) < (L q : Int) + 70) = True := eq_true (by omega)
         have hm6 := HF6.out.cell hli (j := 0) (u := .int .i64 (numI q i)) rfl
         rw [Nat.mul_one, Nat.add_zero] at hm6
         by_cases h1 : i < L q
         ·
          have t1 : decide ((i : Int) < (L q : Int)) = true := decide_eq_true (by omega)
          have t2 : ((i : Int) == (L q : Int)) = false := beq_eq_false_iff_ne.mpr (by omega)
          have q2t : ((i : Int) < (L q : Int)) = True := eq_true (by omega)
          obtain ⟨b0, _, hA0, _⟩ := (HP.out.rows q HN.out).blk (by omega)
          have hf0 := HP.out.rows q HN.out
          rw [hA0] at hf0 hv0
          have hm0 := hf0.cell h1 (j := 0) (u := .int .i64 (numI q i)) rfl
          rw [Nat.mul_one, Nat.add_zero] at hm0
          clear hA0 hf0 h1 hli hile
          (go_wp2_with (go_at_call 79; refine (numS q i _ BB.out.1 BB.out.2).mono ?_; rintro e_ w_ ⟨rfl, rfl⟩)); go_round; (case measure => have hq := HI.out; simp only [intOf]; omega); case rel => exact ⟨i + 1, by first | rfl | go_num, by have := HI.out; omega⟩
         ·
          have t1 : decide ((i : Int) < (L q : Int)) = false := decide_eq_false (by omega)
          have t1f : ((i : Int) < (L q : Int)) = False := eq_false (by omega)
          have t1n : (i < L q) = False := eq_false h1
          by_cases h2 : i = L q
          ·
           have t2 : ((i : Int) == (L q : Int)) = true := beq_iff_eq.mpr (by omega)
           have q3t : ((i : Int) < ((L q + 1 : Nat) : Int)) = True := eq_true (by omega)
           have q3u : ((i : Int) < (L q : Int) + 1) = True := eq_true (by omega)
           have hm5 := HF5.out.cell (show i < L q + 1 by omega) (j := 0) (u := .int .i64 (numI q i)) rfl
           rw [Nat.mul_one, Nat.add_zero] at hm5
           clear h1 h2 hli hile
           (go_wp2_with (go_at_call 79; refine (numS q i _ BB.out.1 BB.out.2).mono ?_; rintro e_ w_ ⟨rfl, rfl⟩)); go_round; (case measure => have hq := HI.out; simp only [intOf]; omega); case rel => exact ⟨i + 1, by first | rfl | go_num, by have := HI.out; omega⟩
          ·
           have t2 : ((i : Int) == (L q : Int)) = false := beq_eq_false_iff_ne.mpr (by omega)
           clear h1 h2 hli hile
           (go_wp2_with (go_at_call 79; refine (numS q i _ BB.out.1 BB.out.2).mono ?_; rintro e_ w_ ⟨rfl, rfl⟩)); go_round; (case measure => have hq := HI.out; simp only [intOf]; omega); case rel => exact ⟨i + 1, by first | rfl | go_num, by have := HI.out; omega⟩
        ·
         have hie : i = L q + 70 := by omega
         subst hie
         have hlib : decide (((L q + 70 : Nat) : Int) < ((L q + 70 : Nat) : Int)) = false := by simp
         have hlib2 : decide (((L q + 70 : Nat) : Int) < (L q : Int) + 70) = false := decide_eq_false (by omega)
         clear hli hile
         go_wp2
         go_round
         case measure => have hq := HN.out; simp only [intOf]; omega
         case rel => exact ⟨q + 1, by first | rfl | go_num, by have := HN.out; omega⟩
      ·
       have hqe : q = m := by omega
       subst hqe
       have hltb : decide ((q : Int) < (q : Int)) = false := by simp
       clear hlt hqle
       go_wp2
       go_ret
       exact ⟨rfl, HP.out.st⟩
end Go.Proofs.YtiaohbbafaaibabGreatDoor.P
