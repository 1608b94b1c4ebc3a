/- OWN TEXT and printed parts of this claim, laid together: SymL, HSymV, SymD, HObjR. -/
import Derived.Test.YtiaohbbafaaibabZsM5
import Derived.Test.YtiaohbbafaaibabZsM0
import Derived.Test.YtiaohbbafaaibabZsM2
/- OWN TEXT: what the names gathered stand for, over plain lists: the first of a kind and name; the first symbol that is wrong. -/
namespace Go.Proofs.Ytiaohbbafaaibab.P
open Go.RowKit Go.Maps Go.Proofs.YtiaohbbafaaibabW.PrintWords Go.Proofs.YtiaohbbafaaibabW.PrintLast Go.Proofs.YtiaohbbafaaibabW.PrintMore Go.Proofs.Ytiaohbbafaaibab.Arr Go.Proofs.Ytiaohbbafaaibab.MapB Go.Proofs.Ytiaohbbafaaibab.SymM
set_option linter.unusedVariables false
set_option linter.unusedSimpArgs false

/-- the first of the first j symbols with a name and kind: its place. -/
def symF (syms : List Sym) (s : ByteArray) (kind : Int) : Nat → Option Int
  | 0 => none
  | j + 1 => match symF syms s kind j with
    | some a => some a
    | none => if (sy syms j).f0 = s ∧ (sy syms j).f1 = kind then some (sy syms j).f2 else none
/-- the first among the first i objects. -/
def rowF (l : List ObjT) (s : ByteArray) (kind : Int) : Nat → Option (Int × Int)
  | 0 => none
  | i + 1 => match rowF l s kind i with
    | some x => some x
    | none => (symF (ob l i).f4 s kind (ob l i).f4.length).map fun a => ((i : Int), a)
/-- the first before symbol k of object i. -/
def firstF (l : List ObjT) (s : ByteArray) (kind : Int) (i k : Nat) : Option (Int × Int) := match rowF l s kind i with
  | some x => some x
  | none => (symF (ob l i).f4 s kind k).map fun a => ((i : Int), a)
def kOf (f : Bool) : Int := if f = true then 2 else 1
theorem findE_add (L : List Ent) (x : Ent) (s : ByteArray) (f : Bool) : findE (L ++ [x]) s f = match findE L s f with
    | some y => some y
    | none => if x.s = s ∧ x.f = f then some (x.i, x.a) else none := by
  unfold findE
  rw [List.find?_append]
  cases L.find? (fun x => decide (x.s = s) && x.f == f) with
  | some y => rfl
  | none =>
    simp only [Option.none_or, List.find?_cons, List.find?_nil, Option.map_none]
    by_cases c : x.s = s ∧ x.f = f
    · have : (decide (x.s = s) && x.f == f) = true := by rw [Bool.and_eq_true, decide_eq_true_eq, beq_iff_eq]; exact c
      rw [this, if_pos c]; rfl
    · have : (decide (x.s = s) && x.f == f) = false := by
        rw [← Bool.not_eq_true, Bool.and_eq_true, decide_eq_true_eq, beq_iff_eq]; exact c
      rw [this, if_neg c]; rfl
theorem findE_put (L : List Ent) (t : ByteArray) (k a i : Int) (s : ByteArray) (f : Bool) : findE (putL L t k a i) s f = match findE L s f with
    | some x => some x
    | none => if t = s ∧ k = kOf f then some (i, a) else none := by
  have none_ (h : ¬ (t = s ∧ k = kOf f)) : findE L s f = match findE L s f with
      | some x => some x
      | none => if t = s ∧ k = kOf f then some (i, a) else none := by
    cases findE L s f with
    | some x => rfl
    | none => exact (if_neg h).symm
  have had (f' : Bool) (hk : k = kOf f') (h : (findE L t f').isSome = true) : findE L s f = match findE L s f with
      | some x => some x
      | none => if t = s ∧ k = kOf f then some (i, a) else none := by
    cases hq : findE L s f with
    | some x => rfl
    | none =>
      refine (if_neg ?_).symm
      rintro ⟨rfl, h2⟩
      have : f = f' := by
        rw [hk] at h2
        cases f <;> cases f' <;> first | rfl | (exact absurd h2 (by decide))
      subst this
      rw [hq] at h
      cases h
  have new_ (f' : Bool) (hk : k = kOf f') : findE (L ++ [⟨t, f', i, a⟩]) s f = match findE L s f with
      | some x => some x
      | none => if t = s ∧ k = kOf f then some (i, a) else none := by
    rw [findE_add]
    cases findE L s f with
    | some x => rfl
    | none =>
      have : (t = s ∧ f' = f) ↔ (t = s ∧ k = kOf f) := by
        rw [hk]
        cases f <;> cases f' <;> simp [kOf]
      simp only [this]
  unfold putL
  split
  · rename_i h1
    split
    · rename_i h2; exact had false h1 h2
    · exact new_ false h1
  · rename_i h1
    split
    · rename_i h1b
      split
      · rename_i h2; exact had true h1b h2
      · exact new_ true h1b
    · rename_i h1b
      refine none_ ?_
      rintro ⟨_, h⟩
      cases f
      · exact h1 h
      · exact h1b h
theorem findE_gSym (L0 : List Ent) (syms : List Sym) (i : Int) (s : ByteArray) (f : Bool) : ∀ j, findE (gSym L0 syms i j) s f = match findE L0 s f with
    | some x => some x
    | none => (symF syms s (kOf f) j).map fun a => (i, a)
  | 0 => by
    show findE L0 s f = _
    cases findE L0 s f <;> rfl
  | j + 1 => by
    show findE (putL (gSym L0 syms i j) _ _ _ i) s f = _
    rw [findE_put, findE_gSym L0 syms i s f j]
    cases findE L0 s f with
    | some x => rfl
    | none =>
      show (match (symF syms s (kOf f) j).map fun a => (i, a) with | some x => some x | none => _) = (match symF syms s (kOf f) j with | some a => some a | none => _ : Option Int).map _
      cases symF syms s (kOf f) j with
      | some a => rfl
      | none =>
        show (if _ then _ else _) = (if _ then _ else _ : Option Int).map _
        split <;> rfl
theorem findE_gObj (l : List ObjT) (s : ByteArray) (f : Bool) : ∀ n, findE (gObj l n) s f = rowF l s (kOf f) n
  | 0 => rfl
  | n + 1 => by
    show findE (gSym (gObj l n) (ob l n).f4 (n : Int) (ob l n).f4.length) s f = _
    rw [findE_gSym, findE_gObj l s f n]
    rfl
def findF (l : List ObjT) (s : ByteArray) (n : Nat) : Int × Int × Bool := match rowF l s 1 n with
  | some (i, a) => (i, a, true)
  | none => match rowF l s 2 n with
    | some (i, a) => (i, a, true)
    | none => (0, 0, false)
theorem findR_gObj (l : List ObjT) (s : ByteArray) (n : Nat) : findR (gObj l n) s = findF l s n := by
  unfold findR findF
  rw [findE_gObj, findE_gObj]
  rfl
/-- is symbol k of object i a Global one whose name was there? -/
def twice (l : List ObjT) (i k : Nat) : Prop := (sy (ob l i).f4 k).f1 = 1 ∧ (firstF l (sy (ob l i).f4 k).f0 1 i k).isSome = true
theorem putB_first (l : List ObjT) (i k : Nat) (s : ByteArray) : putB (gSym (gObj l i) (ob l i).f4 (i : Int) k) s 1 = (firstF l s 1 i k).isSome := by
  unfold putB
  rw [if_pos rfl, findE_gSym, findE_gObj]
  rfl
/-- the first that is wrong, of all objects' symbols. -/
structure FirstBad (l : List ObjT) (bad : Nat → Nat → Prop) (i k : Nat) : Prop where
  hi : i < l.length
  hk : k < (ob l i).f4.length
  here : bad i k
  row : ∀ q, q < k → ¬ bad i q
  rows : ∀ p, p < i → ∀ q, q < (ob l p).f4.length → ¬ bad p q
def NoneBad (l : List ObjT) (bad : Nat → Nat → Prop) : Prop := ∀ p, p < l.length → ∀ q, q < (ob l p).f4.length → ¬ bad p q
theorem least (P : Nat → Prop) : ∀ n, (∀ q, q < n → ¬ P q) ∨ ∃ k, k < n ∧ P k ∧ ∀ q, q < k → ¬ P q
  | 0 => .inl fun q h => absurd h (Nat.not_lt_zero _)
  | n + 1 => by
    rcases least P n with h | ⟨k, h1, h2, h3⟩
    · by_cases c : P n
      · exact .inr ⟨n, Nat.lt_succ_self n, c, h⟩
      · refine .inl fun q hq hP => ?_
        by_cases e : q = n
        · subst e; exact c hP
        · exact h q (by omega) hP
    · exact .inr ⟨k, by omega, h2, h3⟩
theorem bad_or (l : List ObjT) (bad : Nat → Nat → Prop) : NoneBad l bad ∨ ∃ i k, FirstBad l bad i k := by
  rcases least (fun p => ∃ q, q < (ob l p).f4.length ∧ bad p q) l.length with h | ⟨i, h1, ⟨q0, h2, h3⟩, h4⟩
  · exact .inl fun p hp q hq hb => h p hp ⟨q, hq, hb⟩
  · rcases least (bad i) (ob l i).f4.length with h | ⟨k, g1, g2, g3⟩
    · exact absurd h3 (h q0 h2)
    · exact .inr ⟨i, k, h1, g1, g2, g3, fun p hp q hq hb => h4 p hp ⟨q, hq, hb⟩⟩
theorem atStep_eq (l : List ObjT) (i j : Nat) (a : Int × Int) (hn : ¬ twice l i j) : atStep a (gSym (gObj l i) (ob l i).f4 (i : Int) j) (sy (ob l i).f4 j) (i : Int) (j : Int) = a := by
  unfold atStep
  split
  · rename_i h
    split
    · split
      · rename_i h1
        exact absurd ⟨h1, by rw [← putB_first, ← h1]; exact h⟩ hn
      · rfl
    · rfl
  · rfl
theorem atStep_hit (l : List ObjT) (i j : Nat) (a : Int × Int) (ha : a.1 < 0) (hn : twice l i j) : atStep a (gSym (gObj l i) (ob l i).f4 (i : Int) j) (sy (ob l i).f4 j) (i : Int) (j : Int) = ((i : Int), (j : Int)) := by
  unfold atStep
  rw [if_pos (by rw [hn.1, putB_first]; exact hn.2), if_pos ha, if_pos hn.1]
theorem atStep_stay (a : Int × Int) (L : List Ent) (s : Sym) (i k : Int) (ha : ¬ a.1 < 0) : atStep a L s i k = a := by
  unfold atStep
  simp only [if_neg ha]
  split <;> rfl
theorem aSym_none (l : List ObjT) (i : Nat) (a : Int × Int) : ∀ j, (∀ q, q < j → ¬ twice l i q) → aSym a (gObj l i) (ob l i).f4 (i : Int) j = a
  | 0, _ => rfl
  | j + 1, h => by
    show atStep (aSym a (gObj l i) (ob l i).f4 (i : Int) j) _ _ _ _ = a
    rw [aSym_none l i a j (fun q hq => h q (by omega))]
    exact atStep_eq l i j a (h j (by omega))
theorem aSym_stay (L0 : List Ent) (syms : List Sym) (i : Int) (a : Int × Int) (ha : ¬ a.1 < 0) : ∀ j, aSym a L0 syms i j = a
  | 0 => rfl
  | j + 1 => by
    show atStep (aSym a L0 syms i j) _ _ _ _ = a
    rw [aSym_stay L0 syms i a ha j]
    exact atStep_stay a _ _ _ _ ha
theorem aSym_from (L0 : List Ent) (syms : List Sym) (i : Int) (a b : Int × Int) (k : Nat) (hb : ¬ b.1 < 0) (h : aSym a L0 syms i k = b) : ∀ d, aSym a L0 syms i (k + d) = b
  | 0 => h
  | d + 1 => by
    show atStep (aSym a L0 syms i (k + d)) _ _ _ _ = b
    rw [aSym_from L0 syms i a b k hb h d]
    exact atStep_stay b _ _ _ _ hb
theorem aObj_none (l : List ObjT) : ∀ n, (∀ p, p < n → ∀ q, q < (ob l p).f4.length → ¬ twice l p q) → aObj l n = (-1, -1)
  | 0, _ => rfl
  | n + 1, h => by
    show aSym (aObj l n) (gObj l n) (ob l n).f4 (n : Int) (ob l n).f4.length = _
    rw [aObj_none l n (fun p hp => h p (by omega))]
    exact aSym_none l n _ _ (h n (by omega))
theorem aObj_stay (l : List ObjT) (b : Int × Int) (hb : ¬ b.1 < 0) (n : Nat) (h : aObj l n = b) : ∀ d, aObj l (n + d) = b
  | 0 => h
  | d + 1 => by
    show aSym (aObj l (n + d)) _ _ _ _ = b
    rw [aObj_stay l b hb n h d]
    exact aSym_stay _ _ _ b hb _
theorem aObj_first (l : List ObjT) {i k : Nat} (h : FirstBad l (twice l) i k) : aObj l l.length = ((i : Int), (k : Int)) := by
  have hnn : ¬ ((i : Int), (k : Int)).1 < 0 := by simp
  have h1 : aObj l (i + 1) = ((i : Int), (k : Int)) := by
    show aSym (aObj l i) (gObj l i) (ob l i).f4 (i : Int) (ob l i).f4.length = _
    rw [aObj_none l i h.rows]
    have h2 : aSym (-1, -1) (gObj l i) (ob l i).f4 (i : Int) (k + 1) = ((i : Int), (k : Int)) := by
      show atStep (aSym (-1, -1) (gObj l i) (ob l i).f4 (i : Int) k) _ _ _ _ = _
      rw [aSym_none l i _ k h.row]
      exact atStep_hit l i k _ (by decide) h.here
    have := aSym_from _ _ _ _ _ _ hnn h2 ((ob l i).f4.length - (k + 1))
    rwa [show k + 1 + ((ob l i).f4.length - (k + 1)) = (ob l i).f4.length by have := h.hk; omega] at this
  have := aObj_stay l _ hnn _ h1 (l.length - (i + 1))
  rwa [show i + 1 + (l.length - (i + 1)) = l.length by have := h.hi; omega] at this
/-- has symbol k of object i no place? -/
def unbound (L : List Ent) (l : List ObjT) (i k : Nat) : Prop := symX L (i : Int) (sy (ob l i).f4 k) = none
def rowL (L : List Ent) (syms : List Sym) (i : Int) : Nat → List DefT
  | 0 => []
  | j + 1 => rowL L syms i j ++ (symX L i (sy syms j)).toList
def rowsL (L : List Ent) (l : List ObjT) : Nat → List (List DefT)
  | 0 => []
  | i + 1 => rowsL L l i ++ [rowL L (ob l i).f4 (i : Int) (ob l i).f4.length]
theorem rowX_none (L : List Ent) (l : List ObjT) (i : Nat) : ∀ j, (∀ q, q < j → ¬ unbound L l i q) → rowX L (ob l i).f4 (i : Int) j = (rowL L (ob l i).f4 (i : Int) j, none)
  | 0, _ => rfl
  | j + 1, h => by
    have h1 := rowX_none L l i j (fun q hq => h q (by omega))
    have h2 := h j (by omega)
    unfold unbound at h2
    unfold rowX rowL
    rw [h1]
    cases hx : symX L (i : Int) (sy (ob l i).f4 j) with
    | none => exact absurd hx h2
    | some x => rfl
theorem rowX_from (L : List Ent) (syms : List Sym) (i : Int) (k j : Nat) (d : List DefT) (h : rowX L syms i k = (d, some j)) : ∀ m, rowX L syms i (k + m) = (d, some j)
  | 0 => h
  | m + 1 => by
    have := rowX_from L syms i k j d h m
    show rowX L syms i ((k + m) + 1) = _
    unfold rowX
    rw [this]
theorem rowX_first (L : List Ent) (l : List ObjT) {i k : Nat} (hk : k < (ob l i).f4.length) (hu : unbound L l i k) (h : ∀ q, q < k → ¬ unbound L l i q) : ∃ d, rowX L (ob l i).f4 (i : Int) (ob l i).f4.length = (d, some k) := by
  have h1 := rowX_none L l i k h
  have h2 : rowX L (ob l i).f4 (i : Int) (k + 1) = (rowL L (ob l i).f4 (i : Int) k, some k) := by
    unfold rowX
    rw [h1]
    unfold unbound at hu
    simp only [hu]
  refine ⟨rowL L (ob l i).f4 (i : Int) k, ?_⟩
  have := rowX_from _ _ _ _ _ _ h2 ((ob l i).f4.length - (k + 1))
  rwa [show k + 1 + ((ob l i).f4.length - (k + 1)) = (ob l i).f4.length by omega] at this
theorem rowsX_none (L : List Ent) (l : List ObjT) : ∀ n, (∀ p, p < n → ∀ q, q < (ob l p).f4.length → ¬ unbound L l p q) → rowsX L l n = (rowsL L l n, none)
  | 0, _ => rfl
  | n + 1, h => by
    have h1 := rowsX_none L l n (fun p hp => h p (by omega))
    have h2 := rowX_none L l n _ (h n (by omega))
    unfold rowsX rowsL
    rw [h1]
    simp only [h2]
theorem rowsX_from (L : List Ent) (l : List ObjT) (n : Nat) (d : List (List DefT)) (p : Nat × Nat) (h : rowsX L l n = (d, some p)) : ∀ m, rowsX L l (n + m) = (d, some p)
  | 0 => h
  | m + 1 => by
    have := rowsX_from L l n d p h m
    show rowsX L l ((n + m) + 1) = _
    unfold rowsX
    rw [this]
theorem rowsX_first (L : List Ent) (l : List ObjT) {i k : Nat} (h : FirstBad l (unbound L l) i k) : ∃ d, rowsX L l l.length = (d, some (i, k)) := by
  have h1 := rowsX_none L l i h.rows
  obtain ⟨x, h2⟩ := rowX_first L l h.hk h.here h.row
  have h3 : rowsX L l (i + 1) = (rowsL L l i, some (i, k)) := by
    unfold rowsX
    rw [h1]
    simp only [h2]
  refine ⟨rowsL L l i, ?_⟩
  have := rowsX_from _ _ _ _ _ h3 (l.length - (i + 1))
  rwa [show i + 1 + (l.length - (i + 1)) = l.length by have := h.hi; omega] at this
/-- what is told of objects whose own checks pass. -/
inductive Told (l : List ObjT) : List (List DefT) × Int × Int × Int → Prop
  | two {i k : Nat} (h : FirstBad l (twice l) i k) : Told l ([], 26, (i : Int), (k : Int))
  | un {i k : Nat} (h0 : NoneBad l (twice l)) (h : FirstBad l (unbound (gObj l l.length) l) i k) : Told l ([], 40, (i : Int), (k : Int))
  | ok (h0 : NoneBad l (twice l)) (h : NoneBad l (unbound (gObj l l.length) l)) : Told l (rowsL (gObj l l.length) l l.length, 0, 0, 0)
theorem resolve_told (l : List ObjT) (hn : l.length ≤ 32) (hc : chkR l l.length = some none) : ∃ x, resolveR l = some x ∧ Told l x := by
  unfold resolveR
  rw [if_neg (by omega), hc]
  rcases bad_or l (twice l) with h | ⟨i, k, h⟩
  · rw [aObj_none l l.length h]
    simp only
    rw [if_neg (by decide)]
    rcases bad_or l (unbound (gObj l l.length) l) with g | ⟨i, k, g⟩
    · rw [rowsX_none _ l l.length g]
      exact ⟨_, rfl, .ok h g⟩
    · obtain ⟨d, hd⟩ := rowsX_first _ l g
      rw [hd]
      exact ⟨_, rfl, .un h g⟩
  · rw [aObj_first l h]
    simp only
    rw [if_pos (by omega)]
    exact ⟨_, rfl, .two h⟩
end Go.Proofs.Ytiaohbbafaaibab.P

/- OWN TEXT: a list of lists of places that a call makes, a row of which an append turns: what it holds. -/
namespace Go.Proofs.Ytiaohbbafaaibab.P
open Go.RowKit Go.Maps Go.Proofs.YtiaohbbafaaibabW.PrintWords Go.Proofs.YtiaohbbafaaibabW.PrintLast Go.Proofs.YtiaohbbafaaibabW.PrintMore Go.Proofs.Ytiaohbbafaaibab.Arr Go.Proofs.Ytiaohbbafaaibab.MapB Go.Proofs.Ytiaohbbafaaibab.SymM
set_option linter.unusedVariables false
set_option linter.unusedSimpArgs false
abbrev RowsIs (W : World) (lo : Nat) (ok : Nat → Prop) (v : Value) (rows : List (List DefT)) : Prop := Kd.S (Kd.slice 54 k54) 61 W lo ok v rows
abbrev RowIs (W : World) (lo : Nat) (ok : Nat → Prop) (v : Value) (row : List DefT) : Prop := Kd.R k54 54 W lo ok v row
structure R2 (w W : World) (ga gl b : Nat) (at_ : Int × Int) (ol : Obj) (L : List Ent) (ok : Nat → Prop) (v : Value) (rows : List (List DefT)) : Prop where
  low : Below w.heap.size w W
  nm : NMap W b L
  hat : W.heap[ga]? = some (atCell at_.1 at_.2)
  hl : W.heap[gl]? = some ol
  own : RowsIs W w.heap.size ok v rows
  ba : w.heap.size ≤ ga
theorem R2.below {w W W1 : World} {ga gl b : Nat} {at_ : Int × Int} {ol : Obj} {L : List Ent} {ok : Nat → Prop} {v : Value} {rows : List (List DefT)} (h : R2 w W ga gl b at_ ol L ok v rows) (hb : Below W.heap.size W W1) : R2 w W1 ga gl b at_ ol L ok v rows :=
  ⟨below_then h.low h.low.size hb, h.nm.below hb, blk_below h.hat hb, blk_below h.hl hb, Kd.S_below h.own hb, h.ba⟩
theorem R2.mono {w W : World} {ga gl b : Nat} {at_ : Int × Int} {ol : Obj} {L : List Ent} {ok ok' : Nat → Prop} {v : Value} {rows : List (List DefT)} (h : R2 w W ga gl b at_ ol L ok v rows) (hk : ∀ k, ok k → ok' k) : R2 w W ga gl b at_ ol L ok' v rows :=
  ⟨h.low, h.nm, h.hat, h.hl, Kd.S_mono h.own hk, h.ba⟩
/-- a new block g: no row's. -/
theorem R2.box {w W W1 : World} {ga gl b g : Nat} {at_ : Int × Int} {ol : Obj} {L : List Ent} {ok : Nat → Prop} {v : Value} {rows : List (List DefT)} (h : R2 w W ga gl b at_ ol L ok v rows) (hb : Below W.heap.size W W1) (hg : W.heap.size ≤ g) : R2 w W1 ga gl b at_ ol L (fun k => ok k ∧ k ≠ g) v rows :=
  ⟨below_then h.low h.low.size hb, h.nm.below hb, blk_below h.hat hb, blk_below h.hl hb, Kd.S_mono (Kd.S_old h.own hb) (fun k hk => ⟨hk.1, by have := hk.2; omega⟩), h.ba⟩
theorem R2.put {w W W1 : World} {ga gl b g : Nat} {at_ : Int × Int} {ol : Obj} {L : List Ent} {ok : Nat → Prop} {v : Value} {rows : List (List DefT)} {cs : Array Value} {e : TypeId} (h : R2 w W ga gl b at_ ol L ok v rows) (hp : Put W W1 g cs e) (hg : w.heap.size ≤ g) (h1 : ga ≠ g) (h2 : gl ≠ g) (h3 : b ≠ g) (hk : ∀ k, ok k → k ≠ g) : R2 w W1 ga gl b at_ ol L ok v rows :=
  ⟨hp.below h.low hg, h.nm.kept (put_grownN hp) (fun e => h3 (Option.some.inj e)), blk_grown h.hat (put_grownN hp) (fun e => h1 (Option.some.inj e)), blk_grown h.hl (put_grownN hp) (fun e => h2 (Option.some.inj e)), Kd.S_grown h.own (put_grownN hp) (fun k ho e => hk k ho (Option.some.inj e)), h.ba⟩
theorem cell_same {W W1 : World} {a : Addr} (h : W1.heap[a.block]? = W.heap[a.block]?) : W1.cell? a = W.cell? a := by
  unfold World.cell?
  rw [h]
theorem frozen_same {W W1 : World} {a : Addr} (h : W1.heap[a.block]? = W.heap[a.block]?) : W1.frozen? a = W.frozen? a := by
  unfold World.frozen?
  rw [h]
theorem nmap_ne {W : World} {b g : Nat} {L : List Ent} {cells : Array Value} {e : TypeId} (h : NMap W b L) (hb : W.heap[g]? = some (.cells cells e (0, 0))) : b ≠ g := by
  rintro rfl
  obtain ⟨es, clock, h1, _⟩ := h
  rw [h1] at hb
  cases hb
/-- row i, lent out for an append; what is stored then. -/
theorem R2.row {w W : World} {ga gl b gd n c i : Nat} {at_ : Int × Int} {L : List Ent} {ok : Nat → Prop} {rows : List (List DefT)} {Al : Option Addr} {nl cl : Nat} (h : R2 w W ga gl b at_ (lCell Al nl cl) L ok (.slice (some ⟨gd, 0, none⟩) n c) rows) (hi : i < n) (hf : ∀ k, W.heap.size ≤ k → ok k) (x : DefT) :
    ∃ (vi : Value) (okA : Nat → Prop), W.cell? ⟨gd, i, none⟩ = some vi ∧ gd < W.heap.size ∧ RowIs W w.heap.size okA vi (rows.getD i []) ∧ (∀ k, W.heap.size ≤ k → okA k) ∧ (∀ k, okA k → ok k) ∧
      ∀ v1 w1, RowIs w1 w.heap.size okA v1 (rows.getD i [] ++ [x]) → Below w.heap.size w w1 → W.grownBy w1 vi.ownBlock →
        w1.cell? ⟨gd, i, none⟩ = some vi ∧ w1.frozen? ⟨gd, i, none⟩ = false ∧ R2 w (w1.setCell ⟨gd, i, none⟩ v1) ga gl b at_ (lCell Al nl cl) L ok (.slice (some ⟨gd, 0, none⟩) n c) (rows.set i (rows.getD i [] ++ [x])) := by
  obtain ⟨oki, cs, hcl, hM, hcc, hfr, hoki, hH⟩ := Kd.S_elem h.own [] (i : Int) (by omega) (by omega)
  rw [show ((i : Int)).toNat = i by omega] at hM hcc hfr
  obtain ⟨vi, rfl, hR⟩ := hM
  simp only [show (Kd.slice 54 k54).sz = 1 from rfl, Nat.mul_one] at hcc hfr
  have hc0 := hcc 0 vi rfl
  have hf0 := hfr 0
  rw [Nat.add_zero] at hc0 hf0
  have hgd : gd < W.heap.size := World.block_lt_of_cell? W _ hc0
  have hty : ∀ k, vi.ownBlock = some k → ∃ cells, W.heap[k]? = some (.cells cells 54 (0, 0)) := Kd.R_typed hR
  have hsl := Kd.S_typed h.own gd (by simp [Value.ownBlock])
  have hdb : w.heap.size ≤ gd := Kd.S_base h.own gd (by simp [Value.ownBlock])
  refine ⟨vi, fun k => oki k ∨ ok k ∧ W.heap.size ≤ k, hc0, hgd, Kd.R_mono hR (fun k hk => .inl hk), fun k hk => .inr ⟨hf k hk, hk⟩, fun k hk => hk.elim (fun h2 => (hoki k h2).1) (fun h2 => h2.1), ?_⟩
  intro v1 w1 hr hb hg
  have hgdo : ∀ k, vi.ownBlock = some k → k ≠ gd := fun k hk => (hoki k (hR.1 k hk)).2
  have hblk : w1.heap[gd]? = W.heap[gd]? := hg.block gd hgd (fun e => hgdo gd e.symm rfl)
  have hone := (Kd.R_val hr).2
  have hH1 := Kd.H_grown (Kd.H_widen hH) hg (fun k hk => .inl (hR.1 k hk))
  obtain ⟨hH2, hg2⟩ := Kd.H_seg hH1 (by omega) (by omega) (seg := [v1]) (j := 0) (by show 0 + 1 ≤ 1; omega) (by intro q hq; rw [List.mem_singleton.1 hq]; exact hone)
  rw [show ((i : Int)).toNat = i by omega, show i * (Kd.slice 54 k54).sz + 0 = i by show i * 1 + 0 = i; omega] at hH2 hg2
  have hset : w1.setCells gd i [v1] = w1.setCell ⟨gd, i, none⟩ v1 := rfl
  rw [hset] at hH2 hg2
  have hR2 : RowIs (w1.setCell ⟨gd, i, none⟩ v1) w.heap.size (fun k => oki k ∨ ok k ∧ W.heap.size ≤ k) v1 (rows.getD i [] ++ [x]) := Kd.R_grown hr hg2 (fun k hk e => by
    have := Option.some.inj e
    subst this
    rcases hk with hk | hk
    · exact (hoki _ hk).2 rfl
    · omega)
  have hS := Kd.H_back hH2 (x' := rows.getD i [] ++ [x]) ⟨v1, rfl, hR2⟩ (fun _ hk => hk)
  rw [show ((i : Int)).toNat = i by omega] at hS
  obtain ⟨cl0, hcl0⟩ := hsl
  have nb : b ≠ gd := nmap_ne h.nm hcl0
  have na : ga ≠ gd := by rintro rfl; rw [h.hat] at hcl0; injection hcl0 with e; injection e with _ e; exact absurd e (by decide)
  have nl_ : gl ≠ gd := by rintro rfl; rw [h.hl] at hcl0; injection hcl0 with e; injection e with _ e; exact absurd e (by decide)
  have vb : some b ≠ vi.ownBlock := fun e => by obtain ⟨c2, hc2⟩ := hty b e.symm; exact nmap_ne h.nm hc2 rfl
  have va : some ga ≠ vi.ownBlock := fun e => by obtain ⟨c2, hc2⟩ := hty ga e.symm; rw [h.hat] at hc2; injection hc2 with e; injection e with _ e; exact absurd e (by decide)
  have vl : some gl ≠ vi.ownBlock := fun e => by obtain ⟨c2, hc2⟩ := hty gl e.symm; rw [h.hl] at hc2; injection hc2 with e; injection e with _ e; exact absurd e (by decide)
  refine ⟨(cell_same hblk).trans hc0, (frozen_same hblk).trans hf0, ?_, ?_, ?_, ?_, hS, h.ba⟩
  · exact pw_below_grown hb (some gd) hb.size hg2 (fun k hk => by have := Option.some.inj hk; omega)
  · exact (h.nm.kept hg vb).kept hg2 (fun e => nb (Option.some.inj e))
  · exact blk_grown (blk_grown h.hat hg va) hg2 (fun e => na (Option.some.inj e))
  · exact blk_grown (blk_grown h.hl hg vl) hg2 (fun e => nl_ (Option.some.inj e))
/-- the rows while they are being made: those that are done, the one under way, the empty ones. -/
theorem set_mid {α : Type} (A : List α) (r r' z : α) (B : List α) (i : Nat) (h : A.length = i) : (A ++ r :: B).set i r' = A ++ r' :: B ∧ (A ++ r :: B).getD i z = r := by
  subst h
  constructor
  · rw [List.set_append_right _ _ (Nat.le_refl _), Nat.sub_self]; rfl
  · rw [List.getD_eq_getElem?_getD, List.getElem?_append_right (Nat.le_refl _), Nat.sub_self]; rfl
theorem rowsX_length (L : List Ent) (l : List ObjT) : ∀ n, (rowsX L l n).2 = none → (rowsX L l n).1.length = n
  | 0, _ => rfl
  | n + 1, h => by
    unfold rowsX at h ⊢
    have ih := rowsX_length L l n
    cases hq : rowsX L l n with
    | mk d o =>
      rw [hq] at h ih
      cases o with
      | some k => simp at h
      | none =>
        simp only at h ih ⊢
        cases hr : rowX L (ob l n).f4 (n : Int) (ob l n).f4.length with
        | mk x o2 =>
          rw [hr] at h
          cases o2 with
          | some j => simp at h
          | none =>
            simp only
            rw [List.length_append, ih trivial]
            rfl
theorem rowX_length (L : List Ent) (syms : List Sym) (i : Int) : ∀ n, (rowX L syms i n).2 = none → (rowX L syms i n).1.length = n
  | 0, _ => rfl
  | n + 1, h => by
    unfold rowX at h ⊢
    have ih := rowX_length L syms i n
    cases hq : rowX L syms i n with
    | mk d o =>
      rw [hq] at h ih
      cases o with
      | some k => simp at h
      | none =>
        simp only at h ih ⊢
        cases hr : symX L i (sy syms n) with
        | none => rw [hr] at h; simp at h
        | some x =>
          simp only
          rw [List.length_append, ih trivial]
          rfl
theorem rowX_step {L : List Ent} {syms : List Sym} {i : Int} {j : Nat} {x : DefT} (h : (rowX L syms i j).2 = none) (hx : symX L i (sy syms j) = some x) : rowX L syms i (j + 1) = ((rowX L syms i j).1 ++ [x], none) := by
  show (match rowX L syms i j with | (d, some k) => (d, some k) | (d, none) => _) = _
  cases hq : rowX L syms i j with
  | mk d o =>
    rw [hq] at h
    simp only at h
    subst h
    simp only [hx]
theorem rowsX_step {L : List Ent} {l : List ObjT} {i : Nat} (h : (rowsX L l i).2 = none) (hx : (rowX L (ob l i).f4 (i : Int) (ob l i).f4.length).2 = none) : rowsX L l (i + 1) = ((rowsX L l i).1 ++ [(rowX L (ob l i).f4 (i : Int) (ob l i).f4.length).1], none) := by
  show (match rowsX L l i with | (d, some k) => (d, some k) | (d, none) => _) = _
  cases hq : rowsX L l i with
  | mk d o =>
    rw [hq] at h
    simp only at h
    subst h
    cases hr : rowX L (ob l i).f4 (i : Int) (ob l i).f4.length with
    | mk d2 o2 =>
      rw [hr] at hx
      simp only at hx
      subst hx
      rfl
theorem rowsX_stop {L : List Ent} {l : List ObjT} {i j : Nat} (h1 : (rowsX L l i).2 = none) (h2 : (rowX L (ob l i).f4 (i : Int) j).2 = none) (h3 : symX L (i : Int) (sy (ob l i).f4 j) = none) (hi : i < l.length) (hj : j < (ob l i).f4.length) : ∃ d, rowsX L l l.length = (d, some (i, j)) := by
  have a1 : rowX L (ob l i).f4 (i : Int) (j + 1) = ((rowX L (ob l i).f4 (i : Int) j).1, some j) := by
    show (match rowX L (ob l i).f4 (i : Int) j with | (d, some k) => (d, some k) | (d, none) => _) = _
    cases hq : rowX L (ob l i).f4 (i : Int) j with
    | mk d o =>
      rw [hq] at h2
      simp only at h2
      subst h2
      simp only [h3]
  have a2 := rowX_from _ _ _ _ _ _ a1 ((ob l i).f4.length - (j + 1))
  rw [show j + 1 + ((ob l i).f4.length - (j + 1)) = (ob l i).f4.length by omega] at a2
  have a3 : rowsX L l (i + 1) = ((rowsX L l i).1, some (i, j)) := by
    show (match rowsX L l i with | (d, some k) => (d, some k) | (d, none) => _) = _
    cases hq : rowsX L l i with
    | mk d o =>
      rw [hq] at h1
      simp only at h1
      subst h1
      simp only [a2]
  have a4 := rowsX_from _ _ _ _ _ a3 (l.length - (i + 1))
  rw [show i + 1 + (l.length - (i + 1)) = l.length by omega] at a4
  exact ⟨_, a4⟩
theorem rep_step {α : Type} (A : List (List α)) (n i : Nat) (h : i < n) : A ++ List.replicate (n - i) ([] : List α) = A ++ ([] : List α) :: List.replicate (n - (i + 1)) [] := by
  rw [show n - i = (n - (i + 1)) + 1 by omega, List.replicate_succ]
end Go.Proofs.Ytiaohbbafaaibab.P

/- OWN TEXT: what binding means, over plain lists. -/
namespace Go.Proofs.Ytiaohbbafaaibab.P
open Go.RowKit Go.Maps Go.Proofs.YtiaohbbafaaibabW.PrintWords Go.Proofs.YtiaohbbafaaibabW.PrintLast Go.Proofs.YtiaohbbafaaibabW.PrintMore Go.Proofs.Ytiaohbbafaaibab.Arr Go.Proofs.Ytiaohbbafaaibab.MapB Go.Proofs.Ytiaohbbafaaibab.SymM
set_option linter.unusedVariables false
set_option linter.unusedSimpArgs false
def dx (d : List (List DefT)) (i k : Nat) : DefT := rd_T54 (rd_L15 d (i : Int)) (k : Int)
def newName : ByteArray := ⟨#[111, 110, 101, 46, 109, 111, 114, 101, 46, 111, 98, 106, 101, 99, 116, 46, 104, 101, 114, 101, 95]⟩
def newObj (s : ByteArray) : ObjT := ⟨newName, [], 0, [], [⟨s, 3, 0⟩], []⟩
structure BoundAt (l : List ObjT) (i k : Nat) (x : DefT) : Prop where
  ok : ∃ (o : Nat) (a : Int), x = ⟨(o : Int), a⟩ ∧ o < l.length ∧ 0 ≤ a ∧ a ≤ ((ob l o).f1.length : Int) ∧ ((sy (ob l i).f4 k).f1 = 0 ∨ (sy (ob l i).f4 k).f1 = 1 → o = i ∧ a = (sy (ob l i).f4 k).f2) ∧ ((sy (ob l i).f4 k).f1 ≠ 0 → symbol_Find.f l (sy (ob l i).f4 k).f0 = some ((o : Int), a, true)) ∧ ∃ r, symbol_Find.f l (sy (ob l i).f4 k).f0 = some r
structure Bound (l : List ObjT) (d : List (List DefT)) : Prop where
  len : d.length = l.length
  row : ∀ i, i < l.length → (rd_L15 d (i : Int)).length = (ob l i).f4.length
  syms : ∀ i, i < l.length → (ob l i).f4.length ≤ 100000000
  each : ∀ i k, i < l.length → k < (ob l i).f4.length → BoundAt l i k (dx d i k)
  more : ∀ p k, p < l.length → k < (ob l p).f4.length → (sy (ob l p).f4 k).f1 = 1 → (∀ i, i < l.length → (ob l i).f0 ≠ newName) → symbol_Resolve.f (l ++ [newObj (sy (ob l p).f4 k).f0]) = some (d ++ [[dx d p k]], 0, 0, 0)
end Go.Proofs.Ytiaohbbafaaibab.P

/- OWN TEXT: what object.relocs comes to (it marks places in an array, which the print does not take). -/
namespace Go.Proofs.Ytiaohbbafaaibab.P
open Go.RowKit Go.Maps Go.Proofs.YtiaohbbafaaibabW.PrintWords Go.Proofs.YtiaohbbafaaibabW.PrintLast Go.Proofs.YtiaohbbafaaibabW.PrintMore Go.Proofs.Ytiaohbbafaaibab.Arr Go.Proofs.Ytiaohbbafaaibab.MapB
set_option linter.unusedVariables false
set_option linter.unusedSimpArgs false

def aggOf : Option Value → Array Value | some (.agg a) => a | _ => #[]
def isF : Value → Bool | .bool false => true | _ => false
def allF : List Value → Nat → Bool
  | [], 0 => true
  | [], _ + 1 => false
  | _ :: _, 0 => false
  | a :: l, n + 1 => isF a && allF l n
theorem allF_len : ∀ {l : List Value} {n : Nat}, allF l n = true → l.length = n ∧ ∀ k, k < n → l[k]? = some (.bool false)
  | [], 0, _ => ⟨rfl, fun k hk => by omega⟩
  | a :: l, n + 1, h => by
    unfold allF at h
    rw [Bool.and_eq_true] at h
    have IH := allF_len h.2
    refine ⟨by simp [IH.1], fun k hk => ?_⟩
    cases k with
    | zero =>
      have := h.1
      unfold isF at this
      split at this
      · rfl
      · cases this
    | succ k => simpa using IH.2 k (by omega)
theorem zMark_all : allF (aggOf Try.t91.zero).toList 16384 = true := by kernel_rfl
theorem run_mark (w : World) : (Instr.alloc 91 true (.tuple #[])).run Try.prog w = .ok (.pointer (some ⟨w.heap.size, 0, none⟩)) (w.alloc (.cells (aggOf Try.t91.zero) 91)) := by kernel_rfl
def Named (W : World) (g : Nat) (N : Nat → Bool) : Prop := ∃ Z : Array Value, W.heap[g]? = some (.cells Z 91 (0, 0)) ∧ Z.size = 16384 ∧ ∀ k, k < 16384 → Z[k]? = some (.bool (N k))
theorem mark_zero : ∃ Z : Array Value, allF Z.toList 16384 = true ∧ ∀ w : World, (Instr.alloc 91 true (.tuple #[])).run Try.prog w = .ok (.pointer (some ⟨w.heap.size, 0, none⟩)) (w.alloc (.cells Z 91)) := ⟨_, zMark_all, run_mark⟩
theorem exec_mark {Z : Array Value} (hrun : ∀ w : World, (Instr.alloc 91 true (.tuple #[])).run Try.prog w = .ok (.pointer (some ⟨w.heap.size, 0, none⟩)) (w.alloc (.cells Z 91))) {ev : Operand → Value} {o : Oper} (ho : o.op = .alloc 91) (W : World) :
    (execOp ev o).run Try.prog W = .ok (.value (.pointer (some ⟨W.heap.size, 0, none⟩))) (W.alloc (.cells Z 91)) := by
  unfold execOp
  rw [ho]
  simp only [Sem.run_bind, hrun, Result.andThen_ok, Sem.run_pure]
theorem Named.start {W : World} {g : Nat} {Z : Array Value} (hZ : allF Z.toList 16384 = true) (h : W.heap[g]? = some (.cells Z 91 (0, 0))) : Named W g (fun _ => false) := by
  obtain ⟨h1, h2⟩ := allF_len hZ
  exact ⟨_, h, by rw [← h1]; simp, fun k hk => by rw [← h2 k hk]; simp⟩
theorem Named.cell {W : World} {g : Nat} {N : Nat → Bool} (h : Named W g N) {k : Nat} (hk : k < 16384) : W.cell? ⟨g, k, none⟩ = some (.bool (N k)) := by
  obtain ⟨Z, h1, h2, h3⟩ := h
  rw [blk_cell h1 k, h3 k hk]
structure OR (w W : World) (gb : Nat) (oi : Obj) (gr gn : Nat) (N : Nat → Bool) : Prop where
  low : Below w.heap.size w W
  obj : W.heap[gb]? = some oi
  res : W.heap[gr]? = some (ansCell 0 0)
  nam : Named W gn N
  n1 : gb ≠ gn
  n2 : gr ≠ gn
  g1 : w.heap.size ≤ gr
  g2 : w.heap.size ≤ gn
theorem Named.grown {W W1 : World} {g : Nat} {N : Nat → Bool} {row : Option Nat} (h : Named W g N) (hg : W.grownBy W1 row) (hne : some g ≠ row) : Named W1 g N := by
  obtain ⟨Z, h1, h2, h3⟩ := h
  exact ⟨Z, blk_grown h1 hg hne, h2, h3⟩
theorem OR.below {w W W1 : World} {gb gr gn : Nat} {oi : Obj} {N : Nat → Bool} (h : OR w W gb oi gr gn N) (hb : Below W.heap.size W W1) : OR w W1 gb oi gr gn N :=
  ⟨below_then h.low h.low.size hb, blk_below h.obj hb, blk_below h.res hb, h.nam.grown (grown_of_below hb none) (by simp), h.n1, h.n2, h.g1, h.g2⟩
theorem OR.grown {w W W1 : World} {gb gr gn g : Nat} {oi : Obj} {N : Nat → Bool} (h : OR w W gb oi gr gn N) (hg : W.grownBy W1 (some g)) (hw : w.heap.size ≤ g) (h1 : gb ≠ g) (h2 : gr ≠ g) (h3 : gn ≠ g) : OR w W1 gb oi gr gn N :=
  ⟨pw_below_grown h.low (some g) h.low.size hg (fun k hk => by have := Option.some.inj hk; omega), blk_grown h.obj hg (fun e => h1 (Option.some.inj e)), blk_grown h.res hg (fun e => h2 (Option.some.inj e)), h.nam.grown hg (fun e => h3 (Option.some.inj e)), h.n1, h.n2, h.g1, h.g2⟩
theorem OR.mark {w W W1 : World} {gb gr gn : Nat} {oi : Obj} {N : Nat → Bool} (h : OR w W gb oi gr gn N) {Z : Array Value} {j : Nat} (hz : Z.size = 16384) (hN : ∀ k, k < 16384 → Z[k]? = some (.bool (N k))) (hj : j < 16384) (hp : Put W W1 gn (Z.setIfInBounds j (.bool true)) 91) : OR w W1 gb oi gr gn (fun k => decide (k = j) || N k) :=
  ⟨hp.below h.low h.g2, blk_grown h.obj (put_grownN hp) (fun e => h.n1 (Option.some.inj e)), blk_grown h.res (put_grownN hp) (fun e => h.n2 (Option.some.inj e)),
   ⟨_, hp.blk, by simp [hz], fun k hk => by
      by_cases e : k = j
      · subst e; simp [hz, hj]
      · rw [Array.getElem?_setIfInBounds_ne (by omega), hN k hk]; simp [e]⟩, h.n1, h.n2, h.g1, h.g2⟩
theorem rel_one (a b : Int) : ((#[.int .i64 a, .int .i64 b] : Array Value).all fun v => v.oneCell') = true := by kernel_rfl
theorem bool_one (W : World) : (sizeOf 4).run Try.prog W = .ok 1 W := by kernel_rfl
theorem relE_eq (code : List Int) (ns : Int) (l : List Rel) (i : Nat) : relE code ns l i = if (rl l i).f0 ≤ lastR l i then 24 else if (rl l i).f0 ≥ (code.length : Int) then 24 else if (rl l i).f1 < 0 then 24 else if (rl l i).f1 ≥ ns then 24 else if (tgtS (rd code (rl l i).f0)).2 = true then (if (tgtS (rd code (rl l i).f0)).1 = 0 then 0 else 24) else 24 := rfl
theorem scanE_eq (code : List Int) (named : Nat → Bool) (k : Nat) : scanE code named k = if (tgtS (rd code (k : Int))).2 = true then (if named k = true then 0 else if (tgtS (rd code (k : Int))).1 > (code.length : Int) then 22 else 0) else 0 := rfl
theorem firstS_at {g : Nat → Int} {n i : Nat} (hi : i < n) (hz : ∀ j, j < i → g j = 0) (hne : g i ≠ 0) : firstS g n n = (g i, (i : Int)) := by
  have : ∀ d j, j + d = i → firstS g n (n - j) = (g i, (i : Int)) := by
    intro d
    induction d with
    | zero => intro j hj; obtain rfl : j = i := by omega
              rw [firstS_step g hi, if_neg hne]
    | succ d ih => intro j hj; rw [firstS_step g (by omega), if_pos (hz j (by omega))]; exact ih (j + 1) (by omega)
  exact this i 0 (by omega)
theorem firstS_zero {g : Nat → Int} {n : Nat} (hz : ∀ j, j < n → g j = 0) : firstS g n n = (0, 0) := by
  have : ∀ d, d ≤ n → firstS g n d = (0, 0) := by
    intro d
    induction d with
    | zero => intro _; rfl
    | succ d ih => intro hd; unfold firstS; rw [if_pos (hz _ (by omega))]; exact ih (by omega)
  exact this n (Nat.le_refl _)
theorem scanS_at {g : Nat → Int} {n i : Nat} (hi : i < n) (hz : ∀ j, j < i → g j = 0) (hne : g i ≠ 0) : scanS g n n = (g i, -1 - (i : Int)) := by
  have : ∀ d j, j + d = i → scanS g n (n - j) = (g i, -1 - (i : Int)) := by
    intro d
    induction d with
    | zero => intro j hj; obtain rfl : j = i := by omega
              rw [scanS_step g hi, if_neg hne]
    | succ d ih => intro j hj; rw [scanS_step g (by omega), if_pos (hz j (by omega))]; exact ih (j + 1) (by omega)
  exact this i 0 (by omega)
theorem scanS_zero {g : Nat → Int} {n : Nat} (hz : ∀ j, j < n → g j = 0) : scanS g n n = (0, 0) := by
  have : ∀ d, d ≤ n → scanS g n d = (0, 0) := by
    intro d
    induction d with
    | zero => intro _; rfl
    | succ d ih => intro hd; unfold scanS; rw [if_pos (hz _ (by omega))]; exact ih (by omega)
  exact this n (Nat.le_refl _)
theorem relocs_first {code : List Int} {ns : Int} {l : List Rel} {i : Nat} (hz : ∀ j, j < i → relE code ns l j = 0) (hi : i < l.length) (hne : relE code ns l i ≠ 0) : relocsS code ns l = (relE code ns l i, (i : Int)) := by
  unfold relocsS
  rw [firstS_at hi hz hne, if_neg hne]
theorem relocs_scan {code : List Int} {ns : Int} {l : List Rel} (hz : ∀ j, j < l.length → relE code ns l j = 0) : relocsS code ns l = scanS (scanE code (markB l l.length)) code.length code.length := by
  unfold relocsS
  rw [firstS_zero hz, if_pos rfl]
theorem Named.cell' {W : World} {g : Nat} {N : Nat → Bool} (h : Named W g N) {k : Nat} (hk : k < 16384) {b : Bool} (e : N k = b) : W.cell? ⟨g, k, none⟩ = some (.bool b) := e ▸ h.cell hk
theorem lastR_lo (code : List Int) (ns : Int) (l : List Rel) : ∀ i, (∀ j, j < i → relE code ns l j = 0) → -1 ≤ lastR l i
  | 0, _ => Int.le_refl _
  | i + 1, h => by
    have h1 := h i (by omega)
    have IH := lastR_lo code ns l i (fun j hj => h j (by omega))
    show -1 ≤ (rl l i).f0
    rw [relE_eq] at h1
    split at h1
    · cases h1
    · omega

set_option maxHeartbeats 8000000 in
set_option maxRecDepth 100000 in
theorem object_relocs.calls (a0_0 : ByteArray) (A0_1 : Option Addr) (c0_1 : Nat) (l0_1 : List Int) (a0_2 : Int) (A0_3 : Option Addr) (c0_3 : Nat) (l0_3 : List Int) (A0_4 : Option Addr) (c0_4 : Nat) (l0_4 : List (S37)) (A0_5 : Option Addr) (c0_5 : Nat) (l0_5 : List (S41)) (r1 r2 : Int) (w : World) (hr0_1 : Kd.C (Kd.int .u32) w A0_1 l0_1.length l0_1) (hc0_1 : l0_1.length ≤ c0_1) (hr0_3 : Kd.C (Kd.int .i64) w A0_3 l0_3.length l0_3) (hc0_3 : l0_3.length ≤ c0_3) (hr0_4 : Kd.C k37 w A0_4 l0_4.length l0_4) (hc0_4 : l0_4.length ≤ c0_4) (hr0_5 : Kd.C k41 w A0_5 l0_5.length l0_5) (hc0_5 : l0_5.length ≤ c0_5) (hw : wordsO l0_1 = true) (hl : l0_1.length ≤ 16384) (hl5 : l0_5.length ≤ 1000000) (h : relocsS l0_1 (l0_4.length : Int) l0_5 = (r1, r2)) :
    Calls Try.prog 30 #[.agg #[.string a0_0, .slice A0_1 l0_1.length c0_1, .int .i64 a0_2, .slice A0_3 l0_3.length c0_3, .slice A0_4 l0_4.length c0_4, .slice A0_5 l0_5.length c0_5]] w fun e w' => e = .returned (.agg #[.int .i64 r1, .int .i64 r2]) ∧ Below w.heap.size w w' := by
  have hu1 := Try.underlying27
  have hu2 := Try.underlying67
  have hu3 := Try.underlying41
  have hu4 := Try.underlying91
  have HR := Aside0.mk hr0_5
  have HC := Aside0.mk hr0_1
  have HW := Aside0.mk hw
  clear hr0_1 hc0_1 hr0_3 hc0_3 hr0_4 hc0_4 hr0_5 hc0_5 hw
  have HH := Aside0.mk h
  obtain ⟨Z0, hZ0, hrz⟩ := mark_zero
  have HZ0 := Aside0.mk hZ0
  have HRZ := Aside0.mk hrz
  clear hZ0 hrz
  clear h
  go_enter Try.func30, Try.ntmps30
  go_wp2_with (first | ((with_reducible refine gate_dst (N := 1) rfl ?_); refine box_event ?hg (N := 1) ?hd (cs := #[.string a0_0, .slice A0_1 l0_1.length c0_1, .int .i64 a0_2, .slice A0_3 l0_3.length c0_3, .slice A0_4 l0_4.length c0_4, .slice A0_5 l0_5.length c0_5]) (t := 27) ?hr ?_; (case hd => rfl); (case hg => rfl); (case hr => first | (go_simp; done) | (go_simp; rfl)); intro gb hgb w1 BK1 hb1; have HB := Aside0.mk (below_then (Below.refl w.heap.size w) (Nat.le_refl _) hb1); have BO := Aside0.mk (show w1.heap[gb]? = some (objCell a0_0 A0_1 l0_1.length c0_1 a0_2 A0_3 l0_3.length c0_3 A0_4 l0_4.length c0_4 A0_5 l0_5.length c0_5) from BK1); clear BK1 hb1 hgb) | ((with_reducible refine gate_dst (N := 2) rfl ?_); refine box_event ?hg (N := 2) ?hd (cs := #[.int .i64 0, .int .i64 0]) (t := 67) ?hr ?_; (case hd => rfl); (case hg => rfl); (case hr => first | (go_simp; done) | (go_simp; rfl)); intro gr hgr w2 BK2 hb2; have G1 := Aside0.mk (show w.heap.size ≤ gr by rw [hgr]; exact HB.out.size); have L1 := Aside0.mk (show gb < gr by rw [hgr]; exact blk_lt BO.out); have HBn := Aside0.mk (below_then HB.out HB.out.size hb2); have BOn := Aside0.mk (blk_below BO.out hb2); have BR := Aside0.mk (show w2.heap[gr]? = some (ansCell 0 0) from BK2); clear HB BO BK2 hb2 hgr; have HB := HBn; have BO := BOn; clear HBn BOn) | ((with_reducible refine gate_dst (N := 3) rfl ?_); refine box_event ?hg (N := 3) ?hd (cs := Z0) (t := 91) ?hr ?_; (case hd => rfl); (case hg => rfl); (case hr => exact exec_mark HRZ.out rfl _); intro gn hgn w3 BK3 hb3; have HO := Aside0.mk (show OR w w3 gb (objCell a0_0 A0_1 l0_1.length c0_1 a0_2 A0_3 l0_3.length c0_3 A0_4 l0_4.length c0_4 A0_5 l0_5.length c0_5) gr gn (fun _ => false) from ⟨below_then HB.out HB.out.size hb3, blk_below BO.out hb3, blk_below BR.out hb3, Named.start HZ0.out BK3, by rw [hgn]; exact Nat.ne_of_lt (blk_lt BO.out), by rw [hgn]; exact Nat.ne_of_lt (blk_lt BR.out), G1.out, by rw [hgn]; exact HB.out.size⟩); clear HB BO BR hb3 BK3 hgn; have hco1 := blk_cell HO.out.obj 1; have hco4 := blk_cell HO.out.obj 4; have hco5 := blk_cell HO.out.obj 5))
  go_loopw [4, 16] (fun u4 u16 wr => ∃ i : Nat, u16 = .int .i64 (i : Int) ∧ u4 = .int .i64 (lastR l0_5 i) ∧ i ≤ l0_5.length ∧ Aside0 (∀ j, j < i → relE l0_1 (l0_4.length : Int) l0_5 j = 0) ∧ Aside0 (OR w wr gb (objCell a0_0 A0_1 l0_1.length c0_1 a0_2 A0_3 l0_3.length c0_3 A0_4 l0_4.length c0_4 A0_5 l0_5.length c0_5) gr gn (markB l0_5 i))) (fun _ u16 _ => l0_5.length - (intOf u16).toNat)
  case atStart => exact ⟨0, rfl, rfl, Nat.zero_le _, ⟨fun j hj => absurd hj (Nat.not_lt_zero _)⟩, HO⟩
  case round =>
    clear HO hco1 hco4 hco5
    obtain ⟨i, rfl, rfl, hile, HZ, HO⟩ := hrel
    have hco1 := blk_cell HO.out.obj 1; have hco4 := blk_cell HO.out.obj 4; have hco5 := blk_cell HO.out.obj 5
    by_cases hlt : i < l0_5.length
    · have hse := relE_eq l0_1 (l0_4.length : Int) l0_5 i
      have HFirst := Aside0.mk (fun (hne : relE l0_1 (l0_4.length : Int) l0_5 i ≠ 0) => relocs_first (code := l0_1) (ns := (l0_4.length : Int)) HZ.out hlt hne)
      have hmk : markB l0_5 (i + 1) = fun k => decide (k = (rl l0_5 i).f0.toNat) || markB l0_5 i k := rfl
      have hla : lastR l0_5 (i + 1) = (rl l0_5 i).f0 := rfl
      have hlo := lastR_lo _ _ _ i HZ.out
      have p0 : (0 : Int) ≤ (i : Int) := by omega
      have q0 : (i : Int) < (l0_5.length : Int) := by omega
      obtain ⟨ad, eA, hx0, hx1⟩ := at_T41 HR.out (i : Int) p0 q0
      subst eA
      rw [show ((i : Int)).toNat = i by omega] at hx0 hx1
      have hy0 := (HO.out.low.cell (World.block_lt_of_cell? w _ hx0)).trans hx0
      have hy1 := (HO.out.low.cell (World.block_lt_of_cell? w _ hx1)).trans hx1
      clear hx0 hx1
      rw [show rd_T41 l0_5 (i : Int) = rl l0_5 i from rfl] at hy0 hy1
      have hre : relE l0_1 (l0_4.length : Int) l0_5 i = relE l0_1 (l0_4.length : Int) l0_5 i := rfl
      generalize hge : relE l0_1 (l0_4.length : Int) l0_5 i = ge at hse HFirst
      have HGE := Aside0.mk hge
      clear hge hre
      generalize rl l0_5 i = s at hy0 hy1 hse hmk hla
      obtain ⟨sa, sm⟩ := s
      simp only at hy0 hy1 hse hmk hla
      have HMK := Aside0.mk hmk
      have HLA := Aside0.mk hla
      clear hmk hla
      generalize hlr : lastR l0_5 i = la at hse hlo
      clear hlr
      have hwr : wrap64 ((i : Int) + 1) = ((i + 1 : Nat) : Int) := by rw [wrap64_id (by omega) (by omega)]; rfl
      replace p0 := eq_true p0
      replace q0 := eq_true q0
      have hltb : decide ((i : Int) < (l0_5.length : Int)) = true := decide_eq_true (by omega)
      by_cases c1 : sa ≤ la
      · rw [if_pos c1] at hse
        have d1 : decide (sa ≤ la) = true := decide_eq_true c1
        clear c1 hlo
        subst hse
        have h := (HFirst.out (by decide)).symm.trans HH.out
        injection h with e1 e2
        subst e1 e2
        go_wp2_with (first | ((with_reducible refine gate_dst (N := 6) rfl ?_); refine box_event ?hg (N := 6) ?hd (cs := #[.int .i64 0, .int .i64 0]) (t := 41) ?hr ?_; (case hd => rfl); (case hg => rfl); (case hr => first | (go_simp; done) | (go_simp; rfl)); intro gs hgs w5 BK5 hb5; have LN := Aside0.mk (show gn < gs by rw [hgs]; obtain ⟨Z, hz, _⟩ := HO.out.nam; exact blk_lt hz); have LG := Aside0.mk (show gb < gs by rw [hgs]; exact blk_lt HO.out.obj); have LR := Aside0.mk (show gr < gs by rw [hgs]; exact blk_lt HO.out.res); have HOn := Aside0.mk (HO.out.below hb5); have BS := Aside0.mk BK5; clear HO BK5 hb5 hgs; have HO := HOn; clear HOn) | ((with_reducible refine gate_store (t := 41) rfl ?_); refine wpList_store_whole rfl rfl rfl gs _ #[.int .i64 sa, .int .i64 sm] _ rfl rfl BS.out (by kernel_rfl) rfl (rel_one _ _) ?_; intro w6 hp; have HOn := Aside0.mk (HO.out.grown (put_grownN hp) (by have := LG.out; have := LN.out; have := HO.out.g2; omega) (by have := LG.out; omega) (by have := LR.out; omega) (by have := LN.out; omega)); have BSn := Aside0.mk hp.blk; clear HO BS hp; have HO := HOn; have BS := BSn; clear HOn BSn; have hco1 := blk_cell HO.out.obj 1; have hco4 := blk_cell HO.out.obj 4; have hco5 := blk_cell HO.out.obj 5; have hs0 := blk_cell BS.out 0; have hs1 := blk_cell BS.out 1) | ((with_reducible refine gate_store (t := 67) rfl ?_); refine wpList_store_whole rfl rfl rfl gr _ #[.int .i64 24, .int .i64 (i : Int)] _ rfl rfl HO.out.res (by kernel_rfl) rfl (two_one _ _) ?_; intro w9 hp; have HE := Aside0.mk (hp.below HO.out.low HO.out.g1); have HP := Aside0.mk hp.blk; clear hp))
        refine bodyPost_ret (results_cell_row rfl _ _ gr 67 #[.int .i64 24, .int .i64 (i : Int)] (0, 0) _ rfl HP.out Try.underlying67 rfl (by kernel_rfl)) rfl ?_
        exact ⟨rfl, HE.out⟩
      rw [if_neg c1] at hse
      have d1 : decide (sa ≤ la) = false := decide_eq_false c1
      by_cases c2 : sa ≥ (l0_1.length : Int)
      · rw [if_pos c2] at hse
        have d2 : decide ((l0_1.length : Int) ≤ sa) = true := decide_eq_true c2
        clear c1 c2 hlo
        subst hse
        have h := (HFirst.out (by decide)).symm.trans HH.out
        injection h with e1 e2
        subst e1 e2
        go_wp2_with (first | ((with_reducible refine gate_dst (N := 6) rfl ?_); refine box_event ?hg (N := 6) ?hd (cs := #[.int .i64 0, .int .i64 0]) (t := 41) ?hr ?_; (case hd => rfl); (case hg => rfl); (case hr => first | (go_simp; done) | (go_simp; rfl)); intro gs hgs w5 BK5 hb5; have LN := Aside0.mk (show gn < gs by rw [hgs]; obtain ⟨Z, hz, _⟩ := HO.out.nam; exact blk_lt hz); have LG := Aside0.mk (show gb < gs by rw [hgs]; exact blk_lt HO.out.obj); have LR := Aside0.mk (show gr < gs by rw [hgs]; exact blk_lt HO.out.res); have HOn := Aside0.mk (HO.out.below hb5); have BS := Aside0.mk BK5; clear HO BK5 hb5 hgs; have HO := HOn; clear HOn) | ((with_reducible refine gate_store (t := 41) rfl ?_); refine wpList_store_whole rfl rfl rfl gs _ #[.int .i64 sa, .int .i64 sm] _ rfl rfl BS.out (by kernel_rfl) rfl (rel_one _ _) ?_; intro w6 hp; have HOn := Aside0.mk (HO.out.grown (put_grownN hp) (by have := LG.out; have := LN.out; have := HO.out.g2; omega) (by have := LG.out; omega) (by have := LR.out; omega) (by have := LN.out; omega)); have BSn := Aside0.mk hp.blk; clear HO BS hp; have HO := HOn; have BS := BSn; clear HOn BSn; have hco1 := blk_cell HO.out.obj 1; have hco4 := blk_cell HO.out.obj 4; have hco5 := blk_cell HO.out.obj 5; have hs0 := blk_cell BS.out 0; have hs1 := blk_cell BS.out 1) | ((with_reducible refine gate_store (t := 67) rfl ?_); refine wpList_store_whole rfl rfl rfl gr _ #[.int .i64 24, .int .i64 (i : Int)] _ rfl rfl HO.out.res (by kernel_rfl) rfl (two_one _ _) ?_; intro w9 hp; have HE := Aside0.mk (hp.below HO.out.low HO.out.g1); have HP := Aside0.mk hp.blk; clear hp))
        refine bodyPost_ret (results_cell_row rfl _ _ gr 67 #[.int .i64 24, .int .i64 (i : Int)] (0, 0) _ rfl HP.out Try.underlying67 rfl (by kernel_rfl)) rfl ?_
        exact ⟨rfl, HE.out⟩
      rw [if_neg c2] at hse
      have d2 : decide ((l0_1.length : Int) ≤ sa) = false := decide_eq_false (by omega)
      by_cases c3 : sm < 0
      · rw [if_pos c3] at hse
        have d3 : decide (sm < 0) = true := decide_eq_true c3
        clear c1 c2 c3 hlo
        subst hse
        have h := (HFirst.out (by decide)).symm.trans HH.out
        injection h with e1 e2
        subst e1 e2
        go_wp2_with (first | ((with_reducible refine gate_dst (N := 6) rfl ?_); refine box_event ?hg (N := 6) ?hd (cs := #[.int .i64 0, .int .i64 0]) (t := 41) ?hr ?_; (case hd => rfl); (case hg => rfl); (case hr => first | (go_simp; done) | (go_simp; rfl)); intro gs hgs w5 BK5 hb5; have LN := Aside0.mk (show gn < gs by rw [hgs]; obtain ⟨Z, hz, _⟩ := HO.out.nam; exact blk_lt hz); have LG := Aside0.mk (show gb < gs by rw [hgs]; exact blk_lt HO.out.obj); have LR := Aside0.mk (show gr < gs by rw [hgs]; exact blk_lt HO.out.res); have HOn := Aside0.mk (HO.out.below hb5); have BS := Aside0.mk BK5; clear HO BK5 hb5 hgs; have HO := HOn; clear HOn) | ((with_reducible refine gate_store (t := 41) rfl ?_); refine wpList_store_whole rfl rfl rfl gs _ #[.int .i64 sa, .int .i64 sm] _ rfl rfl BS.out (by kernel_rfl) rfl (rel_one _ _) ?_; intro w6 hp; have HOn := Aside0.mk (HO.out.grown (put_grownN hp) (by have := LG.out; have := LN.out; have := HO.out.g2; omega) (by have := LG.out; omega) (by have := LR.out; omega) (by have := LN.out; omega)); have BSn := Aside0.mk hp.blk; clear HO BS hp; have HO := HOn; have BS := BSn; clear HOn BSn; have hco1 := blk_cell HO.out.obj 1; have hco4 := blk_cell HO.out.obj 4; have hco5 := blk_cell HO.out.obj 5; have hs0 := blk_cell BS.out 0; have hs1 := blk_cell BS.out 1) | ((with_reducible refine gate_store (t := 67) rfl ?_); refine wpList_store_whole rfl rfl rfl gr _ #[.int .i64 24, .int .i64 (i : Int)] _ rfl rfl HO.out.res (by kernel_rfl) rfl (two_one _ _) ?_; intro w9 hp; have HE := Aside0.mk (hp.below HO.out.low HO.out.g1); have HP := Aside0.mk hp.blk; clear hp))
        refine bodyPost_ret (results_cell_row rfl _ _ gr 67 #[.int .i64 24, .int .i64 (i : Int)] (0, 0) _ rfl HP.out Try.underlying67 rfl (by kernel_rfl)) rfl ?_
        exact ⟨rfl, HE.out⟩
      rw [if_neg c3] at hse
      have d3 : decide (sm < 0) = false := decide_eq_false c3
      by_cases c4 : sm ≥ (l0_4.length : Int)
      · rw [if_pos c4] at hse
        have d4 : decide ((l0_4.length : Int) ≤ sm) = true := decide_eq_true c4
        clear c1 c2 c3 c4 hlo
        subst hse
        have h := (HFirst.out (by decide)).symm.trans HH.out
        injection h with e1 e2
        subst e1 e2
        go_wp2_with (first | ((with_reducible refine gate_dst (N := 6) rfl ?_); refine box_event ?hg (N := 6) ?hd (cs := #[.int .i64 0, .int .i64 0]) (t := 41) ?hr ?_; (case hd => rfl); (case hg => rfl); (case hr => first | (go_simp; done) | (go_simp; rfl)); intro gs hgs w5 BK5 hb5; have LN := Aside0.mk (show gn < gs by rw [hgs]; obtain ⟨Z, hz, _⟩ := HO.out.nam; exact blk_lt hz); have LG := Aside0.mk (show gb < gs by rw [hgs]; exact blk_lt HO.out.obj); have LR := Aside0.mk (show gr < gs by rw [hgs]; exact blk_lt HO.out.res); have HOn := Aside0.mk (HO.out.below hb5); have BS := Aside0.mk BK5; clear HO BK5 hb5 hgs; have HO := HOn; clear HOn) | ((with_reducible refine gate_store (t := 41) rfl ?_); refine wpList_store_whole rfl rfl rfl gs _ #[.int .i64 sa, .int .i64 sm] _ rfl rfl BS.out (by kernel_rfl) rfl (rel_one _ _) ?_; intro w6 hp; have HOn := Aside0.mk (HO.out.grown (put_grownN hp) (by have := LG.out; have := LN.out; have := HO.out.g2; omega) (by have := LG.out; omega) (by have := LR.out; omega) (by have := LN.out; omega)); have BSn := Aside0.mk hp.blk; clear HO BS hp; have HO := HOn; have BS := BSn; clear HOn BSn; have hco1 := blk_cell HO.out.obj 1; have hco4 := blk_cell HO.out.obj 4; have hco5 := blk_cell HO.out.obj 5; have hs0 := blk_cell BS.out 0; have hs1 := blk_cell BS.out 1) | ((with_reducible refine gate_store (t := 67) rfl ?_); refine wpList_store_whole rfl rfl rfl gr _ #[.int .i64 24, .int .i64 (i : Int)] _ rfl rfl HO.out.res (by kernel_rfl) rfl (two_one _ _) ?_; intro w9 hp; have HE := Aside0.mk (hp.below HO.out.low HO.out.g1); have HP := Aside0.mk hp.blk; clear hp))
        refine bodyPost_ret (results_cell_row rfl _ _ gr 67 #[.int .i64 24, .int .i64 (i : Int)] (0, 0) _ rfl HP.out Try.underlying67 rfl (by kernel_rfl)) rfl ?_
        exact ⟨rfl, HE.out⟩
      rw [if_neg c4] at hse
      have d4 : decide ((l0_4.length : Int) ≤ sm) = false := decide_eq_false (by omega)
      have a0 : (0 : Int) ≤ sa := by omega
      have a1 : sa < (l0_1.length : Int) := by omega
      have a2 : sa.toNat < 16384 := by omega
      have a3 : sa < 16384 := by omega
      obtain ⟨ac, eC, hxc⟩ := Kd.at_int HC.out sa a0 a1
      subst eC
      have hxr : 0 ≤ rd l0_1 sa ∧ rd l0_1 sa < 4294967296 := by
        rw [show sa = ((sa.toNat : Nat) : Int) by omega, rd_get (by omega)]
        exact wordsO_at HW.out (List.getElem_mem _)
      generalize rd l0_1 sa = x at hxc hse hxr
      obtain ⟨kT, HT0⟩ := Ev.rounds (tgt1 hxr.1 hxr.2)
      have HT := Aside0.mk HT0
      clear HT0 hxr
      generalize tgtS x = t at HT hse
      obtain ⟨t1, t2⟩ := t
      simp only at hse
      have HA2 := Aside0.mk a2
      clear c1 c2 c3 c4 hlo a2
      replace a0 := eq_true a0
      replace a1 := eq_true a1
      replace a3 := eq_true a3
      have HX := Aside0.mk hxc
      clear hxc
      by_cases b : t2 = true
      · rw [if_pos b] at hse
        subst b
        by_cases z : t1 = 0
        · rw [if_pos z] at hse
          subst z
          subst hse
          go_wp2_with (first | ((with_reducible refine gate_dst (N := 6) rfl ?_); refine box_event ?hg (N := 6) ?hd (cs := #[.int .i64 0, .int .i64 0]) (t := 41) ?hr ?_; (case hd => rfl); (case hg => rfl); (case hr => first | (go_simp; done) | (go_simp; rfl)); intro gs hgs w5 BK5 hb5; have LN := Aside0.mk (show gn < gs by rw [hgs]; obtain ⟨Z, hz, _⟩ := HO.out.nam; exact blk_lt hz); have LG := Aside0.mk (show gb < gs by rw [hgs]; exact blk_lt HO.out.obj); have LR := Aside0.mk (show gr < gs by rw [hgs]; exact blk_lt HO.out.res); have HOn := Aside0.mk (HO.out.below hb5); have BS := Aside0.mk BK5; clear HO BK5 hb5 hgs; have HO := HOn; clear HOn) | ((with_reducible refine gate_store (t := 41) rfl ?_); refine wpList_store_whole rfl rfl rfl gs _ #[.int .i64 sa, .int .i64 sm] _ rfl rfl BS.out (by kernel_rfl) rfl (rel_one _ _) ?_; intro w6 hp; have HOn := Aside0.mk (HO.out.grown (put_grownN hp) (by have := LG.out; have := LN.out; have := HO.out.g2; omega) (by have := LG.out; omega) (by have := LR.out; omega) (by have := LN.out; omega)); have BSn := Aside0.mk hp.blk; clear HO BS hp; have HO := HOn; have BS := BSn; clear HOn BSn; have hco1 := blk_cell HO.out.obj 1; have hco4 := blk_cell HO.out.obj 4; have hco5 := blk_cell HO.out.obj 5; have hs0 := blk_cell BS.out 0; have hs1 := blk_cell BS.out 1; have hyc := pw_cell_below HO.out.low HX.out) | (go_at_call 49; refine (isa_Target.calls kT x 0 _ _ HT.out).mono ?_; rintro e w7 ⟨rfl, hb⟩; have HOn := Aside0.mk (HO.out.below hb); have BSn := Aside0.mk (blk_below BS.out hb); clear HO BS hb; have HO := HOn; have BS := BSn; clear HOn BSn; have hco1 := blk_cell HO.out.obj 1; have hco4 := blk_cell HO.out.obj 4; have hco5 := blk_cell HO.out.obj 5; have hs0 := blk_cell BS.out 0; have hs1 := blk_cell BS.out 1; obtain ⟨Z, hz1, hz2, hz3⟩ := HO.out.nam; have HZ1 := Aside0.mk hz1; have HZ2 := Aside0.mk hz2; have HZ3 := Aside0.mk hz3; clear hz1 hz2 hz3) | ((with_reducible refine gate_store (t := 4) rfl ?_); refine wpList_store_arr rfl rfl rfl gn sa.toNat Z 91 (.bool true) rfl rfl rfl rfl (bool_one _) HZ1.out (by rw [HZ2.out]; exact HA2.out) ?_; intro w8 hp; have HOn := Aside0.mk (HO.out.mark HZ2.out HZ3.out HA2.out hp); have BSn := Aside0.mk (blk_grown BS.out (put_grownN hp) (fun e => by have := LN.out; have := Option.some.inj e; omega)); clear HO BS hp HZ1 HZ2 HZ3; have HO := HOn; have BS := BSn; clear HOn BSn; have hco1 := blk_cell HO.out.obj 1; have hco4 := blk_cell HO.out.obj 4; have hco5 := blk_cell HO.out.obj 5; have hs0 := blk_cell BS.out 0; have hs1 := blk_cell BS.out 1))
          go_roundw
          case measure => simp [intOf]; omega
          case rel => exact ⟨i + 1, by first | rfl | (simp; done) | (simp [*]; done), by rw [HLA.out], by omega, ⟨fun j hj => by
            by_cases e : j = i
            · rw [e]; exact HGE.out
            · exact HZ.out j (by omega)⟩, ⟨by rw [HMK.out]; exact HO.out⟩⟩
        · rw [if_neg z] at hse
          have zb : (t1 != 0) = true := bne_iff_ne.mpr z
          clear z
          subst hse
          have h := (HFirst.out (by decide)).symm.trans HH.out
          injection h with e1 e2
          subst e1 e2
          go_wp2_with (first | ((with_reducible refine gate_dst (N := 6) rfl ?_); refine box_event ?hg (N := 6) ?hd (cs := #[.int .i64 0, .int .i64 0]) (t := 41) ?hr ?_; (case hd => rfl); (case hg => rfl); (case hr => first | (go_simp; done) | (go_simp; rfl)); intro gs hgs w5 BK5 hb5; have LN := Aside0.mk (show gn < gs by rw [hgs]; obtain ⟨Z, hz, _⟩ := HO.out.nam; exact blk_lt hz); have LG := Aside0.mk (show gb < gs by rw [hgs]; exact blk_lt HO.out.obj); have LR := Aside0.mk (show gr < gs by rw [hgs]; exact blk_lt HO.out.res); have HOn := Aside0.mk (HO.out.below hb5); have BS := Aside0.mk BK5; clear HO BK5 hb5 hgs; have HO := HOn; clear HOn) | ((with_reducible refine gate_store (t := 41) rfl ?_); refine wpList_store_whole rfl rfl rfl gs _ #[.int .i64 sa, .int .i64 sm] _ rfl rfl BS.out (by kernel_rfl) rfl (rel_one _ _) ?_; intro w6 hp; have HOn := Aside0.mk (HO.out.grown (put_grownN hp) (by have := LG.out; have := LN.out; have := HO.out.g2; omega) (by have := LG.out; omega) (by have := LR.out; omega) (by have := LN.out; omega)); have BSn := Aside0.mk hp.blk; clear HO BS hp; have HO := HOn; have BS := BSn; clear HOn BSn; have hco1 := blk_cell HO.out.obj 1; have hco4 := blk_cell HO.out.obj 4; have hco5 := blk_cell HO.out.obj 5; have hs0 := blk_cell BS.out 0; have hs1 := blk_cell BS.out 1; have hyc := pw_cell_below HO.out.low HX.out) | (go_at_call 49; refine (isa_Target.calls kT x t1 _ _ HT.out).mono ?_; rintro e w7 ⟨rfl, hb⟩; have HOn := Aside0.mk (HO.out.below hb); have BSn := Aside0.mk (blk_below BS.out hb); clear HO BS hb; have HO := HOn; have BS := BSn; clear HOn BSn; have hco1 := blk_cell HO.out.obj 1; have hco4 := blk_cell HO.out.obj 4; have hco5 := blk_cell HO.out.obj 5; have hs0 := blk_cell BS.out 0; have hs1 := blk_cell BS.out 1; have hyc := pw_cell_below HO.out.low HX.out) | ((with_reducible refine gate_store (t := 67) rfl ?_); refine wpList_store_whole rfl rfl rfl gr _ #[.int .i64 24, .int .i64 (i : Int)] _ rfl rfl HO.out.res (by kernel_rfl) rfl (two_one _ _) ?_; intro w9 hp; have HE := Aside0.mk (hp.below HO.out.low HO.out.g1); have HP := Aside0.mk hp.blk; clear hp))
          refine bodyPost_ret (results_cell_row rfl _ _ gr 67 #[.int .i64 24, .int .i64 (i : Int)] (0, 0) _ rfl HP.out Try.underlying67 rfl (by kernel_rfl)) rfl ?_
          exact ⟨rfl, HE.out⟩
      · rw [if_neg b] at hse
        have b : t2 = false := by simpa using b
        subst b
        subst hse
        have h := (HFirst.out (by decide)).symm.trans HH.out
        injection h with e1 e2
        subst e1 e2
        go_wp2_with (first | ((with_reducible refine gate_dst (N := 6) rfl ?_); refine box_event ?hg (N := 6) ?hd (cs := #[.int .i64 0, .int .i64 0]) (t := 41) ?hr ?_; (case hd => rfl); (case hg => rfl); (case hr => first | (go_simp; done) | (go_simp; rfl)); intro gs hgs w5 BK5 hb5; have LN := Aside0.mk (show gn < gs by rw [hgs]; obtain ⟨Z, hz, _⟩ := HO.out.nam; exact blk_lt hz); have LG := Aside0.mk (show gb < gs by rw [hgs]; exact blk_lt HO.out.obj); have LR := Aside0.mk (show gr < gs by rw [hgs]; exact blk_lt HO.out.res); have HOn := Aside0.mk (HO.out.below hb5); have BS := Aside0.mk BK5; clear HO BK5 hb5 hgs; have HO := HOn; clear HOn) | ((with_reducible refine gate_store (t := 41) rfl ?_); refine wpList_store_whole rfl rfl rfl gs _ #[.int .i64 sa, .int .i64 sm] _ rfl rfl BS.out (by kernel_rfl) rfl (rel_one _ _) ?_; intro w6 hp; have HOn := Aside0.mk (HO.out.grown (put_grownN hp) (by have := LG.out; have := LN.out; have := HO.out.g2; omega) (by have := LG.out; omega) (by have := LR.out; omega) (by have := LN.out; omega)); have BSn := Aside0.mk hp.blk; clear HO BS hp; have HO := HOn; have BS := BSn; clear HOn BSn; have hco1 := blk_cell HO.out.obj 1; have hco4 := blk_cell HO.out.obj 4; have hco5 := blk_cell HO.out.obj 5; have hs0 := blk_cell BS.out 0; have hs1 := blk_cell BS.out 1; have hyc := pw_cell_below HO.out.low HX.out) | (go_at_call 49; refine (isa_Target.calls kT x t1 _ _ HT.out).mono ?_; rintro e w7 ⟨rfl, hb⟩; have HOn := Aside0.mk (HO.out.below hb); have BSn := Aside0.mk (blk_below BS.out hb); clear HO BS hb; have HO := HOn; have BS := BSn; clear HOn BSn; have hco1 := blk_cell HO.out.obj 1; have hco4 := blk_cell HO.out.obj 4; have hco5 := blk_cell HO.out.obj 5; have hs0 := blk_cell BS.out 0; have hs1 := blk_cell BS.out 1; have hyc := pw_cell_below HO.out.low HX.out) | ((with_reducible refine gate_store (t := 67) rfl ?_); refine wpList_store_whole rfl rfl rfl gr _ #[.int .i64 24, .int .i64 (i : Int)] _ rfl rfl HO.out.res (by kernel_rfl) rfl (two_one _ _) ?_; intro w9 hp; have HE := Aside0.mk (hp.below HO.out.low HO.out.g1); have HP := Aside0.mk hp.blk; clear hp))
        refine bodyPost_ret (results_cell_row rfl _ _ gr 67 #[.int .i64 24, .int .i64 (i : Int)] (0, 0) _ rfl HP.out Try.underlying67 rfl (by kernel_rfl)) rfl ?_
        exact ⟨rfl, HE.out⟩
    · have hi0 : i = l0_5.length := by omega
      subst hi0
      have hltb : decide ((l0_5.length : Int) < (l0_5.length : Int)) = false := by simp
      have HS := Aside0.mk ((relocs_scan HZ.out).symm.trans HH.out)
      clear hlt hile HZ
      generalize lastR l0_5 l0_5.length = la
      generalize markB l0_5 l0_5.length = N at HO HS
      go_wp2
      go_loopw [75] (fun u75 wr => ∃ k : Nat, u75 = .int .i64 (k : Int) ∧ k ≤ l0_1.length ∧ Aside0 (∀ j, j < k → scanE l0_1 N j = 0) ∧ Aside0 (OR w wr gb (objCell a0_0 A0_1 l0_1.length c0_1 a0_2 A0_3 l0_3.length c0_3 A0_4 l0_4.length c0_4 A0_5 l0_5.length c0_5) gr gn N)) (fun u75 _ => l0_1.length - (intOf u75).toNat)
      case atStart => exact ⟨0, rfl, Nat.zero_le _, ⟨fun j hj => absurd hj (Nat.not_lt_zero _)⟩, HO⟩
      case round =>
        clear HO hco1 hco4 hco5
        obtain ⟨k, rfl, hkle, HZ, HO⟩ := hrel
        have hco1 := blk_cell HO.out.obj 1; have hco4 := blk_cell HO.out.obj 4; have hco5 := blk_cell HO.out.obj 5
        by_cases hlt : k < l0_1.length
        · have hse := scanE_eq l0_1 N k
          have HFirst := Aside0.mk (fun (hne : scanE l0_1 N k ≠ 0) => scanS_at hlt HZ.out hne)
          have p0 : (0 : Int) ≤ (k : Int) := by omega
          have q0 : (k : Int) < (l0_1.length : Int) := by omega
          have q1 : (k : Int) < 16384 := by omega
          have HK := Aside0.mk (show k < 16384 by omega)
          obtain ⟨ac, eC, hxc⟩ := Kd.at_int HC.out (k : Int) p0 q0
          subst eC
          rw [show ((k : Int)).toNat = k by omega] at hxc
          have hxr : 0 ≤ rd l0_1 (k : Int) ∧ rd l0_1 (k : Int) < 4294967296 := by
            rw [rd_get hlt]
            exact wordsO_at HW.out (List.getElem_mem _)
          generalize rd l0_1 (k : Int) = x at hxc hse hxr
          have hyc := pw_cell_below HO.out.low hxc
          clear hxc
          obtain ⟨kT, HT0⟩ := Ev.rounds (tgt1 hxr.1 hxr.2)
          have HT := Aside0.mk HT0
          clear HT0 hxr
          generalize tgtS x = t at HT hse
          obtain ⟨t1, t2⟩ := t
          simp only at hse
          generalize hge : scanE l0_1 N k = ge at hse HFirst
          have HGE := Aside0.mk hge
          clear hge
          generalize hnk0 : N k = nk at hse
          have HNK := Aside0.mk hnk0
          clear hnk0
          have hnk := HO.out.nam.cell' HK.out HNK.out
          have hwr : wrap64 ((k : Int) + 1) = ((k + 1 : Nat) : Int) := by rw [wrap64_id (by omega) (by omega)]; rfl
          have hwm : wrap64 (-1 - (k : Int)) = -1 - (k : Int) := wrap64_id (by omega) (by omega)
          have hcn : ((k : Int)).toNat = k := by omega
          replace p0 := eq_true p0
          replace q0 := eq_true q0
          replace q1 := eq_true q1
          have hltb : decide ((k : Int) < (l0_1.length : Int)) = true := decide_eq_true (by omega)
          have HLT := Aside0.mk hlt
          clear hkle hlt
          cases t2
          · simp only [Bool.false_eq_true, if_false] at hse
            subst hse
            go_wp2_with (first | (go_at_call 49; refine (isa_Target.calls kT x t1 _ _ HT.out).mono ?_; rintro e w7 ⟨rfl, hb⟩; have HOn := Aside0.mk (HO.out.below hb); clear HO hb hnk; have HO := HOn; clear HOn; have hco1 := blk_cell HO.out.obj 1; have hco4 := blk_cell HO.out.obj 4; have hco5 := blk_cell HO.out.obj 5; have hnk := HO.out.nam.cell' HK.out HNK.out))
            go_roundw
            case measure => have hq := HLT.out; clear hl hl5; rw [hwr]; simp only [intOf, Int.toNat_natCast]; omega
            case rel => exact ⟨k + 1, by first | rfl | (simp; done) | (simp [*]; done), by have := HLT.out; omega, ⟨fun j hj => by
              by_cases e : j = k
              · rw [e]; exact HGE.out
              · exact HZ.out j (by omega)⟩, HO⟩
          · simp only [if_true] at hse
            cases nk
            · simp only [Bool.false_eq_true, if_false] at hse
              by_cases g : t1 > (l0_1.length : Int)
              · rw [if_pos g] at hse
                have gb1 : decide ((l0_1.length : Int) < t1) = true := decide_eq_true g
                subst hse
                clear g
                have h := (HFirst.out (by decide)).symm.trans HS.out
                injection h with e1 e2
                subst e1 e2
                go_wp2_with (first | (go_at_call 49; refine (isa_Target.calls kT x t1 _ _ HT.out).mono ?_; rintro e w7 ⟨rfl, hb⟩; have HOn := Aside0.mk (HO.out.below hb); clear HO hb hnk; have HO := HOn; clear HOn; have hco1 := blk_cell HO.out.obj 1; have hco4 := blk_cell HO.out.obj 4; have hco5 := blk_cell HO.out.obj 5; have hnk := HO.out.nam.cell' HK.out HNK.out) | ((with_reducible refine gate_store (t := 67) rfl ?_); refine wpList_store_whole rfl rfl rfl gr _ #[.int .i64 22, .int .i64 (-1 - (k : Int))] _ rfl rfl HO.out.res (by kernel_rfl) rfl (two_one _ _) ?_; intro w9 hp; have HE := Aside0.mk (hp.below HO.out.low HO.out.g1); have HP := Aside0.mk hp.blk; clear hp))
                refine bodyPost_ret (results_cell_row rfl _ _ gr 67 #[.int .i64 22, .int .i64 (-1 - (k : Int))] (0, 0) _ rfl HP.out Try.underlying67 rfl (by kernel_rfl)) rfl ?_
                exact ⟨rfl, HE.out⟩
              · rw [if_neg g] at hse
                have gb1 : decide ((l0_1.length : Int) < t1) = false := decide_eq_false g
                subst hse
                clear g
                go_wp2_with (first | (go_at_call 49; refine (isa_Target.calls kT x t1 _ _ HT.out).mono ?_; rintro e w7 ⟨rfl, hb⟩; have HOn := Aside0.mk (HO.out.below hb); clear HO hb hnk; have HO := HOn; clear HOn; have hco1 := blk_cell HO.out.obj 1; have hco4 := blk_cell HO.out.obj 4; have hco5 := blk_cell HO.out.obj 5; have hnk := HO.out.nam.cell' HK.out HNK.out))
                go_roundw
                case measure => have hq := HLT.out; clear hl hl5; rw [hwr]; simp only [intOf, Int.toNat_natCast]; omega
                case rel => exact ⟨k + 1, by first | rfl | (simp; done) | (simp [*]; done), by have := HLT.out; omega, ⟨fun j hj => by
                  by_cases e : j = k
                  · rw [e]; exact HGE.out
                  · exact HZ.out j (by omega)⟩, HO⟩
            · simp only [if_true] at hse
              subst hse
              go_wp2_with (first | (go_at_call 49; refine (isa_Target.calls kT x t1 _ _ HT.out).mono ?_; rintro e w7 ⟨rfl, hb⟩; have HOn := Aside0.mk (HO.out.below hb); clear HO hb hnk; have HO := HOn; clear HOn; have hco1 := blk_cell HO.out.obj 1; have hco4 := blk_cell HO.out.obj 4; have hco5 := blk_cell HO.out.obj 5; have hnk := HO.out.nam.cell' HK.out HNK.out))
              go_roundw
              case measure => have hq := HLT.out; clear hl hl5; rw [hwr]; simp only [intOf, Int.toNat_natCast]; omega
              case rel => exact ⟨k + 1, by first | rfl | (simp; done) | (simp [*]; done), by have := HLT.out; omega, ⟨fun j hj => by
                by_cases e : j = k
                · rw [e]; exact HGE.out
                · exact HZ.out j (by omega)⟩, HO⟩
        · have hk0 : k = l0_1.length := by omega
          subst hk0
          have hltb : decide ((l0_1.length : Int) < (l0_1.length : Int)) = false := by simp
          have h := (scanS_zero HZ.out).symm.trans HS.out
          injection h with e1 e2
          subst e1 e2
          clear hlt hkle
          go_wp2_with (first | ((with_reducible refine gate_store (t := 67) rfl ?_); refine wpList_store_whole rfl rfl rfl gr _ #[.int .i64 0, .int .i64 0] _ rfl rfl HO.out.res (by kernel_rfl) rfl (two_one _ _) ?_; intro w9 hp; have HE := Aside0.mk (hp.below HO.out.low HO.out.g1); have HP := Aside0.mk hp.blk; clear hp))
          refine bodyPost_ret (results_cell_row rfl _ _ gr 67 #[.int .i64 0, .int .i64 0] (0, 0) _ rfl HP.out Try.underlying67 rfl (by kernel_rfl)) rfl ?_
          exact ⟨rfl, HE.out⟩
  end Go.Proofs.Ytiaohbbafaaibab.P
