/- OWN TEXT and printed parts of this claim, laid together: Opn, Opns, SayObjectFinds, ObjL, ObjF, PureObjectFinds. -/
import Derived.Test.YtiaohbbafaaibabZfWWords
import Derived.SizedLaws
import Derived.Deep.Slices
import Derived.Deep.Fields
import Derived.ChangeSame
import Derived.OpenShut
import Derived.Test.YtiaohbbafaaibabZfM0
import Derived.Test.YtiaohbbafaaibabZfM8
import Derived.Test.YtiaohbbafaaibabZfM6
import Derived.Test.YtiaohbbafaaibabZfM7
/- OWN TEXT: an argument of whatever plain type (whole numbers, bools, strings, slices, structs of these), read as a value of the print's own kinds. -/
set_option linter.unusedVariables false
set_option linter.unusedSimpArgs false
namespace Go.Proofs.Ytiaohbbafaaibab.Opn
open Go.ChangeShapes Go.WideShapes Go.Deep Go.RowKit Go.Proofs.YtiaohbbafaaibabW.PrintWords

/-- Whatever reads as data of type t is a value of kind d, and meets wf. -/
def Opens (P : Program) (t : TypeId) {α : Type} (d : Kd α) (wf : α → Prop) : Prop :=
  P.cellsOf t = d.sz ∧ ∀ (H : Type) (enc : TypeId × Value → H) (w : World) (base : Nat) (spare : Nat → Bool) (held : Bool) (fuel : Nat) (cs : List Value) (x : DataW H × List MemPlace),
    DataW.trod enc P w base spare held fuel t cs = some x → (∀ n ∈ x.1.weights P t, n ≤ reachBytes) → ∃ a : α, d.K w a cs ∧ wf a

theorem Opens.int {P : Program} {t : TypeId} {k : IntKind} (hc : P.cellsOf t = 1) (hu : P.underlying t = some (.int k)) : Opens P t (Kd.int k) (fun n => (Lit.int k n).wf = true) :=
  ⟨hc, fun H enc w base spare held fuel cs x h _ => by
    obtain ⟨n, rfl, rfl, hw⟩ := DataW.trod_int hu h
    exact ⟨n, rfl, hw⟩⟩
theorem Opens.bool {P : Program} {t : TypeId} (hc : P.cellsOf t = 1) (hu : P.underlying t = some .bool) : Opens P t Kd.bool (fun _ => True) :=
  ⟨hc, fun H enc w base spare held fuel cs x h _ => by
    obtain ⟨b, rfl, rfl⟩ := DataW.trod_bool hu h
    exact ⟨b, rfl, trivial⟩⟩
theorem Opens.string {P : Program} {t : TypeId} (hc : P.cellsOf t = 1) (hu : P.underlying t = some .string) : Opens P t Kd.string (fun s => s.size ≤ 140737488351232) :=
  ⟨hc, fun H enc w base spare held fuel cs x h hz => by
    obtain ⟨s, rfl, rfl, _⟩ := DataW.trod_string hu h
    have := hz s.data.toList.length (by simp [DataW.weights])
    rw [Array.length_toList] at this
    exact ⟨s, rfl, this⟩⟩

theorem weightsAll_mem {H : Type} {P : Program} {e : TypeId} : ∀ {l : List (DataW H)} {d : DataW H}, d ∈ l → ∀ n ∈ d.weights P e, n ∈ DataW.weightsAll P e l
  | d0 :: r, d, hd, n, hn => by
    simp only [DataW.weightsAll, List.mem_append]
    rcases List.mem_cons.1 hd with rfl | hd
    · exact .inl hn
    · exact .inr (weightsAll_mem hd n hn)

theorem Opens.slice {P : Program} {t e : TypeId} {α : Type} {d : Kd α} {wf : α → Prop} {B : Nat} (hc : P.cellsOf t = 1) (hu : P.underlying t = some (.slice e)) (hB : P.bytesOf e = B) (he : Opens P e d wf) :
    Opens P t (Kd.slice e d) (fun l => l.length ≤ 9223372036854775807 ∧ l.length * B ≤ 140737488351232 ∧ ∀ x ∈ l, wf x) :=
  ⟨hc, fun H enc w base spare held fuel cs x h hz => by
    rcases open_slice hu h with ⟨rfl, rfl⟩ | ⟨a, len, cap, m, n, D, Pl, rfl, hb, hl, hm, hmm, rfl, hi⟩
    · exact ⟨[], ⟨none, 0, rfl, Nat.le_refl _, rfl, by simp, fun h => absurd h (Nat.lt_irrefl 0)⟩, by simp, by simp, fun x hx => by cases hx⟩
    · have hlm : len ≤ m := by rw [hmm]; split <;> omega
      have hw0 : ∀ n ∈ (DataW.slice ((List.range len).map D) ((List.range (m - len)).map fun j => D (len + j))).weights P t, n ≤ reachBytes := hz
      have h1 : (len + (m - len)) * P.bytesOf e ≤ reachBytes := by
        have := hw0 _ (by simp only [DataW.weights, hu]; exact List.mem_cons_self)
        simpa using this
      have hel : ∀ i, i < len → ∃ (a' : α) (c : List Value), w.cells? base (a.add (i * P.cellsOf e)) (P.cellsOf e) = some c ∧ d.K w a' c ∧ wf a' := fun i hi' => by
        obtain ⟨c, hcc, ht⟩ := hi i (Nat.lt_of_lt_of_le hi' hlm)
        obtain ⟨a', hk, hwf⟩ := he.2 H enc w base spare held n c _ ht (fun q hq => hw0 q (by
          simp only [DataW.weights, hu]
          exact List.mem_cons_of_mem _ (List.mem_append_left _ (weightsAll_mem (List.mem_map.2 ⟨i, List.mem_range.2 hi', rfl⟩) q hq))))
        exact ⟨a', c, hcc, hk, hwf⟩
      have hl' : ∃ l : List α, l.length = len ∧ ∀ i x, l[i]? = some x → ∃ c, w.cells? base (a.add (i * P.cellsOf e)) (P.cellsOf e) = some c ∧ d.K w x c ∧ wf x := by
        clear hw0 h1 hi hlm hl hz hmm h
        induction len with
        | zero => exact ⟨[], rfl, fun i x hx => by simp at hx⟩
        | succ len ih =>
          obtain ⟨l, hl, hp⟩ := ih (fun i hi => hel i (Nat.lt_succ_of_lt hi))
          obtain ⟨a', c, h1, h2, h3⟩ := hel len (Nat.lt_succ_self len)
          refine ⟨l ++ [a'], by simp [hl], fun i x hx => ?_⟩
          rcases Nat.lt_or_ge i l.length with h | h
          · rw [List.getElem?_append_left h] at hx
            exact hp i x hx
          · rw [List.getElem?_append_right h] at hx
            have hi0 : i - l.length = 0 := by
              rcases Nat.eq_zero_or_pos (i - l.length) with h0 | h0
              · exact h0
              · rw [List.getElem?_eq_none (by simp; omega)] at hx; cases hx
            rw [hi0] at hx
            simp at hx
            subst hx
            obtain rfl : i = len := by omega
            exact ⟨c, h1, h2, h3⟩
      obtain ⟨l, hll, hp⟩ := hl'
      subst hll
      refine ⟨l, ⟨some a, cap, rfl, hl, rfl, by simp only [maxLen] at hm; omega, fun _ => ⟨a, rfl, fun j p hj => ?_⟩⟩, ?_, ?_, ?_⟩
      · obtain ⟨c, h1, h2, _⟩ := hp j p hj
        obtain ⟨_, hcl, hcell⟩ := World.cells?_some h1
        refine ⟨c, by rw [hcl, he.1], h2, fun i u hu' => ?_⟩
        have hi2 : i < P.cellsOf e := by
          rw [← hcl]
          exact (List.getElem?_eq_some_iff.1 hu').1
        rw [← he.1, ← Go.Deep.add_add, hcell i hi2, hu']
      · simp only [maxLen] at hm; omega
      · rw [← hB]
        refine Nat.le_trans (Nat.mul_le_mul_right _ (show l.length ≤ l.length + (m - l.length) by omega)) ?_
        exact h1
      · intro x hx
        obtain ⟨i, hi'⟩ := List.getElem?_of_mem hx
        obtain ⟨_, _, _, h3⟩ := hp i x hi'
        exact h3⟩

/-- The fields of a struct, from the cell off on: each one's cells behind the other's. -/
def OpensF (P : Program) (fs : List Field) (off : Nat) {α : Type} (d : Kd α) (wf : α → Prop) : Prop :=
  (fs.map fun f => P.cellsOf f.type).sum = d.sz ∧ ∀ (H : Type) (enc : TypeId × Value → H) (w : World) (base : Nat) (spare : Nat → Bool) (held : Bool) (fuel : Nat) (cs : List Value) (xs : List (DataW H × List MemPlace)),
    cs.length = off + d.sz → xs.length = fs.length → (∀ (i : Nat) (f : Field), fs[i]? = some f → DataW.trod enc P w base spare held fuel f.type ((cs.drop f.offset).take (P.cellsOf f.type)) = xs[i]?) →
    (∀ n ∈ DataW.weightsEach P (fs.map (·.type)) (xs.map (·.1)), n ≤ reachBytes) → ∃ a : α, d.K w a (cs.drop off) ∧ wf a

theorem OpensF.one {P : Program} {f : Field} {off : Nat} {α : Type} {d : Kd α} {wf : α → Prop} (ho : f.offset = off) (h : Opens P f.type d wf) : OpensF P [f] off d wf := by
  refine ⟨by simp [h.1], fun H enc w base spare held fuel cs xs hl hx hf hz => ?_⟩
  match xs, hx with
  | [x], _ =>
    have h0 := hf 0 f rfl
    rw [ho, h.1, List.take_of_length_le (by rw [List.length_drop]; omega)] at h0
    exact h.2 H enc w base spare held fuel _ x h0 (fun n hn => hz n (by simp only [List.map_cons, DataW.weightsEach, List.mem_append]; exact .inl hn))

theorem OpensF.cons {P : Program} {f : Field} {fs : List Field} {off : Nat} {α β : Type} {d : Kd α} {d' : Kd β} {wf : α → Prop} {wf' : β → Prop} (ho : f.offset = off) (h : Opens P f.type d wf) (hs : OpensF P fs (off + d.sz) d' wf') :
    OpensF P (f :: fs) off (Kd.pair d d') (fun x => wf x.1 ∧ wf' x.2) := by
  refine ⟨by simp [h.1, hs.1, Kd.pair], fun H enc w base spare held fuel cs xs hl hx hf hz => ?_⟩
  match xs, hx with
  | x :: xs, hx =>
    have hsz : (Kd.pair d d').sz = d.sz + d'.sz := rfl
    have h0 := hf 0 f rfl
    rw [ho, h.1] at h0
    obtain ⟨a, hk, hw⟩ := h.2 H enc w base spare held fuel _ x h0 (fun n hn => hz n (by simp only [List.map_cons, DataW.weightsEach, List.mem_append]; exact .inl hn))
    obtain ⟨b, hk', hw'⟩ := hs.2 H enc w base spare held fuel cs xs (by omega) (by simpa using hx) (fun i g hg => hf (i + 1) g hg) (fun n hn => hz n (by simp only [List.map_cons, DataW.weightsEach, List.mem_append]; exact .inr hn))
    exact ⟨(a, b), ⟨(cs.drop off).take d.sz, cs.drop (off + d.sz), by rw [← List.drop_drop, List.take_append_drop], hk, hk'⟩, hw, hw'⟩

theorem Opens.struct {P : Program} {t : TypeId} {fs : Array Field} {α β : Type} {d : Kd α} {wf : α → Prop} (f : β → α) (g : α → β) (hfg : ∀ a, f (g a) = a) (hc : P.cellsOf t = d.sz) (hu : P.underlying t = some (.struct fs)) (h : OpensF P fs.toList 0 d wf) :
    Opens P t (Kd.iso d f) (fun x => wf (f x)) := by
  refine ⟨hc, fun H enc w base spare held fuel cs x hx hz => ?_⟩
  obtain ⟨xs, n, rfl, rfl, hl, hlen, hf⟩ := DataW.trod_struct hu hx
  obtain ⟨a, hk, hw⟩ := h.2 H enc w base spare held n cs xs (by omega) (by simpa using hlen) (fun i fl hfl => hf i fl (by simpa using hfl)) (fun q hq => hz q (by simp only [DataW.weights, hu]; exact hq))
  refine ⟨g a, ?_, by show wf (f (g a)); rw [hfg]; exact hw⟩
  show d.K w (f (g a)) cs
  rw [hfg]
  simpa using hk

/-- An argument: what its cells are, and that it meets wf. -/
theorem Opens.arg {P : Program} {t : TypeId} {α : Type} {d : Kd α} {wf : α → Prop} (ho : Opens P t d wf) {H : Type} {enc : TypeId × Value → H} {ts : List TypeId} {ds : List (DataW H)} {w : World} {base : Nat} {spare : Nat → Bool} {held : Bool} {v : Value} {x : DataW H} {ps : List MemPlace} {j : Nat}
    (hsz : (DataW.weightsEach P ts ds).all (· ≤ reachBytes) = true) (ht : ts[j]? = some t) (hd : ds[j]? = some x) (h : DataW.Trod enc P w base spare held t v x ps) : ∃ a : α, d.K w a v.cells.toList ∧ wf a := by
  obtain ⟨fuel, hf⟩ := h
  refine ho.2 H enc w base spare held fuel _ _ hf (fun n hn => ?_)
  have := List.all_eq_true.1 hsz _ (DataW.weights_mem_each ht hd n hn)
  simpa using this

theorem agg_of {P : Program} {w : World} {r : Reach} {b0 : Nat} {t : TypeId} {fs : Array Field} {v : Value} {l : List Value} (hs : P.underlying t = some (.struct fs)) (hv : Value.okWide P w r b0 t v) (h : v.cells.toList = l) : v = .agg l.toArray := by
  obtain ⟨cs, rfl, _⟩ := okWide_struct hs hv
  simp only [Value.cells] at h
  rw [← h, Array.toArray_toList]

theorem slice_of {P : Program} {w : World} {r : Reach} {b0 : Nat} {t e : TypeId} {v : Value} {u : Value} (hs : P.underlying t = some (.slice e)) (hv : Value.okWide P w r b0 t v) (h : v.cells.toList = [u]) : v = u := by
  obtain ⟨a, len, cap, rfl⟩ := okWide_slice hs hv
  simpa [Value.cells] using h

end Go.Proofs.Ytiaohbbafaaibab.Opn

/- OWN TEXT, written by rows.py: what an argument of each parameter type of this seat's laws reads as. -/
namespace Go.Proofs.Ytiaohbbafaaibab.P
open Go.RowKit Go.Proofs.YtiaohbbafaaibabW.PrintWords Go.Proofs.YtiaohbbafaaibabW.PrintLast Go.Proofs.YtiaohbbafaaibabW.PrintMore Go.Proofs.Ytiaohbbafaaibab.Opn
set_option linter.unusedVariables false
set_option linter.unusedSimpArgs false
theorem opn9 : Opens Try.prog 9 Kd.string (fun s => s.size ≤ 140737488351232) := Opens.string (by kernel_rfl) Try.underlying9
theorem opn42 : Opens Try.prog 42 (Kd.int .u32) (fun n => (Lit.int .u32 n).wf = true) := Opens.int (by kernel_rfl) Try.underlying42
theorem opn22 : Opens Try.prog 22 (Kd.slice 42 (Kd.int .u32)) (fun l => l.length ≤ 9223372036854775807 ∧ l.length * 4 ≤ 140737488351232 ∧ ∀ y ∈ l, (Lit.int .u32 y).wf = true) := Opens.slice (by kernel_rfl) Try.underlying22 (by kernel_rfl) opn42
theorem opn3 : Opens Try.prog 3 (Kd.int .i64) (fun n => (Lit.int .i64 n).wf = true) := Opens.int (by kernel_rfl) Try.underlying3
theorem opn2 : Opens Try.prog 2 (Kd.int .i64) (fun n => (Lit.int .i64 n).wf = true) := Opens.int (by kernel_rfl) Try.underlying2
theorem opn23 : Opens Try.prog 23 (Kd.slice 2 (Kd.int .i64)) (fun l => l.length ≤ 9223372036854775807 ∧ l.length * 8 ≤ 140737488351232 ∧ ∀ y ∈ l, (Lit.int .i64 y).wf = true) := Opens.slice (by kernel_rfl) Try.underlying23 (by kernel_rfl) opn2
theorem opn35 : Opens Try.prog 35 (Kd.int .i8) (fun n => (Lit.int .i8 n).wf = true) := Opens.int (by kernel_rfl) Try.underlying35
def wf37 (x : S37) : Prop := (x.f0.size ≤ 140737488351232) ∧ ((Lit.int .i8 x.f1).wf = true) ∧ ((Lit.int .i64 x.f2).wf = true)
set_option maxRecDepth 100000 in
theorem opn37 : Opens Try.prog 37 k37 wf37 := by
  refine Opens.struct (d := (Kd.pair Kd.string (Kd.pair (Kd.int .i8) (Kd.int .i64)))) (wf := (fun p : (ByteArray) × (Int) × (Int) => (p.1.size ≤ 140737488351232) ∧ ((Lit.int .i8 p.2.1).wf = true) ∧ ((Lit.int .i64 p.2.2).wf = true))) (fun x : S37 => (x.f0, x.f1, x.f2)) (fun p => ⟨p.1, p.2.1, p.2.2⟩) (fun _ => rfl) (by kernel_rfl) Try.underlying37 ?_
  refine OpensF.cons (d := Kd.string) (d' := (Kd.pair (Kd.int .i8) (Kd.int .i64))) (wf := (fun p : ByteArray => p.size ≤ 140737488351232)) (wf' := (fun p : (Int) × (Int) => ((Lit.int .i8 p.1).wf = true) ∧ ((Lit.int .i64 p.2).wf = true))) rfl opn9 ?_
  refine OpensF.cons (d := (Kd.int .i8)) (d' := (Kd.int .i64)) (wf := (fun p : Int => (Lit.int .i8 p).wf = true)) (wf' := (fun p : (Int) => ((Lit.int .i64 p).wf = true))) rfl opn35 ?_
  exact OpensF.one rfl opn3
theorem opn24 : Opens Try.prog 24 (Kd.slice 37 k37) (fun l => l.length ≤ 9223372036854775807 ∧ l.length * 32 ≤ 140737488351232 ∧ ∀ y ∈ l, wf37 y) := Opens.slice (by kernel_rfl) Try.underlying24 (by kernel_rfl) opn37
def wf41 (x : S41) : Prop := ((Lit.int .i64 x.f0).wf = true) ∧ ((Lit.int .i64 x.f1).wf = true)
set_option maxRecDepth 100000 in
theorem opn41 : Opens Try.prog 41 k41 wf41 := by
  refine Opens.struct (d := (Kd.pair (Kd.int .i64) (Kd.int .i64))) (wf := (fun p : (Int) × (Int) => ((Lit.int .i64 p.1).wf = true) ∧ ((Lit.int .i64 p.2).wf = true))) (fun x : S41 => (x.f0, x.f1)) (fun p => ⟨p.1, p.2⟩) (fun _ => rfl) (by kernel_rfl) Try.underlying41 ?_
  refine OpensF.cons (d := (Kd.int .i64)) (d' := (Kd.int .i64)) (wf := (fun p : Int => (Lit.int .i64 p).wf = true)) (wf' := (fun p : (Int) => ((Lit.int .i64 p).wf = true))) rfl opn3 ?_
  exact OpensF.one rfl opn3
theorem opn25 : Opens Try.prog 25 (Kd.slice 41 k41) (fun l => l.length ≤ 9223372036854775807 ∧ l.length * 16 ≤ 140737488351232 ∧ ∀ y ∈ l, wf41 y) := Opens.slice (by kernel_rfl) Try.underlying25 (by kernel_rfl) opn41
def wf27 (x : S27) : Prop := (x.f0.size ≤ 140737488351232) ∧ (x.f1.length ≤ 9223372036854775807 ∧ x.f1.length * 4 ≤ 140737488351232 ∧ ∀ y ∈ x.f1, (Lit.int .u32 y).wf = true) ∧ ((Lit.int .i64 x.f2).wf = true) ∧ (x.f3.length ≤ 9223372036854775807 ∧ x.f3.length * 8 ≤ 140737488351232 ∧ ∀ y ∈ x.f3, (Lit.int .i64 y).wf = true) ∧ (x.f4.length ≤ 9223372036854775807 ∧ x.f4.length * 32 ≤ 140737488351232 ∧ ∀ y ∈ x.f4, wf37 y) ∧ (x.f5.length ≤ 9223372036854775807 ∧ x.f5.length * 16 ≤ 140737488351232 ∧ ∀ y ∈ x.f5, wf41 y)
set_option maxRecDepth 100000 in
theorem opn27 : Opens Try.prog 27 k27 wf27 := by
  refine Opens.struct (d := (Kd.pair Kd.string (Kd.pair (Kd.slice 42 (Kd.int .u32)) (Kd.pair (Kd.int .i64) (Kd.pair (Kd.slice 2 (Kd.int .i64)) (Kd.pair (Kd.slice 37 k37) (Kd.slice 41 k41))))))) (wf := (fun p : (ByteArray) × (List Int) × (Int) × (List Int) × (List (S37)) × (List (S41)) => (p.1.size ≤ 140737488351232) ∧ (p.2.1.length ≤ 9223372036854775807 ∧ p.2.1.length * 4 ≤ 140737488351232 ∧ ∀ y ∈ p.2.1, (Lit.int .u32 y).wf = true) ∧ ((Lit.int .i64 p.2.2.1).wf = true) ∧ (p.2.2.2.1.length ≤ 9223372036854775807 ∧ p.2.2.2.1.length * 8 ≤ 140737488351232 ∧ ∀ y ∈ p.2.2.2.1, (Lit.int .i64 y).wf = true) ∧ (p.2.2.2.2.1.length ≤ 9223372036854775807 ∧ p.2.2.2.2.1.length * 32 ≤ 140737488351232 ∧ ∀ y ∈ p.2.2.2.2.1, wf37 y) ∧ (p.2.2.2.2.2.length ≤ 9223372036854775807 ∧ p.2.2.2.2.2.length * 16 ≤ 140737488351232 ∧ ∀ y ∈ p.2.2.2.2.2, wf41 y))) (fun x : S27 => (x.f0, x.f1, x.f2, x.f3, x.f4, x.f5)) (fun p => ⟨p.1, p.2.1, p.2.2.1, p.2.2.2.1, p.2.2.2.2.1, p.2.2.2.2.2⟩) (fun _ => rfl) (by kernel_rfl) Try.underlying27 ?_
  refine OpensF.cons (d := Kd.string) (d' := (Kd.pair (Kd.slice 42 (Kd.int .u32)) (Kd.pair (Kd.int .i64) (Kd.pair (Kd.slice 2 (Kd.int .i64)) (Kd.pair (Kd.slice 37 k37) (Kd.slice 41 k41)))))) (wf := (fun p : ByteArray => p.size ≤ 140737488351232)) (wf' := (fun p : (List Int) × (Int) × (List Int) × (List (S37)) × (List (S41)) => (p.1.length ≤ 9223372036854775807 ∧ p.1.length * 4 ≤ 140737488351232 ∧ ∀ y ∈ p.1, (Lit.int .u32 y).wf = true) ∧ ((Lit.int .i64 p.2.1).wf = true) ∧ (p.2.2.1.length ≤ 9223372036854775807 ∧ p.2.2.1.length * 8 ≤ 140737488351232 ∧ ∀ y ∈ p.2.2.1, (Lit.int .i64 y).wf = true) ∧ (p.2.2.2.1.length ≤ 9223372036854775807 ∧ p.2.2.2.1.length * 32 ≤ 140737488351232 ∧ ∀ y ∈ p.2.2.2.1, wf37 y) ∧ (p.2.2.2.2.length ≤ 9223372036854775807 ∧ p.2.2.2.2.length * 16 ≤ 140737488351232 ∧ ∀ y ∈ p.2.2.2.2, wf41 y))) rfl opn9 ?_
  refine OpensF.cons (d := (Kd.slice 42 (Kd.int .u32))) (d' := (Kd.pair (Kd.int .i64) (Kd.pair (Kd.slice 2 (Kd.int .i64)) (Kd.pair (Kd.slice 37 k37) (Kd.slice 41 k41))))) (wf := (fun p : List Int => p.length ≤ 9223372036854775807 ∧ p.length * 4 ≤ 140737488351232 ∧ ∀ y ∈ p, (Lit.int .u32 y).wf = true)) (wf' := (fun p : (Int) × (List Int) × (List (S37)) × (List (S41)) => ((Lit.int .i64 p.1).wf = true) ∧ (p.2.1.length ≤ 9223372036854775807 ∧ p.2.1.length * 8 ≤ 140737488351232 ∧ ∀ y ∈ p.2.1, (Lit.int .i64 y).wf = true) ∧ (p.2.2.1.length ≤ 9223372036854775807 ∧ p.2.2.1.length * 32 ≤ 140737488351232 ∧ ∀ y ∈ p.2.2.1, wf37 y) ∧ (p.2.2.2.length ≤ 9223372036854775807 ∧ p.2.2.2.length * 16 ≤ 140737488351232 ∧ ∀ y ∈ p.2.2.2, wf41 y))) rfl opn22 ?_
  refine OpensF.cons (d := (Kd.int .i64)) (d' := (Kd.pair (Kd.slice 2 (Kd.int .i64)) (Kd.pair (Kd.slice 37 k37) (Kd.slice 41 k41)))) (wf := (fun p : Int => (Lit.int .i64 p).wf = true)) (wf' := (fun p : (List Int) × (List (S37)) × (List (S41)) => (p.1.length ≤ 9223372036854775807 ∧ p.1.length * 8 ≤ 140737488351232 ∧ ∀ y ∈ p.1, (Lit.int .i64 y).wf = true) ∧ (p.2.1.length ≤ 9223372036854775807 ∧ p.2.1.length * 32 ≤ 140737488351232 ∧ ∀ y ∈ p.2.1, wf37 y) ∧ (p.2.2.length ≤ 9223372036854775807 ∧ p.2.2.length * 16 ≤ 140737488351232 ∧ ∀ y ∈ p.2.2, wf41 y))) rfl opn3 ?_
  refine OpensF.cons (d := (Kd.slice 2 (Kd.int .i64))) (d' := (Kd.pair (Kd.slice 37 k37) (Kd.slice 41 k41))) (wf := (fun p : List Int => p.length ≤ 9223372036854775807 ∧ p.length * 8 ≤ 140737488351232 ∧ ∀ y ∈ p, (Lit.int .i64 y).wf = true)) (wf' := (fun p : (List (S37)) × (List (S41)) => (p.1.length ≤ 9223372036854775807 ∧ p.1.length * 32 ≤ 140737488351232 ∧ ∀ y ∈ p.1, wf37 y) ∧ (p.2.length ≤ 9223372036854775807 ∧ p.2.length * 16 ≤ 140737488351232 ∧ ∀ y ∈ p.2, wf41 y))) rfl opn23 ?_
  refine OpensF.cons (d := (Kd.slice 37 k37)) (d' := (Kd.slice 41 k41)) (wf := (fun p : List (S37) => p.length ≤ 9223372036854775807 ∧ p.length * 32 ≤ 140737488351232 ∧ ∀ y ∈ p, wf37 y)) (wf' := (fun p : (List (S41)) => (p.length ≤ 9223372036854775807 ∧ p.length * 16 ≤ 140737488351232 ∧ ∀ y ∈ p, wf41 y))) rfl opn24 ?_
  exact OpensF.one rfl opn25
theorem opn5 : Opens Try.prog 5 (Kd.int .u8) (fun n => (Lit.int .u8 n).wf = true) := Opens.int (by kernel_rfl) Try.underlying5
end Go.Proofs.Ytiaohbbafaaibab.P

/- OWN TEXT, written by rows.py: the pure statement of the law ObjectFinds. -/
namespace Go.Proofs.Ytiaohbbafaaibab.P
open Go.RowKit Go.Proofs.YtiaohbbafaaibabW.PrintWords Go.Proofs.YtiaohbbafaaibabW.PrintLast Go.Proofs.YtiaohbbafaaibabW.PrintMore Go.Proofs.Ytiaohbbafaaibab.Opn
set_option linter.unusedVariables false
set_option linter.unusedSimpArgs false
def pleatlaw03_ObjectFinds.Pure : Prop := ∀ (x0 : S27) (x1 : Int), (wf27 x0) → ((Lit.int .u8 x1).wf = true) → ∃ k, pleatlaw03_ObjectFinds.f k x0.f0 x0.f1 x0.f2 x0.f3 x0.f4 x0.f5 x1 = some true
end Go.Proofs.Ytiaohbbafaaibab.P

/- OWN TEXT: objects over plain lists: names, what is found by a name or a place, the reference's check: all come to the same as the program's. -/
set_option linter.unusedVariables false
set_option linter.unusedSimpArgs false
namespace Go.Proofs.Ytiaohbbafaaibab.P
open Go.RowKit Go.Maps Go.Proofs.YtiaohbbafaaibabW.PrintWords Go.Proofs.YtiaohbbafaaibabW.PrintLast Go.Proofs.YtiaohbbafaaibabW.PrintMore Go.Proofs.Ytiaohbbafaaibab.MapB

theorem Ev.upto {α : Type} {g : Nat → Int → Option α} {r : α} {n : Nat} (p : Nat → Prop) (step : ∀ i : Nat, i < n → p i → (p (i + 1) → Ev (fun k => g k ((i + 1 : Nat) : Int)) r) → Ev (fun k => g k (i : Int)) r) (last : p n → Ev (fun k => g k (n : Int)) r) : ∀ i : Nat, i ≤ n → p i → Ev (fun k => g k (i : Int)) r := by
  have : ∀ d i : Nat, i + d = n → p i → Ev (fun k => g k (i : Int)) r := by
    intro d
    induction d with
    | zero => intro i hi hp; obtain rfl : i = n := by omega
              exact last hp
    | succ d ih => intro i hi hp; exact step i (by omega) hp (ih (i + 1) (by omega))
  intro i hi
  exact this (n - i) i (by omega)
theorem wrapS {i n : Nat} (hi : i < n) (hn : n ≤ 1000000000) : wrap64 ((i : Int) + 1) = ((i + 1 : Nat) : Int) := by rw [wrap64_id (by omega) (by omega)]; rfl
theorem sy_get {l : List Sym} {i : Nat} (h : i < l.length) : rd_T37 l (i : Int) = l[i] := by
  unfold rd_T37
  simp [List.getD_eq_getElem?_getD, List.getElem?_eq_getElem h]
theorem rl_get {l : List Rel} {i : Nat} (h : i < l.length) : rd_T41 l (i : Int) = l[i] := by
  unfold rd_T41
  simp [List.getD_eq_getElem?_getD, List.getElem?_eq_getElem h]
theorem sy_at {l : List Sym} {i : Nat} (h : i < l.length) : sy l i = l[i] := sy_get h
theorem rl_at {l : List Rel} {i : Nat} (h : i < l.length) : rl l i = l[i] := rl_get h
theorem toList_loop (s : ByteArray) : ∀ (d i : Nat) (r : List UInt8), i + d = s.size → ByteArray.toList.loop s i r = r.reverse ++ s.data.toList.drop i := by
  intro d
  induction d with
  | zero =>
    intro i r hi
    rw [ByteArray.toList.loop, if_neg (by omega), List.drop_eq_nil_of_le (by rw [data_length]; omega), List.append_nil]
  | succ d ih =>
    intro i r hi
    have hlt : i < s.data.toList.length := by rw [data_length]; omega
    rw [ByteArray.toList.loop, if_pos (by omega), ih (i + 1) _ (by omega), List.drop_eq_getElem_cons hlt, List.reverse_cons, List.append_assoc]
    have e : s.get! i = s.data.toList[i] := by
      have h2 : i < s.data.size := by simpa using hlt
      simp only [ByteArray.get!]
      exact getElem!_pos s.data i h2
    rw [e]
    rfl
theorem toList_eq (s : ByteArray) : s.toList = s.data.toList := by
  have := toList_loop s s.size 0 [] (by omega)
  simpa [ByteArray.toList] using this
theorem toList_inj {a b : ByteArray} : a.toList = b.toList ↔ a = b := by
  rw [toList_eq, toList_eq]
  constructor
  · intro h
    have : a.data = b.data := Array.toList_inj.1 h
    cases a; cases b; simp at this; subst this; rfl
  · intro h; rw [h]
theorem key_inj {a b : ByteArray} : (keyN a).sameKey (keyN b) = true ↔ a = b := by
  unfold keyN
  show (a.data.toList == b.data.toList) = true ↔ _
  rw [beq_iff_eq, ← toList_eq, ← toList_eq]
  exact toList_inj
theorem seen_iff (l : List Sym) (s : ByteArray) : ∀ i, nameSeen l i (keyN s) = true ↔ ∃ j, j < i ∧ (sy l j).f0 = s
  | 0 => by simp [nameSeen]
  | i + 1 => by
    show addS (nameSeen l i) (keyN (sy l i).f0) (keyN s) = true ↔ _
    unfold addS
    rw [Bool.or_eq_true, seen_iff l s i, key_inj]
    constructor
    · rintro (h | ⟨j, hj, h⟩)
      · exact ⟨i, by omega, h.symm⟩
      · exact ⟨j, by omega, h⟩
    · rintro ⟨j, hj, h⟩
      by_cases e : j = i
      · subst e; exact .inl h.symm
      · exact .inr ⟨j, by omega, h⟩

def ofN (nm : ByteArray) : List Sym → Nat → Int
  | [], _ => -1
  | s :: r, i => if s.f0.toList = nm.toList then (i : Int) else ofN nm r (i + 1)
def atN (p : Int) : List Rel → Nat → Int
  | [], _ => -1
  | s :: r, i => if s.f0 = p then (i : Int) else atN p r (i + 1)
theorem ofo1 (l : List Sym) (hl : l.length ≤ 1000000000) (a : ByteArray) (c : List Int) (d : Int) (e : List Int) (f : List Rel) (nm : ByteArray) : Ev (fun k => object_Of.f k a c d e l f nm) (ofN nm l 0) := by
  unfold object_Of.f
  have : ∀ d i : Nat, i + d = l.length → Ev (fun k => object_Of.l0 k nm l (l.length : Int) (i : Int)) (ofN nm (l.drop i) i) := by
    intro d
    induction d with
    | zero =>
      intro i hi
      rw [List.drop_eq_nil_of_le (by omega)]
      exact Ev.succ (Ev.iteF (by omega) (Ev.val rfl))
    | succ d ih =>
      intro i hi
      have hlt : i < l.length := by omega
      rw [drop_get hlt]
      unfold ofN
      refine Ev.succ (Ev.iteT (by omega) (Ev.iteT (by omega) (Ev.iteT (by omega) ?_)))
      simp only [sy_get hlt, wrapS hlt hl]
      refine Ev.ite2 (fun h => Ev.val (by rw [if_pos h])) (fun h => ?_)
      rw [if_neg h]
      exact ih (i + 1) (by omega)
  exact this l.length 0 (by omega)
theorem ato1 (l : List Rel) (hl : l.length ≤ 1000000000) (a : ByteArray) (c : List Int) (d : Int) (e : List Int) (f : List Sym) (p : Int) : Ev (fun k => object_At.f k a c d e f l p) (atN p l 0) := by
  unfold object_At.f
  have : ∀ d i : Nat, i + d = l.length → Ev (fun k => object_At.l0 k p l (l.length : Int) (i : Int)) (atN p (l.drop i) i) := by
    intro d
    induction d with
    | zero =>
      intro i hi
      rw [List.drop_eq_nil_of_le (by omega)]
      exact Ev.succ (Ev.iteF (by omega) (Ev.val rfl))
    | succ d ih =>
      intro i hi
      have hlt : i < l.length := by omega
      rw [drop_get hlt]
      unfold atN
      refine Ev.succ (Ev.iteT (by omega) (Ev.iteT (by omega) (Ev.iteT (by omega) ?_)))
      simp only [rl_get hlt, wrapS hlt hl]
      refine Ev.ite2 (fun h => Ev.val (by rw [if_pos h])) (fun h => ?_)
      rw [if_neg h]
      exact ih (i + 1) (by omega)
  exact this l.length 0 (by omega)
/-- it is i just if none before it has the name, where i itself has it. -/
theorem ofN_at (nm : ByteArray) : ∀ (l : List Sym) (b i : Nat), (h : i < l.length) → l[i].f0 = nm → (∀ j, (hj : j < i) → (l[j]'(by omega)).f0 ≠ nm) → ofN nm l b = ((b + i : Nat) : Int)
  | s :: r, b, 0, h, hn, _ => by
    unfold ofN
    rw [if_pos (by rw [← hn]; rfl)]
    rfl
  | s :: r, b, i + 1, h, hn, hb => by
    unfold ofN
    have h0 : s.f0 ≠ nm := hb 0 (by omega)
    rw [if_neg (fun e => h0 (toList_inj.1 e)), ofN_at nm r (b + 1) i (by simpa using h) (by simpa using hn) (fun j hj => by have := hb (j + 1) (by omega); simpa using this)]
    congr 1
    omega
theorem ofN_lt (nm : ByteArray) : ∀ (l : List Sym) (b j : Nat), (h : j < l.length) → l[j].f0 = nm → ofN nm l b ≤ ((b + j : Nat) : Int)
  | s :: r, b, j, h, hn => by
    unfold ofN
    by_cases c : s.f0.toList = nm.toList
    · rw [if_pos c]; omega
    · rw [if_neg c]
      cases j with
      | zero => exact absurd (toList_inj.2 hn) c
      | succ j =>
        have := ofN_lt nm r (b + 1) j (by simpa using h) (by simpa using hn)
        omega
theorem ofN_seen {l : List Sym} {i : Nat} (h : i < l.length) : ofN (sy l i).f0 l 0 = (i : Int) ↔ nameSeen l i (keyN (sy l i).f0) = false := by
  rw [← Bool.not_eq_true, seen_iff]
  constructor
  · rintro e ⟨j, hj, hn⟩
    rw [sy_at (by omega)] at hn
    have := ofN_lt (sy l i).f0 l 0 j (by omega) hn
    omega
  · intro hn
    have := ofN_at (sy l i).f0 l 0 i h (by rw [sy_at h]) (fun j hj e => hn ⟨j, hj, by rw [sy_at (by omega)]; exact e⟩)
    rw [this]
    simp

theorem mark_of {l : List Rel} {k : Nat} : ∀ {n : Nat}, markB l n k = true → ∃ j, j < n ∧ k = (rl l j).f0.toNat
  | 0, h => by cases h
  | n + 1, h => by
    have h : (decide (k = (rl l n).f0.toNat) || markB l n k) = true := h
    rw [Bool.or_eq_true, decide_eq_true_eq] at h
    rcases h with h | h
    · exact ⟨n, by omega, h⟩
    · obtain ⟨j, hj, e⟩ := mark_of h
      exact ⟨j, by omega, e⟩
theorem relE_ok {code : List Int} {ns : Int} {l : List Rel} {i : Nat} (h : relE code ns l i = 0) : lastR l i < (rl l i).f0 ∧ (rl l i).f0 < (code.length : Int) ∧ 0 ≤ (rl l i).f1 ∧ (rl l i).f1 < ns ∧ (tgtS (rd code (rl l i).f0)).2 = true ∧ (tgtS (rd code (rl l i).f0)).1 = 0 := by
  rw [relE_eq] at h
  split at h
  · exact absurd h (by decide)
  split at h
  · exact absurd h (by decide)
  split at h
  · exact absurd h (by decide)
  split at h
  · exact absurd h (by decide)
  split at h
  · rename_i h5
    split at h
    · rename_i h6
      exact ⟨by omega, by omega, by omega, by omega, h5, h6⟩
    · exact absurd h (by decide)
  · exact absurd h (by decide)
theorem scan_plain {code : List Int} {ns : Int} {l : List Rel} (hz : ∀ j, j < l.length → relE code ns l j = 0) (k : Nat) : scanE code (markB l l.length) k = if (tgtS (rd code (k : Int))).2 = true then (if (tgtS (rd code (k : Int))).1 > (code.length : Int) then 22 else 0) else 0 := by
  rw [scanE_eq]
  by_cases h : (tgtS (rd code (k : Int))).2 = true
  · rw [if_pos h, if_pos h]
    by_cases hn : markB l l.length k = true
    · rw [if_pos hn]
      obtain ⟨j, hj, e⟩ := mark_of hn
      obtain ⟨h1, _, _, _, _, h6⟩ := relE_ok (hz j hj)
      have hlo := lastR_lo code ns l j (fun q hq => hz q (by omega))
      rw [show ((rl l j).f0) = (k : Int) by omega] at h6
      rw [if_neg (by omega)]
    · rw [if_neg hn]
  · rw [if_neg h, if_neg h]
theorem firstS_iff {g : Nat → Int} {n : Nat} (h : (firstS g n n).1 = 0) : ∀ j, j < n → g j = 0 := by
  intro j hj
  have key : ∀ d i, i + d = n → (∀ q, q < i → g q = 0) → ∀ q, q < n → g q = 0 := by
    intro d
    induction d with
    | zero => intro i hi hz q hq; exact hz q (by omega)
    | succ d ih =>
      intro i hi hz q hq
      by_cases e : g i = 0
      · exact ih (i + 1) (by omega) (fun p hp => by
          by_cases e2 : p = i
          · rw [e2]; exact e
          · exact hz p (by omega)) q hq
      · rw [firstS_at (by omega) hz e] at h
        exact absurd h e
  exact key n 0 (by omega) (fun q hq => absurd hq (Nat.not_lt_zero _)) j hj
end Go.Proofs.Ytiaohbbafaaibab.P

/- OWN TEXT: what holds in an object that may be, over plain lists; a word more, a relocation less, a symbol twice. -/
set_option linter.unusedVariables false
set_option linter.unusedSimpArgs false
namespace Go.Proofs.Ytiaohbbafaaibab.P
open Go.RowKit Go.Maps Go.Proofs.YtiaohbbafaaibabW.PrintWords Go.Proofs.YtiaohbbafaaibabW.PrintLast Go.Proofs.YtiaohbbafaaibabW.PrintMore Go.Proofs.Ytiaohbbafaaibab.MapB

def plainE (code : List Int) (k : Nat) : Int := if (tgtS (rd code (k : Int))).2 = true then (if (tgtS (rd code (k : Int))).1 > (code.length : Int) then 22 else 0) else 0
structure OkO (nm : ByteArray) (code : List Int) (dat : Int) (data : List Int) (syms : List Sym) (rels : List Rel) : Prop where
  osize : (sizeS nm code dat data syms.length rels.length).1 = 0
  osyms : ∀ j, j < syms.length → symE syms (code.length : Int) j = 0
  orels : ∀ j, j < rels.length → relE code (syms.length : Int) rels j = 0
  oscan : ∀ k, k < code.length → plainE code k = 0
section
variable {nm : ByteArray} {code : List Int} {dat : Int} {data : List Int} {syms : List Sym} {rels : List Rel}
theorem scanS_iff {g : Nat → Int} {n : Nat} (h : (scanS g n n).1 = 0) : ∀ j, j < n → g j = 0 := by
  intro j hj
  have key : ∀ d i, i + d = n → (∀ q, q < i → g q = 0) → ∀ q, q < n → g q = 0 := by
    intro d
    induction d with
    | zero => intro i hi hz q hq; exact hz q (by omega)
    | succ d ih =>
      intro i hi hz q hq
      by_cases e : g i = 0
      · exact ih (i + 1) (by omega) (fun p hp => by
          by_cases e2 : p = i
          · rw [e2]; exact e
          · exact hz p (by omega)) q hq
      · rw [scanS_at (by omega) hz e] at h
        exact absurd h e
  exact key n 0 (by omega) (fun q hq => absurd hq (Nat.not_lt_zero _)) j hj
theorem sizeS_zero {ns nr : Nat} (h : (sizeS nm code dat data ns nr).1 = 0) : sizeS nm code dat data ns nr = (0, 0) := by
  unfold sizeS at h ⊢
  split at h
  · rename_i c
    rw [if_pos c]
    split at h
    · exact absurd h (by decide)
    rename_i c
    rw [if_neg c]
    split at h
    · exact absurd h (by decide)
    rename_i c
    rw [if_neg c]
    split at h
    · exact absurd h (by decide)
    rename_i c
    rw [if_neg c]
    split at h
    · exact absurd h (by decide)
    rename_i c
    rw [if_neg c]
    split at h
    · exact absurd h (by decide)
    rename_i c
    rw [if_neg c]
    split at h
    · exact absurd h (by decide)
    rename_i c
    rw [if_neg c]
  · exact absurd h (by decide)
theorem okO_of (h : (chkO nm code dat data syms rels).1 = 0) : OkO nm code dat data syms rels := by
  unfold chkO at h
  by_cases h1 : (sizeS nm code dat data syms.length rels.length).1 = 0
  · rw [if_pos h1] at h
    by_cases h2 : (symsS syms (code.length : Int)).1 = 0
    · rw [if_pos h2] at h
      by_cases h3 : (relocsS code (syms.length : Int) rels).1 = 0
      · have hs := firstS_iff (g := symE syms (code.length : Int)) h2
        have hr : ∀ j, j < rels.length → relE code (syms.length : Int) rels j = 0 := by
          unfold relocsS at h3
          by_cases h4 : (firstS (relE code (syms.length : Int) rels) rels.length rels.length).1 = 0
          · exact firstS_iff h4
          · rw [if_neg h4] at h3; exact absurd h3 h4
        rw [relocs_scan hr] at h3
        have hk := scanS_iff h3
        exact ⟨h1, hs, hr, fun k hk' => (scan_plain hr k).symm.trans (hk k hk')⟩
      · rw [if_neg h3] at h; exact absurd h h3
    · rw [if_neg h2] at h; exact absurd h h2
  · rw [if_neg h1] at h; exact absurd h h1
theorem OkO.chk (h : OkO nm code dat data syms rels) : chkO nm code dat data syms rels = (0, 0) := by
  unfold chkO
  rw [if_pos h.osize]
  have h2 : symsS syms (code.length : Int) = (0, 0) := firstS_zero h.osyms
  rw [h2, if_pos rfl]
  have h3 : relocsS code (syms.length : Int) rels = (0, 0) := by
    rw [relocs_scan h.orels]
    exact scanS_zero (fun j hj => (scan_plain h.orels j).trans (h.oscan j hj))
  rw [h3, if_pos rfl]
theorem symE_ok {l : List Sym} {n : Int} {i : Nat} (h : symE l n i = 0) : nameS (sy l i).f0 = true ∧ nameSeen l i (keyN (sy l i).f0) = false ∧ 0 ≤ (sy l i).f1 ∧ (sy l i).f1 ≤ 3 ∧ 0 ≤ (sy l i).f2 ∧ (sy l i).f2 ≤ n ∧ ((sy l i).f1 = 3 → (sy l i).f2 = 0) := by
  rw [symE_eq] at h
  split at h
  · rename_i h0
    refine ⟨h0, ?_⟩
    split at h
    · exact absurd h (by decide)
    rename_i h1
    refine ⟨by simpa using h1, ?_⟩
    split at h
    · exact absurd h (by decide)
    split at h
    · exact absurd h (by decide)
    split at h
    · exact absurd h (by decide)
    split at h
    · exact absurd h (by decide)
    split at h
    · split at h
      · exact ⟨by omega, by omega, by omega, by omega, fun _ => by assumption⟩
      · exact absurd h (by decide)
    · exact ⟨by omega, by omega, by omega, by omega, fun e => by contradiction⟩
  · exact absurd h (by decide)
theorem symE_mk {l : List Sym} {n : Int} {i : Nat} (h0 : nameS (sy l i).f0 = true) (h1 : nameSeen l i (keyN (sy l i).f0) = false) (h2 : 0 ≤ (sy l i).f1) (h3 : (sy l i).f1 ≤ 3) (h4 : 0 ≤ (sy l i).f2) (h5 : (sy l i).f2 ≤ n) (h6 : (sy l i).f1 = 3 → (sy l i).f2 = 0) : symE l n i = 0 := by
  rw [symE_eq, if_pos h0, if_neg (by rw [h1]; decide), if_neg (by omega), if_neg (by omega), if_neg (by omega), if_neg (by omega)]
  by_cases c : (sy l i).f1 = 3
  · rw [if_pos c, if_pos (h6 c)]
  · rw [if_neg c]
theorem relE_mk {l : List Rel} {ns : Int} {i : Nat} (h1 : lastR l i < (rl l i).f0) (h2 : (rl l i).f0 < (code.length : Int)) (h3 : 0 ≤ (rl l i).f1) (h4 : (rl l i).f1 < ns) (h5 : (tgtS (rd code (rl l i).f0)).2 = true) (h6 : (tgtS (rd code (rl l i).f0)).1 = 0) : relE code ns l i = 0 := by
  rw [relE_eq, if_neg (by omega), if_neg (by omega), if_neg (by omega), if_neg (by omega), if_pos h5, if_pos h6]
theorem lastR_rise {ns : Int} (h : ∀ j, j < rels.length → relE code ns rels j = 0) : ∀ i, i < rels.length → ∀ j, j < i → (rl rels j).f0 < (rl rels i).f0
  | 0, _, j, hj => absurd hj (Nat.not_lt_zero _)
  | i + 1, hi, j, hj => by
    have h1 : (rl rels i).f0 < (rl rels (i + 1)).f0 := (relE_ok (h (i + 1) hi)).1
    by_cases e : j = i
    · rw [e]; exact h1
    · have := lastR_rise h i (by omega) j (by omega)
      omega
theorem atN_at (p : Int) : ∀ (l : List Rel) (b i : Nat), (h : i < l.length) → l[i].f0 = p → (∀ j, (hj : j < i) → (l[j]'(by omega)).f0 ≠ p) → atN p l b = ((b + i : Nat) : Int)
  | s :: r, b, 0, h, hn, _ => by
    unfold atN
    rw [if_pos (by rw [← hn]; rfl)]
    rfl
  | s :: r, b, i + 1, h, hn, hb => by
    unfold atN
    have h0 : s.f0 ≠ p := hb 0 (by omega)
    rw [if_neg h0, atN_at p r (b + 1) i (by simpa using h) (by simpa using hn) (fun j hj => by have := hb (j + 1) (by omega); simpa using this)]
    congr 1
    omega
theorem OkO.at (h : OkO nm code dat data syms rels) {i : Nat} (hi : i < rels.length) : atN (rl rels i).f0 rels 0 = (i : Int) := by
  have := atN_at (rl rels i).f0 rels 0 i hi (by rw [rl_at hi]) (fun j hj e => by
    have := lastR_rise h.orels i hi j hj
    rw [rl_at (show j < rels.length by omega), e] at this
    omega)
  rw [this]
  simp
theorem OkO.of (h : OkO nm code dat data syms rels) {i : Nat} (hi : i < syms.length) : ofN (sy syms i).f0 syms 0 = (i : Int) := (ofN_seen hi).2 (symE_ok (h.osyms i hi)).2.1
theorem rd_app {l m : List Int} {x : Int} (h0 : 0 ≤ x) (h1 : x < (l.length : Int)) : rd (l ++ m) x = rd l x := by
  unfold rd
  rw [List.getD_eq_getElem?_getD, List.getD_eq_getElem?_getD, List.getElem?_append_left (by omega)]
theorem rel_lo (h : OkO nm code dat data syms rels) {j : Nat} (hj : j < rels.length) : 0 ≤ (rl rels j).f0 := by
  have h1 := (relE_ok (h.orels j hj)).1
  have h2 := lastR_lo code (syms.length : Int) rels j (fun q hq => h.orels q (by omega))
  omega
set_option maxRecDepth 100000 in
theorem tgt_one : (tgtS 1).2 = false := by kernel_rfl
theorem sizeS_mk {ns nr : Nat} (h0 : nameS nm = true) (h1 : code.length ≤ 16384) (h2 : ns ≤ 256) (h3 : nr ≤ code.length) (h4 : 0 ≤ dat) (h5 : dat + (data.length : Int) ≤ 4096) : (sizeS nm code dat data ns nr).1 = 0 := by
  unfold sizeS
  rw [if_pos h0, if_neg (by omega), if_neg (by omega), if_neg (by omega), if_neg (by omega), if_neg (by omega), if_neg (by omega)]
/-- one word more, that is no instruction. -/
theorem OkO.word (h : OkO nm code dat data syms rels) (hl : code.length < 16384) : OkO nm (code ++ [1]) dat data syms rels := by
  obtain ⟨a0, a1, a2, a3, a4, a5⟩ := sizeS_ok h.osize
  have hlen : (code ++ [1]).length = code.length + 1 := by simp
  refine ⟨sizeS_mk a0 (by omega) a2 (by omega) a4 a5, fun j hj => ?_, fun j hj => ?_, fun k hk => ?_⟩
  · obtain ⟨b0, b1, b2, b3, b4, b5, b6⟩ := symE_ok (h.osyms j hj)
    exact symE_mk b0 b1 b2 b3 b4 (by omega) b6
  · obtain ⟨b0, b1, b2, b3, b4, b5⟩ := relE_ok (h.orels j hj)
    have hlo := rel_lo h hj
    exact relE_mk b0 (by omega) b2 b3 (by rw [rd_app hlo b1]; exact b4) (by rw [rd_app hlo b1]; exact b5)
  · unfold plainE
    by_cases e : k < code.length
    · have hs := h.oscan k e
      unfold plainE at hs
      rw [rd_app (by omega) (by omega)]
      by_cases c : (tgtS (rd code (k : Int))).2 = true
      · rw [if_pos c] at hs ⊢
        by_cases c2 : (tgtS (rd code (k : Int))).1 > (code.length : Int)
        · rw [if_pos c2] at hs; exact absurd hs (by decide)
        · rw [if_neg (by omega)]
      · rw [if_neg c]
    · obtain rfl : k = code.length := by omega
      have : rd (code ++ [1]) (code.length : Int) = 1 := by unfold rd; simp
      rw [this, tgt_one, if_neg (by decide)]
theorem rl_take {n j : Nat} (hj : j < n) : rl (rels.take n) j = rl rels j := by
  unfold rl rd_T41
  simp only [List.getD_eq_getElem?_getD, Int.toNat_natCast, List.getElem?_take_of_lt hj]
theorem lastR_take {n j : Nat} (hj : j ≤ n) : lastR (rels.take n) j = lastR rels j := by
  cases j with
  | zero => rfl
  | succ j => show (rl (rels.take n) j).f0 = (rl rels j).f0; rw [rl_take (by omega)]
/-- a relocation less: the last. -/
theorem OkO.less (h : OkO nm code dat data syms rels) {n : Nat} (hn : n ≤ rels.length) : OkO nm code dat data syms (rels.take n) := by
  obtain ⟨a0, a1, a2, a3, a4, a5⟩ := sizeS_ok h.osize
  have hlen : (rels.take n).length = n := by simp; omega
  refine ⟨sizeS_mk a0 a1 a2 (by omega) a4 a5, h.osyms, fun j hj => ?_, h.oscan⟩
  rw [hlen] at hj
  obtain ⟨b0, b1, b2, b3, b4, b5⟩ := relE_ok (h.orels j (by omega))
  refine relE_mk ?_ ?_ ?_ ?_ ?_ ?_
  · rw [rl_take hj, lastR_take (by omega)]; exact b0
  · rw [rl_take hj]; exact b1
  · rw [rl_take hj]; exact b2
  · rw [rl_take hj]; exact b3
  · rw [rl_take hj]; exact b4
  · rw [rl_take hj]; exact b5
theorem sy_app {s : Sym} {j : Nat} (hj : j < syms.length) : sy (syms ++ [s]) j = sy syms j := by
  rw [sy_at (by simp; omega), sy_at hj, List.getElem_append_left hj]
theorem seen_app {s : Sym} : ∀ j, j ≤ syms.length → nameSeen (syms ++ [s]) j = nameSeen syms j
  | 0, _ => rfl
  | j + 1, h => by
    show addS (nameSeen (syms ++ [s]) j) (keyN (sy (syms ++ [s]) j).f0) = addS (nameSeen syms j) (keyN (sy syms j).f0)
    rw [seen_app j (by omega), sy_app (by omega)]
/-- a symbol twice: the second is told. -/
theorem OkO.twice (h : OkO nm code dat data syms rels) (hl : syms.length < 256) {p : Nat} (hp : p < syms.length) {s : Sym} (hs : s.f0 = (sy syms p).f0) : chkO nm code dat data (syms ++ [s]) rels = (26, (syms.length : Int)) := by
  obtain ⟨a0, a1, a2, a3, a4, a5⟩ := sizeS_ok h.osize
  have hlen : (syms ++ [s]).length = syms.length + 1 := by simp
  have hlast : sy (syms ++ [s]) syms.length = s := by rw [sy_at (by omega)]; simp
  have hsy : symsS (syms ++ [s]) (code.length : Int) = (26, (syms.length : Int)) := by
    have h26 : symE (syms ++ [s]) (code.length : Int) syms.length = 26 := by
      rw [symE_eq, hlast, if_pos (by rw [hs]; exact (symE_ok (h.osyms p hp)).1), if_pos (by rw [seen_app _ (Nat.le_refl _), seen_iff]; exact ⟨p, hp, hs.symm⟩)]
    have := firstS_at (g := symE (syms ++ [s]) (code.length : Int)) (n := (syms ++ [s]).length) (i := syms.length) (by omega) (fun j hj => by
      obtain ⟨b0, b1, b2, b3, b4, b5, b6⟩ := symE_ok (h.osyms j hj)
      rw [← sy_app (s := s) hj] at b0 b1 b2 b3 b4 b5 b6
      rw [← seen_app (s := s) j (by omega)] at b1
      exact symE_mk b0 b1 b2 b3 b4 b5 b6) (by rw [h26]; decide)
    rw [h26] at this
    exact this
  unfold chkO
  rw [if_pos (sizeS_mk a0 a1 (by omega) a3 a4 a5), hsy]
  exact if_neg (show ¬ (26 : Int) = 0 by decide)
end
end Go.Proofs.Ytiaohbbafaaibab.P

/- The statement ObjectFinds: of every object and pick its law's Go function answers true and leaves its arguments as they were; no further condition. This text: the law over numbers and lists, no memory. -/
namespace Go.Proofs.Ytiaohbbafaaibab.P
open Go.RowKit Go.Proofs.YtiaohbbafaaibabW.PrintWords Go.Proofs.YtiaohbbafaaibabW.PrintLast Go.Proofs.YtiaohbbafaaibabW.PrintMore Go.Proofs.Ytiaohbbafaaibab.Opn
set_option linter.unusedVariables false
set_option linter.unusedSimpArgs false

set_option maxRecDepth 100000 in
theorem works3 : Ev (fun k => pleatlaw03_lives.f k) true := Ev.of (fun k => pleatlaw03_lives.mono k) (k := 20) (by kernel_rfl)
theorem heavy3 (nm : ByteArray) (code : List Int) (dat : Int) (data : List Int) (syms : List Sym) (rels : List Rel) (hs : ∀ s ∈ syms, s.f0.size ≤ 140737488351232) (hn : syms.length ≤ 140737488351232) :
    ∃ b, Ev (fun k => pleatlaw03_heavy.f k nm code dat data syms rels) b ∧ (b = false → syms.length ≤ 1048576 ∧ code.length ≤ 32768 ∧ data.length ≤ 32768 ∧ rels.length ≤ 32768) := by
  have fin : ∀ n : Int, (syms.length : Int) ≤ n ∨ 1048576 < n → ∃ b, (∀ k : Nat, (if n > 1048576 then (some true) else (if (nm.size : Int) > 1048576 then (some true) else (if (code.length : Int) > 32768 then (some true) else (if (data.length : Int) > 32768 then (some true) else (some (decide ((rels.length : Int) > 32768))))))) = some b) ∧ (b = false → syms.length ≤ 1048576 ∧ code.length ≤ 32768 ∧ data.length ≤ 32768 ∧ rels.length ≤ 32768) := by
    intro n hn
    by_cases c1 : n > 1048576
    · exact ⟨true, fun _ => by rw [if_pos c1], fun h => by cases h⟩
    by_cases c2 : (nm.size : Int) > 1048576
    · exact ⟨true, fun _ => by rw [if_neg c1, if_pos c2], fun h => by cases h⟩
    by_cases c3 : (code.length : Int) > 32768
    · exact ⟨true, fun _ => by rw [if_neg c1, if_neg c2, if_pos c3], fun h => by cases h⟩
    by_cases c4 : (data.length : Int) > 32768
    · exact ⟨true, fun _ => by rw [if_neg c1, if_neg c2, if_neg c3, if_pos c4], fun h => by cases h⟩
    refine ⟨_, fun _ => by rw [if_neg c1, if_neg c2, if_neg c3, if_neg c4], fun h => ?_⟩
    have h := of_decide_eq_false h
    omega
  have key : ∀ d i : Nat, ∀ n : Int, i + d = syms.length → (i : Int) ≤ n → n ≤ 140737489399809 → ∃ b, Ev (fun k => pleatlaw03_heavy.l0 k n (i : Int) nm code dat data syms rels) b ∧ (b = false → syms.length ≤ 1048576 ∧ code.length ≤ 32768 ∧ data.length ≤ 32768 ∧ rels.length ≤ 32768) := by
    intro d
    induction d with
    | zero =>
      intro i n hi h1 h2
      obtain ⟨b, hb, hf⟩ := fin n (.inl (by omega))
      exact ⟨b, Ev.succ (Ev.iteF (by omega) ⟨0, fun k _ => hb k⟩), hf⟩
    | succ d ih =>
      intro i n hi h1 h2
      by_cases c : n ≤ 1048576
      · have hlt : i < syms.length := by omega
        have hz := hs _ (List.getElem_mem hlt)
        have hw1 : wrap64 (n + 1) = n + 1 := wrap64_id (by omega) (by omega)
        have hw2 : wrap64 (n + 1 + (syms[i].f0.size : Int)) = n + 1 + (syms[i].f0.size : Int) := wrap64_id (by omega) (by omega)
        have hw3 : wrap64 ((i : Int) + 1) = ((i + 1 : Nat) : Int) := by rw [wrap64_id (by omega) (by omega)]; rfl
        obtain ⟨b, hb, hf⟩ := ih (i + 1) (n + 1 + (syms[i].f0.size : Int)) (by omega) (by omega) (by omega)
        refine ⟨b, Ev.succ (Ev.iteT (by omega) (Ev.iteT c (Ev.iteT (by omega) ?_))), hf⟩
        simp only [sy_get hlt, hw1, hw2, hw3]
        exact hb
      · obtain ⟨b, hb, hf⟩ := fin n (.inr (by omega))
        exact ⟨b, Ev.succ (Ev.iteT (by omega) (Ev.iteF c ⟨0, fun k _ => hb k⟩)), hf⟩
  exact key syms.length 0 0 (by omega) (by omega) (by omega)
theorem copy3 (nm : ByteArray) (code : List Int) (dat : Int) (data : List Int) (syms : List Sym) (rels : List Rel) (h1 : syms.length ≤ 1048576) (h2 : code.length ≤ 32768) (h3 : data.length ≤ 32768) (h4 : rels.length ≤ 32768) : pleatref00_CopyObject.f nm code dat data syms rels = some (nm, code, dat, data, syms, rels) := by
  unfold pleatref00_CopyObject.f pleatref00_CopyWords.f pleatref00_CopyLongs.f pleatref00_CopySymbols.f pleatref00_CopyRelocs.f
  simp only [List.length_nil, Nat.zero_add, List.nil_append]
  rw [if_pos (by omega), if_pos (by omega), if_pos (by omega), if_pos (by omega)]
  rfl
theorem check3 {nm : ByteArray} {code : List Int} {dat : Int} {data : List Int} {syms : List Sym} {rels : List Rel} (hw : wordsO code = true) : object_Check.f nm code dat data syms rels = some (chkO nm code dat data syms rels) := by
  unfold object_Check.f
  rw [if_pos hw]
theorem pureObjectFinds : pleatlaw03_ObjectFinds.Pure := by
  intro x pick hx hp
  obtain ⟨nm, code, dat, data, syms, rels⟩ := x
  obtain ⟨_, ⟨_, _, hwc⟩, _, _, ⟨_, hls, hws⟩, _⟩ := hx
  simp only at hwc hls hws
  have hpk := wf_u8 hp
  have hw : wordsO code = true := by
    unfold wordsO
    rw [List.all_eq_true]
    intro y hy
    have := wf_u32 (hwc y hy)
    rw [Bool.and_eq_true, decide_eq_true_eq, decide_eq_true_eq]
    omega
  refine Ev.rounds ?_
  obtain ⟨b, hb, hf⟩ := heavy3 nm code dat data syms rels (fun s hs => (hws s hs).1) (by omega)
  unfold pleatlaw03_ObjectFinds.f
  refine Ev.bind hb (Ev.ite2 (fun h => Ev.bind works3 (Ev.val rfl)) (fun h => ?_))
  obtain ⟨hs, hc, hd, hr⟩ := hf (by simpa using h)
  have hcp := copy3 nm code dat data syms rels hs hc hd hr
  refine Ev.bind0 hcp (Ev.bind0 (check3 hw) (Ev.ite2 (fun h0 => ?_) (fun h0 => Ev.bind works3 (Ev.val rfl))))
  have ok : OkO nm code dat data syms rels := okO_of h0
  obtain ⟨a0, a1, a2, a3, a4, a5⟩ := sizeS_ok ok.osize
  clear h0
  have four : Ev (fun k => pleatlaw03_ObjectFinds.j3 k pick nm code dat data syms rels) true := by
    refine Ev.succ ?_
    simp only [pleatlaw03_ObjectFinds.j3]
    refine Ev.ite2 (fun h1 => ?_) (fun h1 => ?_)
    · by_cases h2 : (syms.length : Int) < 256
      · rw [decide_eq_true h2]
        have hwp : wrap64 pick = pick := wrap64_id (by omega) (by omega)
        have hm : Int.tmod pick (syms.length : Int) = pick % (syms.length : Int) := Int.tmod_eq_emod_of_nonneg (by omega)
        have hm0 : 0 ≤ pick % (syms.length : Int) := Int.emod_nonneg _ (by omega)
        have hm1 : pick % (syms.length : Int) < (syms.length : Int) := Int.emod_lt_of_pos _ (by omega)
        refine Ev.succ ?_
        simp only [pleatlaw03_ObjectFinds.j4, if_true]
        refine Ev.bind0 hcp (Ev.iteF (by omega) ?_)
        simp only [hwp, hm]
        generalize pick % (syms.length : Int) = p at hm0 hm1
        obtain ⟨q, rfl⟩ : ∃ q : Nat, p = (q : Int) := ⟨p.toNat, by omega⟩
        refine Ev.iteT hm0 (Ev.iteT hm1 (Ev.iteT (by omega) (Ev.bind0 (check3 hw) ?_)))
        have htw := ok.twice (by omega) (p := q) (by omega) (s := ⟨(rd_T37 syms (q : Int)).f0, (rd_T37 syms (q : Int)).f1, (rd_T37 syms (q : Int)).f2⟩) rfl
        rw [htw]
        exact Ev.iteT rfl (Ev.iteT rfl (Ev.bind works3 (Ev.val rfl)))
      · rw [decide_eq_false h2]
        refine Ev.succ ?_
        simp only [pleatlaw03_ObjectFinds.j4, Bool.false_eq_true, if_false]
        exact Ev.bind works3 (Ev.val rfl)
    · refine Ev.succ ?_
      simp only [pleatlaw03_ObjectFinds.j4, Bool.false_eq_true, if_false]
      exact Ev.bind works3 (Ev.val rfl)
  have three : Ev (fun k => pleatlaw03_ObjectFinds.j2 k pick nm code dat data syms rels) true := by
    refine Ev.succ ?_
    simp only [pleatlaw03_ObjectFinds.j2]
    refine Ev.ite2 (fun h1 => ?_) (fun h1 => four)
    refine Ev.bind0 hcp ?_
    have hw1 : wrap64 ((rels.length : Int) - 1) = (rels.length : Int) - 1 := wrap64_id (by omega) (by omega)
    simp only [hw1]
    refine Ev.iteT (by omega) (Ev.iteT (by omega) (Ev.bind0 (check3 hw) ?_))
    have hl := (ok.less (n := ((rels.length : Int) - 1).toNat) (by omega)).chk
    rw [hl]
    exact Ev.iteT rfl four
  have two : Ev (fun k => pleatlaw03_ObjectFinds.l1 k pick 0 nm code dat data syms rels) true := by
    refine Ev.upto (g := fun k i => pleatlaw03_ObjectFinds.l1 k pick i nm code dat data syms rels) (n := rels.length) (fun _ => True) (fun i hi _ IH => ?_) (fun _ => ?_) 0 (by omega) trivial
    · have ha := ok.at hi
      rw [rl_at hi] at ha
      refine Ev.succ (Ev.iteT (by omega) (Ev.bind0 hcp (Ev.iteT (by omega) ?_)))
      simp only [rl_get hi, wrapS hi (by omega)]
      exact Ev.bind (ato1 rels (by omega) nm code dat data syms _) (Ev.iteT ha (IH trivial))
    · refine Ev.succ (Ev.iteF (by omega) (Ev.ite2 (fun h1 => ?_) (fun h1 => three)))
      refine Ev.bind0 hcp (Ev.iteT (by show code.length < 35184372088832; omega) (Ev.bind0 (check3 ?_) ?_))
      · unfold wordsO at hw ⊢
        rw [List.all_append, hw]
        rfl
      · have hl := (ok.word (by omega)).chk
        show Ev (fun k => if (chkO nm (code ++ [1]) dat data syms rels).1 = 0 then _ else _) true
        rw [hl]
        exact Ev.iteT rfl three
  refine Ev.upto (g := fun k i => pleatlaw03_ObjectFinds.l0 k pick i nm code dat data syms rels) (n := syms.length) (fun _ => True) (fun i hi _ IH => ?_) (fun _ => ?_) 0 (by omega) trivial
  · have ha := ok.of hi
    have hn := (symE_ok (ok.osyms i hi)).1
    rw [sy_at hi] at ha hn
    refine Ev.succ (Ev.iteT (by omega) (Ev.bind0 hcp (Ev.iteT (by omega) ?_)))
    simp only [sy_get hi, wrapS hi (by omega)]
    exact Ev.bind (ofo1 syms (by omega) nm code dat data rels _) (Ev.iteT ha (Ev.bind0 rfl (Ev.iteT hn (IH trivial))))
  · exact Ev.succ (Ev.iteF (by omega) two)

end Go.Proofs.Ytiaohbbafaaibab.P
