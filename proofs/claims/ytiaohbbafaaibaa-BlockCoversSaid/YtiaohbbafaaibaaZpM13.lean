/- OWN TEXT and printed parts of this claim, laid together: Opn, Opns, SayBlockPlaces, BlkL, BlkS, PureBlockPlaces. -/
import Derived.Test.YtiaohbbafaaibaaZpWWords
import Derived.SizedLaws
import Derived.Deep.Slices
import Derived.Deep.Fields
import Derived.ChangeSame
import Derived.OpenShut
import Derived.Test.YtiaohbbafaaibaaZpM0
import Derived.Test.YtiaohbbafaaibaaZpM12
import Derived.Test.YtiaohbbafaaibaaZpM9
import Derived.Test.YtiaohbbafaaibaaZpM10
import Derived.Test.YtiaohbbafaaibaaZpM11
import Derived.Test.YtiaohbbafaaibaaZpM5
import Derived.Test.YtiaohbbafaaibaaZpM8
/- OWN TEXT: an argument of whatever plain type (whole numbers, bools, strings, slices, structs of these), read as a value of the print's own kinds. -/
set_option linter.unusedVariables false
set_option linter.unusedSimpArgs false
namespace Go.Proofs.Ytiaohbbafaaibaa.Opn
open Go.ChangeShapes Go.WideShapes Go.Deep Go.RowKit Go.Proofs.YtiaohbbafaaibaaW.PrintWords

/-- Whatever reads as data of type t is a value of kind d, and meets wf. -/
def Opens (P : Program) (t : TypeId) {α : Type} (d : Kd α) (wf : α → Prop) : Prop :=
  P.cellsOf t = d.sz ∧ ∀ (H : Type) (enc : TypeId × Value → H) (w : World) (base : Nat) (spare : Nat → Bool) (held : Bool) (fuel : Nat) (cs : List Value) (x : DataW H × List MemPlace),
    DataW.trod enc P w base spare held fuel t cs = some x → (∀ n ∈ x.1.weights P t, n ≤ reachBytes) → ∃ a : α, d.K w a cs ∧ wf a

theorem Opens.int {P : Program} {t : TypeId} {k : IntKind} (hc : P.cellsOf t = 1) (hu : P.underlying t = some (.int k)) : Opens P t (Kd.int k) (fun n => (Lit.int k n).wf = true) :=
  ⟨hc, fun H enc w base spare held fuel cs x h _ => by
    obtain ⟨n, rfl, rfl, hw⟩ := DataW.trod_int hu h
    exact ⟨n, rfl, hw⟩⟩
theorem Opens.bool {P : Program} {t : TypeId} (hc : P.cellsOf t = 1) (hu : P.underlying t = some .bool) : Opens P t Kd.bool (fun _ => True) :=
  ⟨hc, fun H enc w base spare held fuel cs x h _ => by
    obtain ⟨b, rfl, rfl⟩ := DataW.trod_bool hu h
    exact ⟨b, rfl, trivial⟩⟩
theorem Opens.string {P : Program} {t : TypeId} (hc : P.cellsOf t = 1) (hu : P.underlying t = some .string) : Opens P t Kd.string (fun s => s.size ≤ 140737488351232) :=
  ⟨hc, fun H enc w base spare held fuel cs x h hz => by
    obtain ⟨s, rfl, rfl, _⟩ := DataW.trod_string hu h
    have := hz s.data.toList.length (by simp [DataW.weights])
    rw [Array.length_toList] at this
    exact ⟨s, rfl, this⟩⟩

theorem weightsAll_mem {H : Type} {P : Program} {e : TypeId} : ∀ {l : List (DataW H)} {d : DataW H}, d ∈ l → ∀ n ∈ d.weights P e, n ∈ DataW.weightsAll P e l
  | d0 :: r, d, hd, n, hn => by
    simp only [DataW.weightsAll, List.mem_append]
    rcases List.mem_cons.1 hd with rfl | hd
    · exact .inl hn
    · exact .inr (weightsAll_mem hd n hn)

theorem Opens.slice {P : Program} {t e : TypeId} {α : Type} {d : Kd α} {wf : α → Prop} {B : Nat} (hc : P.cellsOf t = 1) (hu : P.underlying t = some (.slice e)) (hB : P.bytesOf e = B) (he : Opens P e d wf) :
    Opens P t (Kd.slice e d) (fun l => l.length ≤ 9223372036854775807 ∧ l.length * B ≤ 140737488351232 ∧ ∀ x ∈ l, wf x) :=
  ⟨hc, fun H enc w base spare held fuel cs x h hz => by
    rcases open_slice hu h with ⟨rfl, rfl⟩ | ⟨a, len, cap, m, n, D, Pl, rfl, hb, hl, hm, hmm, rfl, hi⟩
    · exact ⟨[], ⟨none, 0, rfl, Nat.le_refl _, rfl, by simp, fun h => absurd h (Nat.lt_irrefl 0)⟩, by simp, by simp, fun x hx => by cases hx⟩
    · have hlm : len ≤ m := by rw [hmm]; split <;> omega
      have hw0 : ∀ n ∈ (DataW.slice ((List.range len).map D) ((List.range (m - len)).map fun j => D (len + j))).weights P t, n ≤ reachBytes := hz
      have h1 : (len + (m - len)) * P.bytesOf e ≤ reachBytes := by
        have := hw0 _ (by simp only [DataW.weights, hu]; exact List.mem_cons_self)
        simpa using this
      have hel : ∀ i, i < len → ∃ (a' : α) (c : List Value), w.cells? base (a.add (i * P.cellsOf e)) (P.cellsOf e) = some c ∧ d.K w a' c ∧ wf a' := fun i hi' => by
        obtain ⟨c, hcc, ht⟩ := hi i (Nat.lt_of_lt_of_le hi' hlm)
        obtain ⟨a', hk, hwf⟩ := he.2 H enc w base spare held n c _ ht (fun q hq => hw0 q (by
          simp only [DataW.weights, hu]
          exact List.mem_cons_of_mem _ (List.mem_append_left _ (weightsAll_mem (List.mem_map.2 ⟨i, List.mem_range.2 hi', rfl⟩) q hq))))
        exact ⟨a', c, hcc, hk, hwf⟩
      have hl' : ∃ l : List α, l.length = len ∧ ∀ i x, l[i]? = some x → ∃ c, w.cells? base (a.add (i * P.cellsOf e)) (P.cellsOf e) = some c ∧ d.K w x c ∧ wf x := by
        clear hw0 h1 hi hlm hl hz hmm h
        induction len with
        | zero => exact ⟨[], rfl, fun i x hx => by simp at hx⟩
        | succ len ih =>
          obtain ⟨l, hl, hp⟩ := ih (fun i hi => hel i (Nat.lt_succ_of_lt hi))
          obtain ⟨a', c, h1, h2, h3⟩ := hel len (Nat.lt_succ_self len)
          refine ⟨l ++ [a'], by simp [hl], fun i x hx => ?_⟩
          rcases Nat.lt_or_ge i l.length with h | h
          · rw [List.getElem?_append_left h] at hx
            exact hp i x hx
          · rw [List.getElem?_append_right h] at hx
            have hi0 : i - l.length = 0 := by
              rcases Nat.eq_zero_or_pos (i - l.length) with h0 | h0
              · exact h0
              · rw [List.getElem?_eq_none (by simp; omega)] at hx; cases hx
            rw [hi0] at hx
            simp at hx
            subst hx
            obtain rfl : i = len := by omega
            exact ⟨c, h1, h2, h3⟩
      obtain ⟨l, hll, hp⟩ := hl'
      subst hll
      refine ⟨l, ⟨some a, cap, rfl, hl, rfl, by simp only [maxLen] at hm; omega, fun _ => ⟨a, rfl, fun j p hj => ?_⟩⟩, ?_, ?_, ?_⟩
      · obtain ⟨c, h1, h2, _⟩ := hp j p hj
        obtain ⟨_, hcl, hcell⟩ := World.cells?_some h1
        refine ⟨c, by rw [hcl, he.1], h2, fun i u hu' => ?_⟩
        have hi2 : i < P.cellsOf e := by
          rw [← hcl]
          exact (List.getElem?_eq_some_iff.1 hu').1
        rw [← he.1, ← Go.Deep.add_add, hcell i hi2, hu']
      · simp only [maxLen] at hm; omega
      · rw [← hB]
        refine Nat.le_trans (Nat.mul_le_mul_right _ (show l.length ≤ l.length + (m - l.length) by omega)) ?_
        exact h1
      · intro x hx
        obtain ⟨i, hi'⟩ := List.getElem?_of_mem hx
        obtain ⟨_, _, _, h3⟩ := hp i x hi'
        exact h3⟩

/-- The fields of a struct, from the cell off on: each one's cells behind the other's. -/
def OpensF (P : Program) (fs : List Field) (off : Nat) {α : Type} (d : Kd α) (wf : α → Prop) : Prop :=
  (fs.map fun f => P.cellsOf f.type).sum = d.sz ∧ ∀ (H : Type) (enc : TypeId × Value → H) (w : World) (base : Nat) (spare : Nat → Bool) (held : Bool) (fuel : Nat) (cs : List Value) (xs : List (DataW H × List MemPlace)),
    cs.length = off + d.sz → xs.length = fs.length → (∀ (i : Nat) (f : Field), fs[i]? = some f → DataW.trod enc P w base spare held fuel f.type ((cs.drop f.offset).take (P.cellsOf f.type)) = xs[i]?) →
    (∀ n ∈ DataW.weightsEach P (fs.map (·.type)) (xs.map (·.1)), n ≤ reachBytes) → ∃ a : α, d.K w a (cs.drop off) ∧ wf a

theorem OpensF.one {P : Program} {f : Field} {off : Nat} {α : Type} {d : Kd α} {wf : α → Prop} (ho : f.offset = off) (h : Opens P f.type d wf) : OpensF P [f] off d wf := by
  refine ⟨by simp [h.1], fun H enc w base spare held fuel cs xs hl hx hf hz => ?_⟩
  match xs, hx with
  | [x], _ =>
    have h0 := hf 0 f rfl
    rw [ho, h.1, List.take_of_length_le (by rw [List.length_drop]; omega)] at h0
    exact h.2 H enc w base spare held fuel _ x h0 (fun n hn => hz n (by simp only [List.map_cons, DataW.weightsEach, List.mem_append]; exact .inl hn))

theorem OpensF.cons {P : Program} {f : Field} {fs : List Field} {off : Nat} {α β : Type} {d : Kd α} {d' : Kd β} {wf : α → Prop} {wf' : β → Prop} (ho : f.offset = off) (h : Opens P f.type d wf) (hs : OpensF P fs (off + d.sz) d' wf') :
    OpensF P (f :: fs) off (Kd.pair d d') (fun x => wf x.1 ∧ wf' x.2) := by
  refine ⟨by simp [h.1, hs.1, Kd.pair], fun H enc w base spare held fuel cs xs hl hx hf hz => ?_⟩
  match xs, hx with
  | x :: xs, hx =>
    have hsz : (Kd.pair d d').sz = d.sz + d'.sz := rfl
    have h0 := hf 0 f rfl
    rw [ho, h.1] at h0
    obtain ⟨a, hk, hw⟩ := h.2 H enc w base spare held fuel _ x h0 (fun n hn => hz n (by simp only [List.map_cons, DataW.weightsEach, List.mem_append]; exact .inl hn))
    obtain ⟨b, hk', hw'⟩ := hs.2 H enc w base spare held fuel cs xs (by omega) (by simpa using hx) (fun i g hg => hf (i + 1) g hg) (fun n hn => hz n (by simp only [List.map_cons, DataW.weightsEach, List.mem_append]; exact .inr hn))
    exact ⟨(a, b), ⟨(cs.drop off).take d.sz, cs.drop (off + d.sz), by rw [← List.drop_drop, List.take_append_drop], hk, hk'⟩, hw, hw'⟩

theorem Opens.struct {P : Program} {t : TypeId} {fs : Array Field} {α β : Type} {d : Kd α} {wf : α → Prop} (f : β → α) (g : α → β) (hfg : ∀ a, f (g a) = a) (hc : P.cellsOf t = d.sz) (hu : P.underlying t = some (.struct fs)) (h : OpensF P fs.toList 0 d wf) :
    Opens P t (Kd.iso d f) (fun x => wf (f x)) := by
  refine ⟨hc, fun H enc w base spare held fuel cs x hx hz => ?_⟩
  obtain ⟨xs, n, rfl, rfl, hl, hlen, hf⟩ := DataW.trod_struct hu hx
  obtain ⟨a, hk, hw⟩ := h.2 H enc w base spare held n cs xs (by omega) (by simpa using hlen) (fun i fl hfl => hf i fl (by simpa using hfl)) (fun q hq => hz q (by simp only [DataW.weights, hu]; exact hq))
  refine ⟨g a, ?_, by show wf (f (g a)); rw [hfg]; exact hw⟩
  show d.K w (f (g a)) cs
  rw [hfg]
  simpa using hk

/-- An argument: what its cells are, and that it meets wf. -/
theorem Opens.arg {P : Program} {t : TypeId} {α : Type} {d : Kd α} {wf : α → Prop} (ho : Opens P t d wf) {H : Type} {enc : TypeId × Value → H} {ts : List TypeId} {ds : List (DataW H)} {w : World} {base : Nat} {spare : Nat → Bool} {held : Bool} {v : Value} {x : DataW H} {ps : List MemPlace} {j : Nat}
    (hsz : (DataW.weightsEach P ts ds).all (· ≤ reachBytes) = true) (ht : ts[j]? = some t) (hd : ds[j]? = some x) (h : DataW.Trod enc P w base spare held t v x ps) : ∃ a : α, d.K w a v.cells.toList ∧ wf a := by
  obtain ⟨fuel, hf⟩ := h
  refine ho.2 H enc w base spare held fuel _ _ hf (fun n hn => ?_)
  have := List.all_eq_true.1 hsz _ (DataW.weights_mem_each ht hd n hn)
  simpa using this

theorem agg_of {P : Program} {w : World} {r : Reach} {b0 : Nat} {t : TypeId} {fs : Array Field} {v : Value} {l : List Value} (hs : P.underlying t = some (.struct fs)) (hv : Value.okWide P w r b0 t v) (h : v.cells.toList = l) : v = .agg l.toArray := by
  obtain ⟨cs, rfl, _⟩ := okWide_struct hs hv
  simp only [Value.cells] at h
  rw [← h, Array.toArray_toList]

theorem slice_of {P : Program} {w : World} {r : Reach} {b0 : Nat} {t e : TypeId} {v : Value} {u : Value} (hs : P.underlying t = some (.slice e)) (hv : Value.okWide P w r b0 t v) (h : v.cells.toList = [u]) : v = u := by
  obtain ⟨a, len, cap, rfl⟩ := okWide_slice hs hv
  simpa [Value.cells] using h

end Go.Proofs.Ytiaohbbafaaibaa.Opn

/- OWN TEXT, written by rows.py: what an argument of each parameter type of this seat's laws reads as. -/
namespace Go.Proofs.Ytiaohbbafaaibaa.P
open Go.RowKit Go.Proofs.YtiaohbbafaaibaaW.PrintWords Go.Proofs.YtiaohbbafaaibaaW.PrintLast Go.Proofs.YtiaohbbafaaibaaW.PrintMore Go.Proofs.Ytiaohbbafaaibaa.Opn
set_option linter.unusedVariables false
set_option linter.unusedSimpArgs false
theorem opn3 : Opens Try.prog 3 (Kd.int .i64) (fun n => (Lit.int .i64 n).wf = true) := Opens.int (by kernel_rfl) Try.underlying3
theorem opn23 : Opens Try.prog 23 (Kd.int .i8) (fun n => (Lit.int .i8 n).wf = true) := Opens.int (by kernel_rfl) Try.underlying23
def wf32 (x : S32) : Prop := ((Lit.int .i64 x.f0).wf = true) ∧ ((Lit.int .i8 x.f1).wf = true) ∧ ((Lit.int .i8 x.f2).wf = true)
set_option maxRecDepth 100000 in
theorem opn32 : Opens Try.prog 32 k32 wf32 := by
  refine Opens.struct (d := (Kd.pair (Kd.int .i64) (Kd.pair (Kd.int .i8) (Kd.int .i8)))) (wf := (fun p : (Int) × (Int) × (Int) => ((Lit.int .i64 p.1).wf = true) ∧ ((Lit.int .i8 p.2.1).wf = true) ∧ ((Lit.int .i8 p.2.2).wf = true))) (fun x : S32 => (x.f0, x.f1, x.f2)) (fun p => ⟨p.1, p.2.1, p.2.2⟩) (fun _ => rfl) (by kernel_rfl) Try.underlying32 ?_
  refine OpensF.cons (d := (Kd.int .i64)) (d' := (Kd.pair (Kd.int .i8) (Kd.int .i8))) (wf := (fun p : Int => (Lit.int .i64 p).wf = true)) (wf' := (fun p : (Int) × (Int) => ((Lit.int .i8 p.1).wf = true) ∧ ((Lit.int .i8 p.2).wf = true))) rfl opn3 ?_
  refine OpensF.cons (d := (Kd.int .i8)) (d' := (Kd.int .i8)) (wf := (fun p : Int => (Lit.int .i8 p).wf = true)) (wf' := (fun p : (Int) => ((Lit.int .i8 p).wf = true))) rfl opn23 ?_
  exact OpensF.one rfl opn23
theorem opn22 : Opens Try.prog 22 (Kd.slice 32 k32) (fun l => l.length ≤ 9223372036854775807 ∧ l.length * 16 ≤ 140737488351232 ∧ ∀ y ∈ l, wf32 y) := Opens.slice (by kernel_rfl) Try.underlying22 (by kernel_rfl) opn32
theorem opn34 : Opens Try.prog 34 (Kd.int .u32) (fun n => (Lit.int .u32 n).wf = true) := Opens.int (by kernel_rfl) Try.underlying34
theorem opn2 : Opens Try.prog 2 (Kd.int .i64) (fun n => (Lit.int .i64 n).wf = true) := Opens.int (by kernel_rfl) Try.underlying2
def wf36 (x : S36) : Prop := ((Lit.int .i8 x.f0).wf = true) ∧ ((Lit.int .i8 x.f1).wf = true) ∧ ((Lit.int .i8 x.f2).wf = true) ∧ ((Lit.int .i8 x.f3).wf = true) ∧ ((Lit.int .i64 x.f4).wf = true)
set_option maxRecDepth 100000 in
theorem opn36 : Opens Try.prog 36 k36 wf36 := by
  refine Opens.struct (d := (Kd.pair (Kd.int .i8) (Kd.pair (Kd.int .i8) (Kd.pair (Kd.int .i8) (Kd.pair (Kd.int .i8) (Kd.int .i64)))))) (wf := (fun p : (Int) × (Int) × (Int) × (Int) × (Int) => ((Lit.int .i8 p.1).wf = true) ∧ ((Lit.int .i8 p.2.1).wf = true) ∧ ((Lit.int .i8 p.2.2.1).wf = true) ∧ ((Lit.int .i8 p.2.2.2.1).wf = true) ∧ ((Lit.int .i64 p.2.2.2.2).wf = true))) (fun x : S36 => (x.f0, x.f1, x.f2, x.f3, x.f4)) (fun p => ⟨p.1, p.2.1, p.2.2.1, p.2.2.2.1, p.2.2.2.2⟩) (fun _ => rfl) (by kernel_rfl) Try.underlying36 ?_
  refine OpensF.cons (d := (Kd.int .i8)) (d' := (Kd.pair (Kd.int .i8) (Kd.pair (Kd.int .i8) (Kd.pair (Kd.int .i8) (Kd.int .i64))))) (wf := (fun p : Int => (Lit.int .i8 p).wf = true)) (wf' := (fun p : (Int) × (Int) × (Int) × (Int) => ((Lit.int .i8 p.1).wf = true) ∧ ((Lit.int .i8 p.2.1).wf = true) ∧ ((Lit.int .i8 p.2.2.1).wf = true) ∧ ((Lit.int .i64 p.2.2.2).wf = true))) rfl opn23 ?_
  refine OpensF.cons (d := (Kd.int .i8)) (d' := (Kd.pair (Kd.int .i8) (Kd.pair (Kd.int .i8) (Kd.int .i64)))) (wf := (fun p : Int => (Lit.int .i8 p).wf = true)) (wf' := (fun p : (Int) × (Int) × (Int) => ((Lit.int .i8 p.1).wf = true) ∧ ((Lit.int .i8 p.2.1).wf = true) ∧ ((Lit.int .i64 p.2.2).wf = true))) rfl opn23 ?_
  refine OpensF.cons (d := (Kd.int .i8)) (d' := (Kd.pair (Kd.int .i8) (Kd.int .i64))) (wf := (fun p : Int => (Lit.int .i8 p).wf = true)) (wf' := (fun p : (Int) × (Int) => ((Lit.int .i8 p.1).wf = true) ∧ ((Lit.int .i64 p.2).wf = true))) rfl opn23 ?_
  refine OpensF.cons (d := (Kd.int .i8)) (d' := (Kd.int .i64)) (wf := (fun p : Int => (Lit.int .i8 p).wf = true)) (wf' := (fun p : (Int) => ((Lit.int .i64 p).wf = true))) rfl opn23 ?_
  exact OpensF.one rfl opn2
theorem opn9 : Opens Try.prog 9 Kd.string (fun s => s.size ≤ 140737488351232) := Opens.string (by kernel_rfl) Try.underlying9
theorem opn57 : Opens Try.prog 57 (Kd.slice 34 (Kd.int .u32)) (fun l => l.length ≤ 9223372036854775807 ∧ l.length * 4 ≤ 140737488351232 ∧ ∀ y ∈ l, (Lit.int .u32 y).wf = true) := Opens.slice (by kernel_rfl) Try.underlying57 (by kernel_rfl) opn34
def wf84 (x : S84) : Prop := ((Lit.int .i64 x.f0).wf = true) ∧ ((Lit.int .i64 x.f1).wf = true)
set_option maxRecDepth 100000 in
theorem opn84 : Opens Try.prog 84 k84 wf84 := by
  refine Opens.struct (d := (Kd.pair (Kd.int .i64) (Kd.int .i64))) (wf := (fun p : (Int) × (Int) => ((Lit.int .i64 p.1).wf = true) ∧ ((Lit.int .i64 p.2).wf = true))) (fun x : S84 => (x.f0, x.f1)) (fun p => ⟨p.1, p.2⟩) (fun _ => rfl) (by kernel_rfl) Try.underlying84 ?_
  refine OpensF.cons (d := (Kd.int .i64)) (d' := (Kd.int .i64)) (wf := (fun p : Int => (Lit.int .i64 p).wf = true)) (wf' := (fun p : (Int) => ((Lit.int .i64 p).wf = true))) rfl opn3 ?_
  exact OpensF.one rfl opn3
theorem opn62 : Opens Try.prog 62 (Kd.slice 84 k84) (fun l => l.length ≤ 9223372036854775807 ∧ l.length * 16 ≤ 140737488351232 ∧ ∀ y ∈ l, wf84 y) := Opens.slice (by kernel_rfl) Try.underlying62 (by kernel_rfl) opn84
theorem opn67 : Opens Try.prog 67 (Kd.slice 2 (Kd.int .i64)) (fun l => l.length ≤ 9223372036854775807 ∧ l.length * 8 ≤ 140737488351232 ∧ ∀ y ∈ l, (Lit.int .i64 y).wf = true) := Opens.slice (by kernel_rfl) Try.underlying67 (by kernel_rfl) opn2
def wf69 (x : S69) : Prop := (x.f0.length ≤ 9223372036854775807 ∧ x.f0.length * 4 ≤ 140737488351232 ∧ ∀ y ∈ x.f0, (Lit.int .u32 y).wf = true) ∧ ((Lit.int .i64 x.f1).wf = true) ∧ (x.f2.length ≤ 9223372036854775807 ∧ x.f2.length * 8 ≤ 140737488351232 ∧ ∀ y ∈ x.f2, (Lit.int .i64 y).wf = true)
set_option maxRecDepth 100000 in
theorem opn69 : Opens Try.prog 69 k69 wf69 := by
  refine Opens.struct (d := (Kd.pair (Kd.slice 34 (Kd.int .u32)) (Kd.pair (Kd.int .i64) (Kd.slice 2 (Kd.int .i64))))) (wf := (fun p : (List Int) × (Int) × (List Int) => (p.1.length ≤ 9223372036854775807 ∧ p.1.length * 4 ≤ 140737488351232 ∧ ∀ y ∈ p.1, (Lit.int .u32 y).wf = true) ∧ ((Lit.int .i64 p.2.1).wf = true) ∧ (p.2.2.length ≤ 9223372036854775807 ∧ p.2.2.length * 8 ≤ 140737488351232 ∧ ∀ y ∈ p.2.2, (Lit.int .i64 y).wf = true))) (fun x : S69 => (x.f0, x.f1, x.f2)) (fun p => ⟨p.1, p.2.1, p.2.2⟩) (fun _ => rfl) (by kernel_rfl) Try.underlying69 ?_
  refine OpensF.cons (d := (Kd.slice 34 (Kd.int .u32))) (d' := (Kd.pair (Kd.int .i64) (Kd.slice 2 (Kd.int .i64)))) (wf := (fun p : List Int => p.length ≤ 9223372036854775807 ∧ p.length * 4 ≤ 140737488351232 ∧ ∀ y ∈ p, (Lit.int .u32 y).wf = true)) (wf' := (fun p : (Int) × (List Int) => ((Lit.int .i64 p.1).wf = true) ∧ (p.2.length ≤ 9223372036854775807 ∧ p.2.length * 8 ≤ 140737488351232 ∧ ∀ y ∈ p.2, (Lit.int .i64 y).wf = true))) rfl opn57 ?_
  refine OpensF.cons (d := (Kd.int .i64)) (d' := (Kd.slice 2 (Kd.int .i64))) (wf := (fun p : Int => (Lit.int .i64 p).wf = true)) (wf' := (fun p : (List Int) => (p.length ≤ 9223372036854775807 ∧ p.length * 8 ≤ 140737488351232 ∧ ∀ y ∈ p, (Lit.int .i64 y).wf = true))) rfl opn3 ?_
  exact OpensF.one rfl opn67
def wf120 (x : S120) : Prop := (x.f0.size ≤ 140737488351232) ∧ ((Lit.int .i8 x.f1).wf = true) ∧ ((Lit.int .i64 x.f2).wf = true)
set_option maxRecDepth 100000 in
theorem opn120 : Opens Try.prog 120 k120 wf120 := by
  refine Opens.struct (d := (Kd.pair Kd.string (Kd.pair (Kd.int .i8) (Kd.int .i64)))) (wf := (fun p : (ByteArray) × (Int) × (Int) => (p.1.size ≤ 140737488351232) ∧ ((Lit.int .i8 p.2.1).wf = true) ∧ ((Lit.int .i64 p.2.2).wf = true))) (fun x : S120 => (x.f0, x.f1, x.f2)) (fun p => ⟨p.1, p.2.1, p.2.2⟩) (fun _ => rfl) (by kernel_rfl) Try.underlying120 ?_
  refine OpensF.cons (d := Kd.string) (d' := (Kd.pair (Kd.int .i8) (Kd.int .i64))) (wf := (fun p : ByteArray => p.size ≤ 140737488351232)) (wf' := (fun p : (Int) × (Int) => ((Lit.int .i8 p.1).wf = true) ∧ ((Lit.int .i64 p.2).wf = true))) rfl opn9 ?_
  refine OpensF.cons (d := (Kd.int .i8)) (d' := (Kd.int .i64)) (wf := (fun p : Int => (Lit.int .i8 p).wf = true)) (wf' := (fun p : (Int) => ((Lit.int .i64 p).wf = true))) rfl opn23 ?_
  exact OpensF.one rfl opn3
theorem opn85 : Opens Try.prog 85 (Kd.slice 120 k120) (fun l => l.length ≤ 9223372036854775807 ∧ l.length * 32 ≤ 140737488351232 ∧ ∀ y ∈ l, wf120 y) := Opens.slice (by kernel_rfl) Try.underlying85 (by kernel_rfl) opn120
def wf130 (x : S130) : Prop := ((Lit.int .i64 x.f0).wf = true) ∧ ((Lit.int .i64 x.f1).wf = true)
set_option maxRecDepth 100000 in
theorem opn130 : Opens Try.prog 130 k130 wf130 := by
  refine Opens.struct (d := (Kd.pair (Kd.int .i64) (Kd.int .i64))) (wf := (fun p : (Int) × (Int) => ((Lit.int .i64 p.1).wf = true) ∧ ((Lit.int .i64 p.2).wf = true))) (fun x : S130 => (x.f0, x.f1)) (fun p => ⟨p.1, p.2⟩) (fun _ => rfl) (by kernel_rfl) Try.underlying130 ?_
  refine OpensF.cons (d := (Kd.int .i64)) (d' := (Kd.int .i64)) (wf := (fun p : Int => (Lit.int .i64 p).wf = true)) (wf' := (fun p : (Int) => ((Lit.int .i64 p).wf = true))) rfl opn3 ?_
  exact OpensF.one rfl opn3
theorem opn86 : Opens Try.prog 86 (Kd.slice 130 k130) (fun l => l.length ≤ 9223372036854775807 ∧ l.length * 16 ≤ 140737488351232 ∧ ∀ y ∈ l, wf130 y) := Opens.slice (by kernel_rfl) Try.underlying86 (by kernel_rfl) opn130
def wf88 (x : S88) : Prop := (x.f0.size ≤ 140737488351232) ∧ (x.f1.length ≤ 9223372036854775807 ∧ x.f1.length * 4 ≤ 140737488351232 ∧ ∀ y ∈ x.f1, (Lit.int .u32 y).wf = true) ∧ ((Lit.int .i64 x.f2).wf = true) ∧ (x.f3.length ≤ 9223372036854775807 ∧ x.f3.length * 8 ≤ 140737488351232 ∧ ∀ y ∈ x.f3, (Lit.int .i64 y).wf = true) ∧ (x.f4.length ≤ 9223372036854775807 ∧ x.f4.length * 32 ≤ 140737488351232 ∧ ∀ y ∈ x.f4, wf120 y) ∧ (x.f5.length ≤ 9223372036854775807 ∧ x.f5.length * 16 ≤ 140737488351232 ∧ ∀ y ∈ x.f5, wf130 y)
set_option maxRecDepth 100000 in
theorem opn88 : Opens Try.prog 88 k88 wf88 := by
  refine Opens.struct (d := (Kd.pair Kd.string (Kd.pair (Kd.slice 34 (Kd.int .u32)) (Kd.pair (Kd.int .i64) (Kd.pair (Kd.slice 2 (Kd.int .i64)) (Kd.pair (Kd.slice 120 k120) (Kd.slice 130 k130))))))) (wf := (fun p : (ByteArray) × (List Int) × (Int) × (List Int) × (List (S120)) × (List (S130)) => (p.1.size ≤ 140737488351232) ∧ (p.2.1.length ≤ 9223372036854775807 ∧ p.2.1.length * 4 ≤ 140737488351232 ∧ ∀ y ∈ p.2.1, (Lit.int .u32 y).wf = true) ∧ ((Lit.int .i64 p.2.2.1).wf = true) ∧ (p.2.2.2.1.length ≤ 9223372036854775807 ∧ p.2.2.2.1.length * 8 ≤ 140737488351232 ∧ ∀ y ∈ p.2.2.2.1, (Lit.int .i64 y).wf = true) ∧ (p.2.2.2.2.1.length ≤ 9223372036854775807 ∧ p.2.2.2.2.1.length * 32 ≤ 140737488351232 ∧ ∀ y ∈ p.2.2.2.2.1, wf120 y) ∧ (p.2.2.2.2.2.length ≤ 9223372036854775807 ∧ p.2.2.2.2.2.length * 16 ≤ 140737488351232 ∧ ∀ y ∈ p.2.2.2.2.2, wf130 y))) (fun x : S88 => (x.f0, x.f1, x.f2, x.f3, x.f4, x.f5)) (fun p => ⟨p.1, p.2.1, p.2.2.1, p.2.2.2.1, p.2.2.2.2.1, p.2.2.2.2.2⟩) (fun _ => rfl) (by kernel_rfl) Try.underlying88 ?_
  refine OpensF.cons (d := Kd.string) (d' := (Kd.pair (Kd.slice 34 (Kd.int .u32)) (Kd.pair (Kd.int .i64) (Kd.pair (Kd.slice 2 (Kd.int .i64)) (Kd.pair (Kd.slice 120 k120) (Kd.slice 130 k130)))))) (wf := (fun p : ByteArray => p.size ≤ 140737488351232)) (wf' := (fun p : (List Int) × (Int) × (List Int) × (List (S120)) × (List (S130)) => (p.1.length ≤ 9223372036854775807 ∧ p.1.length * 4 ≤ 140737488351232 ∧ ∀ y ∈ p.1, (Lit.int .u32 y).wf = true) ∧ ((Lit.int .i64 p.2.1).wf = true) ∧ (p.2.2.1.length ≤ 9223372036854775807 ∧ p.2.2.1.length * 8 ≤ 140737488351232 ∧ ∀ y ∈ p.2.2.1, (Lit.int .i64 y).wf = true) ∧ (p.2.2.2.1.length ≤ 9223372036854775807 ∧ p.2.2.2.1.length * 32 ≤ 140737488351232 ∧ ∀ y ∈ p.2.2.2.1, wf120 y) ∧ (p.2.2.2.2.length ≤ 9223372036854775807 ∧ p.2.2.2.2.length * 16 ≤ 140737488351232 ∧ ∀ y ∈ p.2.2.2.2, wf130 y))) rfl opn9 ?_
  refine OpensF.cons (d := (Kd.slice 34 (Kd.int .u32))) (d' := (Kd.pair (Kd.int .i64) (Kd.pair (Kd.slice 2 (Kd.int .i64)) (Kd.pair (Kd.slice 120 k120) (Kd.slice 130 k130))))) (wf := (fun p : List Int => p.length ≤ 9223372036854775807 ∧ p.length * 4 ≤ 140737488351232 ∧ ∀ y ∈ p, (Lit.int .u32 y).wf = true)) (wf' := (fun p : (Int) × (List Int) × (List (S120)) × (List (S130)) => ((Lit.int .i64 p.1).wf = true) ∧ (p.2.1.length ≤ 9223372036854775807 ∧ p.2.1.length * 8 ≤ 140737488351232 ∧ ∀ y ∈ p.2.1, (Lit.int .i64 y).wf = true) ∧ (p.2.2.1.length ≤ 9223372036854775807 ∧ p.2.2.1.length * 32 ≤ 140737488351232 ∧ ∀ y ∈ p.2.2.1, wf120 y) ∧ (p.2.2.2.length ≤ 9223372036854775807 ∧ p.2.2.2.length * 16 ≤ 140737488351232 ∧ ∀ y ∈ p.2.2.2, wf130 y))) rfl opn57 ?_
  refine OpensF.cons (d := (Kd.int .i64)) (d' := (Kd.pair (Kd.slice 2 (Kd.int .i64)) (Kd.pair (Kd.slice 120 k120) (Kd.slice 130 k130)))) (wf := (fun p : Int => (Lit.int .i64 p).wf = true)) (wf' := (fun p : (List Int) × (List (S120)) × (List (S130)) => (p.1.length ≤ 9223372036854775807 ∧ p.1.length * 8 ≤ 140737488351232 ∧ ∀ y ∈ p.1, (Lit.int .i64 y).wf = true) ∧ (p.2.1.length ≤ 9223372036854775807 ∧ p.2.1.length * 32 ≤ 140737488351232 ∧ ∀ y ∈ p.2.1, wf120 y) ∧ (p.2.2.length ≤ 9223372036854775807 ∧ p.2.2.length * 16 ≤ 140737488351232 ∧ ∀ y ∈ p.2.2, wf130 y))) rfl opn3 ?_
  refine OpensF.cons (d := (Kd.slice 2 (Kd.int .i64))) (d' := (Kd.pair (Kd.slice 120 k120) (Kd.slice 130 k130))) (wf := (fun p : List Int => p.length ≤ 9223372036854775807 ∧ p.length * 8 ≤ 140737488351232 ∧ ∀ y ∈ p, (Lit.int .i64 y).wf = true)) (wf' := (fun p : (List (S120)) × (List (S130)) => (p.1.length ≤ 9223372036854775807 ∧ p.1.length * 32 ≤ 140737488351232 ∧ ∀ y ∈ p.1, wf120 y) ∧ (p.2.length ≤ 9223372036854775807 ∧ p.2.length * 16 ≤ 140737488351232 ∧ ∀ y ∈ p.2, wf130 y))) rfl opn67 ?_
  refine OpensF.cons (d := (Kd.slice 120 k120)) (d' := (Kd.slice 130 k130)) (wf := (fun p : List (S120) => p.length ≤ 9223372036854775807 ∧ p.length * 32 ≤ 140737488351232 ∧ ∀ y ∈ p, wf120 y)) (wf' := (fun p : (List (S130)) => (p.length ≤ 9223372036854775807 ∧ p.length * 16 ≤ 140737488351232 ∧ ∀ y ∈ p, wf130 y))) rfl opn85 ?_
  exact OpensF.one rfl opn86
end Go.Proofs.Ytiaohbbafaaibaa.P

/- OWN TEXT, written by rows.py: the pure statement of the law BlockPlaces. -/
namespace Go.Proofs.Ytiaohbbafaaibaa.P
open Go.RowKit Go.Proofs.YtiaohbbafaaibaaW.PrintWords Go.Proofs.YtiaohbbafaaibaaW.PrintLast Go.Proofs.YtiaohbbafaaibaaW.PrintMore Go.Proofs.Ytiaohbbafaaibaa.Opn
set_option linter.unusedVariables false
set_option linter.unusedSimpArgs false
def pleatlaw11_BlockPlaces.Pure : Prop := ∀ (x0 : S69), (wf69 x0) → ∃ k, pleatlaw11_BlockPlaces.f k x0.f0 x0.f1 x0.f2 = some true
end Go.Proofs.Ytiaohbbafaaibaa.P

/- OWN TEXT: blocks over plain lists: which block has a place, comparing with oneself, the small known run. -/
set_option linter.unusedVariables false
set_option linter.unusedSimpArgs false
namespace Go.Proofs.Ytiaohbbafaaibaa.P
open Go.RowKit Go.Proofs.YtiaohbbafaaibaaW.PrintWords Go.Proofs.YtiaohbbafaaibaaW.PrintLast Go.Proofs.YtiaohbbafaaibaaW.PrintMore

theorem Ev.count {α : Type} {g : Nat → Int → Option α} {r : α} {n : Nat} (step : ∀ i : Nat, i < n → Ev (fun k => g k ((i + 1 : Nat) : Int)) r → Ev (fun k => g k (i : Int)) r) (last : Ev (fun k => g k (n : Int)) r) : ∀ i : Nat, i ≤ n → Ev (fun k => g k (i : Int)) r := by
  have : ∀ d i : Nat, i + d = n → Ev (fun k => g k (i : Int)) r := by
    intro d
    induction d with
    | zero => intro i hi; rw [show i = n by omega]; exact last
    | succ d ih => intro i hi; exact step i (by omega) (ih (i + 1) (by omega))
  intro i hi
  exact this (n - i) i (by omega)
theorem wrap_succ {i n : Nat} (hi : i < n) (hn : n ≤ 1000000000) : wrap64 ((i : Int) + 1) = ((i + 1 : Nat) : Int) := by rw [wrap64_id (by omega) (by omega)]; rfl
abbrev Blk := S84
theorem rdB_get {l : List Blk} {i : Nat} (h : i < l.length) : rd_T84 l (i : Int) = l[i] := by
  unfold rd_T84
  simp [List.getD_eq_getElem?_getD, List.getElem?_eq_getElem h]
def ofS (p : Int) : List Blk → Nat → Int
  | [], _ => -1
  | b :: r, i => if b.f0 ≤ p then (if p < b.f1 then (i : Int) else ofS p r (i + 1)) else ofS p r (i + 1)
theorem of1 (l : List Blk) (hl : l.length ≤ 1000000) (p : Int) : Ev (fun k => block_Of.f k l p) (ofS p l 0) := by
  unfold block_Of.f
  have : ∀ d i : Nat, i + d = l.length → Ev (fun k => block_Of.l0 k p l (l.length : Int) (i : Int)) (ofS p (l.drop i) i) := by
    intro d
    induction d with
    | zero =>
      intro i hi
      rw [List.drop_eq_nil_of_le (by omega)]
      exact Ev.succ (Ev.iteF (by omega) (Ev.val rfl))
    | succ d ih =>
      intro i hi
      have hlt : i < l.length := by omega
      have hw := wrap_succ hlt (by omega)
      have IH := ih (i + 1) (by omega)
      rw [drop_get hlt]
      unfold ofS
      refine Ev.succ (Ev.iteT (by omega) (Ev.iteT (by omega) (Ev.iteT (by omega) ?_)))
      simp only [rdB_get hlt, hw]
      refine Ev.ite2 (fun h => ?_) (fun h => ?_)
      · rw [if_pos h]
        refine Ev.ite2 (fun h1 => Ev.val (by rw [if_pos h1])) (fun h1 => ?_)
        rw [if_neg h1]
        exact IH
      · rw [if_neg h]
        exact IH
  have := this l.length 0 (by omega)
  rw [List.drop_zero] at this
  exact this
theorem of2 (l : List Blk) (hl : l.length ≤ 1000000) (p : Int) : Ev (fun k => pleatref11_Of.f k l p) (ofS p l 0) := by
  unfold pleatref11_Of.f
  have : ∀ d i : Nat, i + d = l.length → Ev (fun k => pleatref11_Of.l0 k l p (i : Int)) (ofS p (l.drop i) i) := by
    intro d
    induction d with
    | zero =>
      intro i hi
      rw [List.drop_eq_nil_of_le (by omega)]
      exact Ev.succ (Ev.iteF (by omega) (Ev.val rfl))
    | succ d ih =>
      intro i hi
      have hlt : i < l.length := by omega
      have hw := wrap_succ hlt (by omega)
      have IH := ih (i + 1) (by omega)
      rw [drop_get hlt]
      unfold ofS
      refine Ev.succ (Ev.iteT (by omega) (Ev.iteT (by omega) ?_))
      simp only [rdB_get hlt, hw]
      refine Ev.ite2 (fun h => ?_) (fun h => ?_)
      · rw [if_pos h]
        refine Ev.ite2 (fun h1 => Ev.val (by rw [if_pos h1])) (fun h1 => ?_)
        rw [if_neg h1]
        exact IH
      · rw [if_neg h]
        exact IH
  have := this l.length 0 (by omega)
  rw [List.drop_zero] at this
  exact this
theorem eqBlocks (l : List Blk) (hl : l.length ≤ 1000000) : Ev (fun k => pleatref00_EqBlocks.f k l l) true := by
  unfold pleatref00_EqBlocks.f
  refine Ev.iteT rfl (Ev.count (g := fun k i => pleatref00_EqBlocks.l0 k l l i) (n := l.length) (fun i hi IH => ?_) ?_ 0 (by omega))
  · refine Ev.succ (Ev.iteT (by omega) (Ev.iteT (by omega) (Ev.iteT (by omega) (Ev.iteF (by simp) ?_))))
    rw [wrap_succ hi (by omega)]
    exact IH
  · exact Ev.succ (Ev.iteF (by omega) (Ev.val rfl))
theorem works11 : pleatlaw11_works.f = some true := by decide +kernel

end Go.Proofs.Ytiaohbbafaaibaa.P

/- OWN TEXT: what a gathering's set holds, and the reference's marks, places and blocks: the same lists. -/
set_option linter.unusedVariables false
set_option linter.unusedSimpArgs false
namespace Go.Proofs.Ytiaohbbafaaibaa.P
open Go.RowKit Go.Proofs.YtiaohbbafaaibaaW.PrintWords Go.Proofs.YtiaohbbafaaibaaW.PrintLast Go.Proofs.YtiaohbbafaaibaaW.PrintMore Go.Proofs.Ytiaohbbafaaibaa.MapB

theorem addS_iff (S : Lit → Bool) (p q : Int) : addS S (.int .i64 q) (.int .i64 p) = true ↔ p = q ∨ S (.int .i64 p) = true := by
  simp [addS, Lit.sameKey]
theorem addL_iff (p : Int) : ∀ (l : List Int) (S : Lit → Bool), addL S l (.int .i64 p) = true ↔ p ∈ l ∨ S (.int .i64 p) = true
  | [], S => by simp [addL]
  | q :: l, S => by
    show addL (addS S (.int .i64 q)) l (.int .i64 p) = true ↔ _
    rw [addL_iff p l, addS_iff, List.mem_cons]
    constructor
    · rintro (h | h | h)
      · exact .inl (.inr h)
      · exact .inl (.inl h)
      · exact .inr h
    · rintro ((h | h) | h)
      · exact .inr (.inl h)
      · exact .inl h
      · exact .inr (.inr h)
theorem seenS_iff (hit : Int → Int → Nat → List Int) (t : List Int) (en p : Int) : ∀ n, seenS hit t en n (.int .i64 p) = true ↔ ∃ j, j < n ∧ p ∈ hit (rd t (j : Int)) en j
  | 0 => by simp [seenS]
  | n + 1 => by
    unfold seenS
    rw [addL_iff, seenS_iff hit t en p n]
    constructor
    · rintro (h | ⟨j, hj, h⟩)
      · exact ⟨n, by omega, h⟩
      · exact ⟨j, by omega, h⟩
    · rintro ⟨j, hj, h⟩
      by_cases e : j = n
      · subst e; exact .inl h
      · exact .inr ⟨j, by omega, h⟩
theorem scanT_none {n : Int} : ∀ {l : List Int} {i : Nat}, scanT n l i = none → ∀ x ∈ l, (tgtS x).2 = true → (tgtS x).1 < n
  | [], _, _, x, hx, _ => by cases hx
  | y :: r, i, h, x, hx, hx2 => by
    unfold scanT at h
    by_cases h1 : (tgtS y).2 = true
    · rw [if_pos h1] at h
      by_cases h2 : (tgtS y).1 ≥ n
      · rw [if_pos h2] at h; cases h
      · rw [if_neg h2] at h
        rcases List.mem_cons.1 hx with rfl | hx
        · omega
        · exact scanT_none h x hx hx2
    · rw [if_neg h1] at h
      rcases List.mem_cons.1 hx with rfl | hx
      · exact absurd hx2 h1
      · exact scanT_none h x hx hx2
/-- What a check that ends well tells. -/
structure Fit (t : List Int) (en : Int) : Prop where
  words : Words t
  n0 : 0 < t.length
  n1 : t.length ≤ 16384
  e0 : 0 ≤ en
  e1 : en < (t.length : Int)
  tgt : ∀ x ∈ t, (tgtS x).2 = true → (tgtS x).1 < (t.length : Int)
  last : ∀ i : Nat, i < t.length → (decS (rd t (i : Int))).1 = 17 ∨ (decS (rd t (i : Int))).1 = 18 → i + 1 < t.length
theorem chk_fit {t : List Int} {en : Int} {m : List Int} (ht : Words t) (h : (chkS t en m).1 = 0) : Fit t en := by
  obtain ⟨a, b, c, d⟩ := chkS_ok h
  unfold chkS at h
  rw [if_neg (by omega), if_neg (by omega)] at h
  split at h
  · exact absurd h (by decide)
  rw [if_neg (by omega), if_neg (by omega)] at h
  cases hs : scanT (t.length : Int) t 0 with
  | some j => rw [hs] at h; simp at h
  | none =>
    rw [hs] at h
    refine ⟨ht, a, b, c, d, scanT_none hs, fun i hi ho => ?_⟩
    have hl : (decS (rd t ((t.length : Int) - 1))).1 = 0 ∨ (decS (rd t ((t.length : Int) - 1))).1 = 15 ∨ (decS (rd t ((t.length : Int) - 1))).1 = 19 ∨ (decS (rd t ((t.length : Int) - 1))).1 = 21 := by
      simp only [lastS] at h
      split at h
      · exact .inl (by assumption)
      split at h
      · exact .inr (.inl (by assumption))
      split at h
      · exact .inr (.inr (.inl (by assumption)))
      split at h
      · exact .inr (.inr (.inr (by assumption)))
      · simp at h
    by_cases e : i + 1 = t.length
    · rw [show (t.length : Int) - 1 = (i : Int) by omega] at hl
      omega
    · omega
def hitR (kind : Int) (x : Int) (i : Nat) : List Int :=
  (if (tgtS x).2 = true ∧ (kind = 0 ∨ kind = 1 ∧ (decS x).1 = 20) then [(tgtS x).1] else []) ++ (if kind = 2 ∧ ((decS x).1 = 17 ∨ (decS x).1 = 18) then [(i : Int) + 1] else [])
theorem hitR0 (x : Int) (i : Nat) : hitR 0 x i = tgtL x := by unfold hitR tgtL; simp
theorem hitR1 (x : Int) (i : Nat) : hitR 1 x i = if (tgtS x).2 = true ∧ (decS x).1 = 20 then [(tgtS x).1] else [] := by unfold hitR; simp
theorem hitR2 (x : Int) (i : Nat) : hitR 2 x i = if (decS x).1 = 17 ∨ (decS x).1 = 18 then [(i : Int) + 1] else [] := by unfold hitR; simp
def Marked (L : List Bool) (n : Nat) (Q : Nat → Prop) : Prop := L.length = n ∧ ∀ p, p < n → (L.getD p false = true ↔ Q p)
theorem Marked.set {L : List Bool} {n : Nat} {Q : Nat → Prop} (h : Marked L n Q) (q : Nat) (hq : q < n) : Marked (L.set q true) n (fun p => Q p ∨ p = q) := by
  refine ⟨by rw [List.length_set]; exact h.1, fun p hp => ?_⟩
  show (L.set q true).getD p false = true ↔ (Q p ∨ p = q)
  rw [← h.2 p hp]
  have h1 := h.1
  by_cases e : p = q
  · subst e
    simp [List.getD_eq_getElem?_getD, List.getElem?_set, h1, hp]
  · simp [List.getD_eq_getElem?_getD, List.getElem?_set, Ne.symm e, e]
theorem Marked.to {L : List Bool} {n : Nat} {Q Q' : Nat → Prop} (h : Marked L n Q) (e : ∀ p, p < n → (Q p ↔ Q' p)) : Marked L n Q' := ⟨h.1, fun p hp => (h.2 p hp).trans (e p hp)⟩
theorem marks_l {t : List Int} {en : Int} (F : Fit t en) (m : List Int) (kind : Int) (hk : kind = 0 ∨ kind = 1 ∨ kind = 2) : ∀ d i : Nat, i + d = t.length → ∀ (L : List Bool) (Q : Nat → Prop), Marked L t.length Q →
    ∃ R, Marked R t.length (fun p => Q p ∨ (∃ j, i ≤ j ∧ j < t.length ∧ (p : Int) ∈ hitR kind (rd t (j : Int)) j) ∨ (kind = 0 ∧ (p : Int) = en)) ∧ Ev (fun k => pleatref11_Marks.l0 k kind L (i : Int) t en m) R := by
  intro d
  induction d with
  | zero =>
    intro i hi L Q hL
    have h1 := hL.1
    have e0 := F.e0
    have e1 := F.e1
    by_cases h0 : kind = 0
    · refine ⟨L.set en.toNat true, (hL.set en.toNat (by omega)).to (fun p hp => ?_), Ev.succ (Ev.iteF (by omega) (Ev.iteT h0 (Ev.iteT e0 (Ev.iteT (by omega) (Ev.val rfl)))))⟩
      constructor
      · rintro (h | h)
        · exact .inl h
        · exact .inr (.inr ⟨h0, by omega⟩)
      · rintro (h | ⟨j, h2, h3, _⟩ | ⟨_, h⟩)
        · exact .inl h
        · omega
        · exact .inr (by omega)
    · refine ⟨L, hL.to (fun p hp => ?_), Ev.succ (Ev.iteF (by omega) (Ev.iteF h0 (Ev.val rfl)))⟩
      constructor
      · exact .inl
      · rintro (h | ⟨j, h2, h3, _⟩ | ⟨h, _⟩)
        · exact h
        · omega
        · exact absurd h h0
  | succ d ih =>
    intro i hi L Q hL
    have h1 := hL.1
    have hlt : i < t.length := by omega
    have hn := F.n1
    have hw := wrap_succ hlt (by omega)
    have hx := F.words.at hlt
    have hr : rd t (i : Int) = t[i] := rd_get hlt
    rw [← hr] at hx
    have htg : (tgtS (rd t (i : Int))).2 = true → 0 ≤ (tgtS (rd t (i : Int))).1 ∧ (tgtS (rd t (i : Int))).1 < (t.length : Int) := fun h => ⟨(tgtS_range h).1, F.tgt _ (by rw [hr]; exact List.getElem_mem hlt) h⟩
    have hla := F.last i hlt
    -- the end of a round: what is marked is what was, and what this word marks
    have fin : ∀ (L' : List Bool) (Q' : Nat → Prop), Marked L' t.length Q' → (∀ p, p < t.length → (Q' p ↔ Q p ∨ (p : Int) ∈ hitR kind (rd t (i : Int)) i)) →
        ∃ R, Marked R t.length (fun p => Q p ∨ (∃ j, i ≤ j ∧ j < t.length ∧ (p : Int) ∈ hitR kind (rd t (j : Int)) j) ∨ (kind = 0 ∧ (p : Int) = en)) ∧ Ev (fun k => pleatref11_Marks.l0 k kind L' (wrap64 ((i : Int) + 1)) t en m) R := by
      intro L' Q' hL' hQ
      obtain ⟨R, hR, hE⟩ := ih (i + 1) (by omega) L' Q' hL'
      refine ⟨R, hR.to (fun p hp => ?_), by rw [hw]; exact hE⟩
      constructor
      · rintro (h | ⟨j, h2, h3, h4⟩ | h)
        · rcases (hQ p hp).1 h with h | h
          · exact .inl h
          · exact .inr (.inl ⟨i, Nat.le_refl _, hlt, h⟩)
        · exact .inr (.inl ⟨j, by omega, h3, h4⟩)
        · exact .inr (.inr h)
      · rintro (h | ⟨j, h2, h3, h4⟩ | h)
        · exact .inl ((hQ p hp).2 (.inl h))
        · by_cases e : j = i
          · subst e; exact .inl ((hQ p hp).2 (.inr h4))
          · exact .inr (.inl ⟨j, by omega, h3, h4⟩)
        · exact .inr (.inr h)
    generalize hop : (decS (rd t (i : Int))).1 = op at hla
    generalize hto : (tgtS (rd t (i : Int))) = tw at htg
    have hh : hitR kind (rd t (i : Int)) i = (if tw.2 = true ∧ (kind = 0 ∨ kind = 1 ∧ op = 20) then [tw.1] else []) ++ (if kind = 2 ∧ (op = 17 ∨ op = 18) then [(i : Int) + 1] else []) := by unfold hitR; rw [hop, hto]
    rw [hh] at fin
    -- the inner step
    have J : ∀ b : Bool, (b = true ↔ tw.2 = true ∧ (kind = 0 ∨ kind = 1 ∧ op = 20)) → ∃ R, Marked R t.length (fun p => Q p ∨ (∃ j, i ≤ j ∧ j < t.length ∧ (p : Int) ∈ hitR kind (rd t (j : Int)) j) ∨ (kind = 0 ∧ (p : Int) = en)) ∧ Ev (fun k => pleatref11_Marks.j1 k kind L (i : Int) op tw.1 b t en m) R := by
      intro b hb
      cases b with
      | true =>
        have hb := hb.1 rfl
        have hg := htg hb.1
        have hk2 : kind ≠ 2 := by omega
        rw [if_pos hb, if_neg (fun h => hk2 h.1)] at fin
        obtain ⟨R, hR, hE⟩ := fin _ _ (hL.set tw.1.toNat (by omega)) (fun p hp => by
          rw [List.append_nil, List.mem_singleton]
          constructor
          · rintro (h | h)
            · exact .inl h
            · exact .inr (by omega)
          · rintro (h | h)
            · exact .inl h
            · exact .inr (by omega))
        refine ⟨R, hR, Ev.succ ?_⟩
        simp only [pleatref11_Marks.j1, if_true]
        exact Ev.iteT hg.1 (Ev.iteT (by omega) (Ev.bind0 rfl (Ev.iteF hk2 hE)))
      | false =>
        have hb : ¬ (tw.2 = true ∧ (kind = 0 ∨ kind = 1 ∧ op = 20)) := fun h => Bool.false_ne_true (hb.2 h)
        rw [if_neg hb] at fin
        by_cases hk2 : kind = 2
        · by_cases ho : op = 17 ∨ op = 18
          · rw [if_pos ⟨hk2, ho⟩] at fin
            have hl := hla ho
            obtain ⟨R, hR, hE⟩ := fin _ _ (hL.set (i + 1) hl) (fun p hp => by
              rw [List.nil_append, List.mem_singleton]
              constructor
              · rintro (h | h)
                · exact .inl h
                · exact .inr (by omega)
              · rintro (h | h)
                · exact .inl h
                · exact .inr (by omega))
            have hs : L.set (i + 1) true = L.set ((wrap64 ((i : Int) + 1)) : Int).toNat true := by rw [hw]; rfl
            rw [hs] at hE
            refine ⟨R, hR, Ev.succ ?_⟩
            simp only [pleatref11_Marks.j1, Bool.false_eq_true, if_false]
            refine Ev.iteT hk2 ?_
            rcases ho with ho | ho
            · exact Ev.iteT ho (Ev.iteT (by rw [hw]; omega) (Ev.iteT (by rw [hw]; omega) hE))
            · exact Ev.iteF (by omega) (Ev.iteT ho (Ev.iteT (by rw [hw]; omega) (Ev.iteT (by rw [hw]; omega) hE)))
          · rw [if_neg (fun h => ho h.2)] at fin
            obtain ⟨R, hR, hE⟩ := fin L Q hL (fun p hp => by simp)
            refine ⟨R, hR, Ev.succ ?_⟩
            simp only [pleatref11_Marks.j1, Bool.false_eq_true, if_false]
            exact Ev.iteT hk2 (Ev.iteF (fun h => ho (.inl h)) (Ev.iteF (fun h => ho (.inr h)) hE))
        · rw [if_neg (fun h => hk2 h.1)] at fin
          obtain ⟨R, hR, hE⟩ := fin L Q hL (fun p hp => by simp)
          refine ⟨R, hR, Ev.succ ?_⟩
          simp only [pleatref11_Marks.j1, Bool.false_eq_true, if_false]
          exact Ev.iteF hk2 hE
    have hD := dec2 hx.1 hx.2
    have hT := tgt2 hx.1 hx.2
    rw [hto] at hT
    have key : ∀ b : Bool, (b = true ↔ tw.2 = true ∧ (kind = 0 ∨ kind = 1 ∧ op = 20)) → (∀ R, Ev (fun k => pleatref11_Marks.j1 k kind L (i : Int) op tw.1 b t en m) R → Ev (fun k => pleatref11_Marks.l0 k kind L (i : Int) t en m) R) →
        ∃ R, Marked R t.length (fun p => Q p ∨ (∃ j, i ≤ j ∧ j < t.length ∧ (p : Int) ∈ hitR kind (rd t (j : Int)) j) ∨ (kind = 0 ∧ (p : Int) = en)) ∧ Ev (fun k => pleatref11_Marks.l0 k kind L (i : Int) t en m) R := by
      intro b hb hw2
      obtain ⟨R, hR, hE⟩ := J b hb
      exact ⟨R, hR, hw2 R hE⟩
    have head : ∀ (R : List Bool) (g : Nat → Option (List Bool)), True := fun _ _ => trivial
    by_cases h2 : tw.2 = true
    · rcases hk with h0 | h0 | h0
      · refine key true (by simp [h2, h0]) (fun R hE => Ev.succ (Ev.iteT (by omega) (Ev.iteT (by omega) (Ev.bind hD (Ev.bind hT (Ev.iteT h2 (Ev.iteT h0 ?_)))))))
        rw [hop]
        exact hE
      · refine key (op == 20) (by simp [h2, h0]) (fun R hE => Ev.succ (Ev.iteT (by omega) (Ev.iteT (by omega) (Ev.bind hD (Ev.bind hT (Ev.iteT h2 (Ev.iteF (by omega) (Ev.iteT h0 ?_))))))))
        rw [hop]
        exact hE
      · refine key false (by simp [h2, h0]) (fun R hE => Ev.succ (Ev.iteT (by omega) (Ev.iteT (by omega) (Ev.bind hD (Ev.bind hT (Ev.iteT h2 (Ev.iteF (by omega) (Ev.iteF (by omega) ?_))))))))
        rw [hop]
        exact hE
    · refine key false (by simp [h2]) (fun R hE => Ev.succ (Ev.iteT (by omega) (Ev.iteT (by omega) (Ev.bind hD (Ev.bind hT (Ev.iteF h2 ?_))))))
      rw [hop]
      exact hE
theorem marks {t : List Int} {en : Int} (F : Fit t en) (m : List Int) (kind : Int) (hk : kind = 0 ∨ kind = 1 ∨ kind = 2) :
    ∃ R, Marked R t.length (fun p => (∃ j, j < t.length ∧ (p : Int) ∈ hitR kind (rd t (j : Int)) j) ∨ (kind = 0 ∧ (p : Int) = en)) ∧ Ev (fun k => pleatref11_Marks.f k t en m kind) R := by
  have h0 : Marked (List.replicate t.length false) t.length (fun _ => False) := ⟨by simp, fun p hp => by simp [List.getD_eq_getElem?_getD, List.getElem?_replicate, hp]⟩
  obtain ⟨R, hR, hE⟩ := marks_l F m kind hk t.length 0 (by omega) _ _ h0
  refine ⟨R, hR.to (fun p hp => ?_), ?_⟩
  · constructor
    · rintro (h | ⟨j, _, h2, h3⟩ | h)
      · exact h.elim
      · exact .inl ⟨j, h2, h3⟩
      · exact .inr h
    · rintro (⟨j, h2, h3⟩ | h)
      · exact .inr (.inl ⟨j, Nat.zero_le _, h2, h3⟩)
      · exact .inr (.inr h)
  · have := F.n1
    unfold pleatref11_Marks.f
    refine Ev.iteT (by omega) (Ev.iteT (by omega) ?_)
    rw [Int.toNat_natCast]
    exact hE
theorem placesS_succ (S : Lit → Bool) (j : Nat) : placesS S (j + 1) = if S (.int .i64 (j : Int)) = true then placesS S j ++ [(j : Int)] else placesS S j := rfl
theorem places_l {R : List Bool} {n : Nat} {Q : Nat → Prop} (hR : Marked R n Q) (hn : n ≤ 16384) (S : Lit → Bool) (hS : ∀ p : Nat, p < n → (S (.int .i64 (p : Int)) = true ↔ Q p)) : ∀ d i : Nat, i + d = n →
    Ev (fun k => pleatref11_Places.l0 k (placesS S i) R (i : Int)) (placesS S n) := by
  intro d
  have h1 := hR.1
  induction d with
  | zero =>
    intro i hi
    have hi : i = n := by omega
    subst hi
    exact Ev.succ (Ev.iteF (by omega) (Ev.val rfl))
  | succ d ih =>
    intro i hi
    have hlt : i < n := by omega
    have hw := wrap_succ hlt (by omega)
    have IH := ih (i + 1) (by omega)
    have hrd : rdOf false R (i : Int) = true ↔ S (.int .i64 (i : Int)) = true := by
      rw [hS i hlt, ← hR.2 i hlt]
      rfl
    have hl := placesS_len S i
    rw [placesS_succ] at IH
    refine Ev.succ (Ev.iteT (by omega) (Ev.iteT (by omega) (Ev.ite2 (fun h => ?_) (fun h => ?_))))
    · rw [if_pos (hrd.1 h)] at IH
      rw [hw]
      exact Ev.iteT (by omega) IH
    · rw [if_neg (fun h' => h (hrd.2 h'))] at IH
      rw [hw]
      exact IH
theorem hit0_iff {t : List Int} {en : Int} (F : Fit t en) (p : Int) : seenS hit0 t en t.length (.int .i64 p) = true ↔ (∃ j, j < t.length ∧ p ∈ hitR 0 (rd t (j : Int)) j) ∨ ((0 : Int) = 0 ∧ p = en) := by
  rw [seenS_iff]
  have := F.n0
  simp only [hitR0]
  constructor
  · rintro ⟨j, hj, h⟩
    rcases List.mem_append.1 h with h | h
    · exact .inl ⟨j, hj, h⟩
    · exact .inr ⟨by trivial, List.mem_singleton.1 h⟩
  · rintro (⟨j, hj, h⟩ | ⟨_, h⟩)
    · exact ⟨j, hj, List.mem_append.2 (.inl h)⟩
    · exact ⟨0, by omega, List.mem_append.2 (.inr (List.mem_singleton.2 h))⟩
theorem tgt_20 {x : Int} (h : (decS x).1 = 20) : tgtS x = ((decS x).2.2.2.2, true) := by
  unfold tgtS
  rw [h, if_pos (by decide +kernel)]
theorem hit1_iff {t : List Int} {en : Int} (F : Fit t en) (p : Int) : seenS hit1 t en t.length (.int .i64 p) = true ↔ (∃ j, j < t.length ∧ p ∈ hitR 1 (rd t (j : Int)) j) ∨ ((1 : Int) = 0 ∧ p = en) := by
  rw [seenS_iff]
  have e : ∀ j : Nat, hitR 1 (rd t (j : Int)) j = hit1 (rd t (j : Int)) en j := by
    intro j
    rw [hitR1]
    unfold hit1
    by_cases h : (decS (rd t (j : Int))).1 = 20
    · rw [tgt_20 h, if_pos ⟨rfl, h⟩, if_pos h]
    · rw [if_neg h, if_neg (fun h0 => h h0.2)]
  simp only [e]
  constructor
  · exact .inl
  · rintro (h | ⟨h, _⟩)
    · exact h
    · exact absurd h (by decide)
theorem hit2_iff {t : List Int} {en : Int} (F : Fit t en) (p : Int) : seenS hit2 t en t.length (.int .i64 p) = true ↔ (∃ j, j < t.length ∧ p ∈ hitR 2 (rd t (j : Int)) j) ∨ ((2 : Int) = 0 ∧ p = en) := by
  rw [seenS_iff]
  have e : ∀ j : Nat, hitR 2 (rd t (j : Int)) j = hit2 (rd t (j : Int)) en j := by
    intro j
    rw [hitR2]
    unfold hit2
    by_cases h : (decS (rd t (j : Int))).1 = 17
    · rw [if_pos (Or.inl h), if_pos h]
    · by_cases h8 : (decS (rd t (j : Int))).1 = 18
      · rw [if_pos (Or.inr h8), if_neg h, if_pos h8]
      · rw [if_neg h, if_neg h8, if_neg]
        rintro (h0 | h0)
        · exact h h0
        · exact h8 h0
  simp only [e]
  constructor
  · exact .inl
  · rintro (h | ⟨h, _⟩)
    · exact h
    · exact absurd h (by decide)
theorem refPlaces {t : List Int} {en : Int} (F : Fit t en) (m : List Int) (kind : Int) (hk : kind = 0 ∨ kind = 1 ∨ kind = 2) (S : Lit → Bool) (hS : ∀ p : Int, S (.int .i64 p) = true ↔ (∃ j, j < t.length ∧ p ∈ hitR kind (rd t (j : Int)) j) ∨ (kind = 0 ∧ p = en)) :
    Ev (fun k => pleatref11_Places.f k t en m kind) (placesS S t.length) := by
  obtain ⟨R, hR, hE⟩ := marks F m kind hk
  unfold pleatref11_Places.f
  exact Ev.bind hE (places_l hR F.n1 S (fun p _ => hS p) t.length 0 (by omega))
theorem eqInts (l : List Int) (hl : l.length ≤ 1000000) : Ev (fun k => pleatref00_EqInts.f k l l) true := by
  unfold pleatref00_EqInts.f
  refine Ev.iteT rfl (Ev.count (g := fun k i => pleatref00_EqInts.l0 k l l i) (n := l.length) (fun i hi IH => ?_) ?_ 0 (by omega))
  · refine Ev.succ (Ev.iteT (by omega) (Ev.iteT (by omega) (Ev.iteT (by omega) (Ev.iteT rfl ?_))))
    rw [wrap_succ hi (by omega)]
    exact IH
  · exact Ev.succ (Ev.iteF (by omega) (Ev.val rfl))
theorem eqLongs (l : List Int) (hl : l.length ≤ 1000000) : Ev (fun k => pleatref00_EqLongs.f k l l) true := by
  unfold pleatref00_EqLongs.f
  refine Ev.iteT rfl (Ev.count (g := fun k i => pleatref00_EqLongs.l0 k l l i) (n := l.length) (fun i hi IH => ?_) ?_ 0 (by omega))
  · refine Ev.succ (Ev.iteT (by omega) (Ev.iteT (by omega) (Ev.iteT (by omega) (Ev.iteT rfl ?_))))
    rw [wrap_succ hi (by omega)]
    exact IH
  · exact Ev.succ (Ev.iteF (by omega) (Ev.val rfl))
theorem eqWords' (l : List Int) (hl : l.length ≤ 1000000) : Ev (fun k => pleatref00_EqWords.f k l l) true := by
  unfold pleatref00_EqWords.f
  refine Ev.iteT rfl (Ev.count (g := fun k i => pleatref00_EqWords.l0 k l l i) (n := l.length) (fun i hi IH => ?_) ?_ 0 (by omega))
  · refine Ev.succ (Ev.iteT (by omega) (Ev.iteT (by omega) (Ev.iteT (by omega) (Ev.iteT rfl ?_))))
    rw [wrap_succ hi (by omega)]
    exact IH
  · exact Ev.succ (Ev.iteF (by omega) (Ev.val rfl))
/-! ### blocks -/
def pairsL (n : Int) : List Int → List Blk
  | [] => []
  | [a] => [⟨a, n⟩]
  | a :: b :: r => ⟨a, b⟩ :: pairsL n (b :: r)
theorem pairsL_snoc (n x : Int) : ∀ l : List Int, l ≠ [] → pairsL n (l ++ [x]) = pairsL x l ++ [⟨x, n⟩]
  | [], h => absurd rfl h
  | [a], _ => rfl
  | a :: b :: r, _ => by
    have := pairsL_snoc n x (b :: r) (by simp)
    show (⟨a, b⟩ : Blk) :: pairsL n ((b :: r) ++ [x]) = (⟨a, b⟩ : Blk) :: (pairsL x (b :: r)) ++ [⟨x, n⟩]
    rw [this]
    rfl
theorem pairsL_len (n : Int) : ∀ l : List Int, (pairsL n l).length = l.length
  | [] => rfl
  | [a] => rfl
  | a :: b :: r => by
    have := pairsL_len n (b :: r)
    show (pairsL n (b :: r)).length + 1 = _
    rw [this]
    rfl
theorem pairsL_get (n : Int) : ∀ (l : List Int) (k : Nat) (h : k < l.length), (pairsL n l)[k]? = some ⟨l[k], if h2 : k + 1 < l.length then l[k + 1] else n⟩
  | [a], 0, _ => rfl
  | [a], k + 1, h => by simp at h
  | a :: b :: r, 0, _ => rfl
  | a :: b :: r, k + 1, h => by
    have := pairsL_get n (b :: r) k (by simpa using h)
    show (pairsL n (b :: r))[k]? = _
    rw [this]
    simp only [List.length_cons, List.getElem_cons_succ, Nat.add_lt_add_iff_right]
theorem pairU_take (l : List Int) (n : Int) : ∀ (j k : Nat), k < j → j ≤ l.length → ∃ h : k < l.length, (pairU l n j)[k]? = some ⟨l[k], if h2 : k + 1 < l.length then l[k + 1] else n⟩
  | 0, k, h, _ => by omega
  | j + 1, k, h, hj => by
    unfold pairU
    by_cases e : k = j
    · subst e
      refine ⟨by omega, ?_⟩
      rw [List.getElem?_append_right (by rw [pairU_len]; omega), pairU_len, Nat.sub_self]
      have e1 : rd l (k : Int) = l[k] := rd_get (by omega)
      by_cases h2 : k + 1 < l.length
      · have e2 : rd l ((k : Int) + 1) = l[k + 1] := rd_get h2
        rw [if_pos (by omega), dif_pos h2, e1, e2]
        rfl
      · rw [if_neg (by omega), dif_neg h2, e1]
        rfl
    · obtain ⟨hk, hg⟩ := pairU_take l n j k (by omega) (by omega)
      exact ⟨hk, by rw [List.getElem?_append_left (by rw [pairU_len]; omega)]; exact hg⟩
theorem pairU_eq (l : List Int) (n : Int) : pairU l n l.length = pairsL n l := by
  apply List.ext_getElem?
  intro k
  by_cases h : k < l.length
  · obtain ⟨_, hg⟩ := pairU_take l n l.length k h (Nat.le_refl _)
    rw [hg, pairsL_get n l k h]
  · rw [List.getElem?_eq_none (by rw [pairU_len]; omega), List.getElem?_eq_none (by rw [pairsL_len]; omega)]
/-- What begins a block. -/
theorem hit3_iff {t : List Int} {en : Int} (F : Fit t en) (p : Int) : seenS hit3 t en t.length (.int .i64 p) = true ↔ ((∃ j, j < t.length ∧ p ∈ hitR 0 (rd t (j : Int)) j) ∨ ((0 : Int) = 0 ∧ p = en)) ∨ p = 0 ∨ ∃ j : Nat, j < t.length ∧ endsO (decS (rd t (j : Int))).1 = true ∧ p = (j : Int) + 1 := by
  have h0 := hit0_iff F p
  rw [← h0, seenS_iff, seenS_iff]
  have := F.n0
  constructor
  · rintro ⟨j, hj, h⟩
    unfold hit3 at h
    rcases List.mem_append.1 h with h | h
    · exact .inl ⟨j, hj, List.mem_append.2 (.inl h)⟩
    rcases List.mem_append.1 h with h | h
    · by_cases he : endsO (decS (rd t (j : Int))).1 = true
      · rw [if_pos he] at h
        exact .inr (.inr ⟨j, hj, he, List.mem_singleton.1 h⟩)
      · rw [if_neg he] at h; cases h
    · simp at h
      rcases h with h | h
      · exact .inl ⟨j, hj, List.mem_append.2 (.inr (List.mem_singleton.2 h))⟩
      · exact .inr (.inl h)
  · rintro (⟨j, hj, h⟩ | h | ⟨j, hj, he, h⟩)
    · refine ⟨j, hj, ?_⟩
      unfold hit3
      rcases List.mem_append.1 h with h | h
      · exact List.mem_append.2 (.inl h)
      · exact List.mem_append.2 (.inr (List.mem_append.2 (.inr (by simp at h; simp [h]))))
    · exact ⟨0, by omega, List.mem_append.2 (.inr (List.mem_append.2 (.inr (by simp [h]))))⟩
    · exact ⟨j, hj, List.mem_append.2 (.inr (List.mem_append.2 (.inl (by rw [if_pos he]; simp [h]))))⟩
theorem refBlocks_l {t : List Int} {en : Int} (F : Fit t en) (m : List Int) {R : List Bool} {Q : Nat → Prop} (hR : Marked R t.length Q) (S : Lit → Bool)
    (hS : ∀ p : Nat, 1 ≤ p → p < t.length → (S (.int .i64 (p : Int)) = true ↔ Q p ∨ endsO (decS (rd t ((p : Int) - 1))).1 = true)) : ∀ d i : Nat, i + d = t.length → 1 ≤ i → ∀ (acc : List Blk) (fr : Int), placesS S i ≠ [] → (∀ y, pairsL y (placesS S i) = acc ++ [⟨fr, y⟩]) →
    Ev (fun k => pleatref11_Blocks.l0 k acc R fr (i : Int) t en m) (pairsL (t.length : Int) (placesS S t.length)) := by
  intro d
  have h1 := hR.1
  have hn := F.n1
  induction d with
  | zero =>
    intro i hi hi1 acc fr hne hacc
    have hi : i = t.length := by omega
    subst hi
    have hl : acc.length + 1 ≤ t.length := by
      have := congrArg List.length (hacc 0)
      rw [pairsL_len, List.length_append] at this
      have h2 := placesS_len S t.length
      simp at this
      omega
    have hw : wrap64 ((t.length : Int) + 1) = (t.length : Int) + 1 := wrap64_id (by omega) (by omega)
    refine Ev.succ (Ev.iteT (by omega) (Ev.iteT rfl (Ev.iteT (by omega) ?_)))
    rw [hw]
    exact Ev.succ (Ev.iteF (by omega) (Ev.val (hacc _).symm))
  | succ d ih =>
    intro i hi hi1 acc fr hne hacc
    have hlt : i < t.length := by omega
    have hw := wrap_succ hlt (by omega)
    have hw2 : wrap64 ((i : Int) - 1) = (i : Int) - 1 := wrap64_id (by omega) (by omega)
    have hrd : rdOf false R (i : Int) = true ↔ Q i := hR.2 i hlt
    have hSi := hS i hi1 hlt
    have hl : acc.length + 1 ≤ t.length := by
      have := congrArg List.length (hacc 0)
      rw [pairsL_len, List.length_append] at this
      have h2 := placesS_len S i
      simp at this
      omega
    have hx : 0 ≤ rd t ((i : Int) - 1) ∧ rd t ((i : Int) - 1) < 4294967296 := by
      have := F.words.at (i := i - 1) (by omega)
      rw [show (i : Int) - 1 = ((i - 1 : Nat) : Int) by omega, rd_get (by omega)]
      exact this
    have cut : S (.int .i64 (i : Int)) = true → Ev (fun k => pleatref11_Blocks.l0 k (acc ++ [⟨fr, (i : Int)⟩]) R (i : Int) (wrap64 ((i : Int) + 1)) t en m) (pairsL (t.length : Int) (placesS S t.length)) := by
      intro hc
      rw [hw]
      refine ih (i + 1) (by omega) (by omega) _ _ ?_ (fun y => ?_)
      · unfold placesS; rw [if_pos hc]; simp
      · show pairsL y (placesS S (i + 1)) = _
        unfold placesS
        rw [if_pos hc, pairsL_snoc _ _ _ hne, hacc]
    have go : ¬ S (.int .i64 (i : Int)) = true → Ev (fun k => pleatref11_Blocks.l0 k acc R fr (wrap64 ((i : Int) + 1)) t en m) (pairsL (t.length : Int) (placesS S t.length)) := by
      intro hc
      rw [hw]
      refine ih (i + 1) (by omega) (by omega) _ _ ?_ (fun y => ?_)
      · unfold placesS; rw [if_neg hc]; exact hne
      · show pairsL y (placesS S (i + 1)) = _
        unfold placesS
        rw [if_neg hc, hacc]
    refine Ev.succ (Ev.iteT (by omega) (Ev.iteF (by omega) (Ev.iteT (by omega) (Ev.iteT (by omega) (Ev.ite2 (fun h => ?_) (fun h => ?_))))))
    · exact Ev.iteT (by omega) (cut (hSi.2 (.inl (hrd.1 h))))
    · simp only [hw2]
      refine Ev.iteT (by omega) (Ev.iteT (by omega) (Ev.bind (ends2 hx.1 hx.2) (Ev.ite2 (fun he => ?_) (fun he => ?_))))
      · exact Ev.iteT (by omega) (cut (hSi.2 (.inr he)))
      · exact go (fun hc => by
          rcases hSi.1 hc with h2 | h2
          · exact h (hrd.2 h2)
          · exact he h2)
theorem refBlocks {t : List Int} {en : Int} (F : Fit t en) (m : List Int) : Ev (fun k => pleatref11_Blocks.f k t en m) (pairsL (t.length : Int) (placesS (seenS hit3 t en t.length) t.length)) := by
  obtain ⟨R, hR, hE⟩ := marks F m 0 (.inl rfl)
  unfold pleatref11_Blocks.f
  refine Ev.bind hE ?_
  have hp1 : placesS (seenS hit3 t en t.length) 1 = [0] := by
    show (if seenS hit3 t en t.length (.int .i64 ((0 : Nat) : Int)) = true then [] ++ [((0 : Nat) : Int)] else []) = [0]
    rw [if_pos ((hit3_iff F ((0 : Nat) : Int)).2 (.inr (.inl rfl)))]
    rfl
  have hn0 := F.n0
  refine refBlocks_l F m hR (seenS hit3 t en t.length) (fun p hp1 hp => ?_) (t.length - 1) 1 (by omega) (by omega) [] 0 (by rw [hp1]; simp) (fun y => by rw [hp1]; rfl)
  rw [hit3_iff F]
  constructor
  · rintro (h | h | ⟨j, hj, he, h⟩)
    · exact .inl h
    · omega
    · rw [show (p : Int) - 1 = (j : Int) by omega]
      exact .inr he
  · rintro (h | h)
    · exact .inl h
    · refine .inr (.inr ⟨p - 1, by omega, ?_, by omega⟩)
      rw [show ((p - 1 : Nat) : Int) = (p : Int) - 1 by omega]
      exact h
end Go.Proofs.Ytiaohbbafaaibaa.P

/- The statement BlockPlaces: of every input its law's Go function answers true and leaves its arguments as they were; no further condition. This text: the law over numbers and lists, no memory. -/
namespace Go.Proofs.Ytiaohbbafaaibaa.P
open Go.RowKit Go.Proofs.YtiaohbbafaaibaaW.PrintWords Go.Proofs.YtiaohbbafaaibaaW.PrintLast Go.Proofs.YtiaohbbafaaibaaW.PrintMore Go.Proofs.Ytiaohbbafaaibaa.Opn
set_option linter.unusedVariables false
set_option linter.unusedSimpArgs false

theorem words_of {t : List Int} (h : ∀ y ∈ t, (Lit.int .u32 y).wf = true) : Words t := fun x hx => by
  have := wf_u32 (h x hx)
  omega
theorem pureBlockPlaces : pleatlaw11_BlockPlaces.Pure := by
  intro x hx
  obtain ⟨t, en, m⟩ := x
  obtain ⟨⟨_, _, hw0⟩, _, _⟩ := hx
  have hw : Words t := words_of hw0
  refine Ev.rounds (g := fun k => pleatlaw11_BlockPlaces.f k t en m) ?_
  unfold pleatlaw11_BlockPlaces.f
  by_cases hm : (t.length : Int) > 600
  · have : pleatlaw11_much.f t en m = some true := by unfold pleatlaw11_much.f; rw [if_pos hm]
    exact Ev.bind0 this (Ev.iteT rfl (Ev.bind0 works11 (Ev.val rfl)))
  have hmu : pleatlaw11_much.f t en m = some (decide ((m.length : Int) > 16384)) := by unfold pleatlaw11_much.f; rw [if_neg hm]
  refine Ev.bind0 hmu (Ev.ite2 (fun h => Ev.bind0 works11 (Ev.val rfl)) (fun h => ?_))
  have hml : ¬ ((m.length : Int) > 16384) := fun h' => h (decide_eq_true h')
  have hcp : pleatref00_CopyImage.f t en m = some (t, en, m) := by
    have h1 : pleatref00_CopyWords.f t = some t := by unfold pleatref00_CopyWords.f; rw [if_pos (by simp; omega)]; rfl
    have h2 : pleatref00_CopyLongs.f m = some m := by unfold pleatref00_CopyLongs.f; rw [if_pos (by simp; omega)]; rfl
    unfold pleatref00_CopyImage.f
    rw [h1, h2]
    rfl
  have hwb : wordsB t = true := wordsB_iff.2 hw
  have g0 : block_Labels.f t en m = some (gatherS hit0 t en m) := by unfold block_Labels.f; rw [if_pos hwb]
  have g1 : block_Taken.f t en m = some (gatherS hit1 t en m) := by unfold block_Taken.f; rw [if_pos hwb]
  have g2 : block_Sites.f t en m = some (gatherS hit2 t en m) := by unfold block_Sites.f; rw [if_pos hwb]
  have g3 : block_Blocks.f t en m = some (blocksS t en m) := by unfold block_Blocks.f; rw [if_pos hwb]
  have s2 : ∀ hit, (gatherS hit t en m).2 = (chkS t en m).1 := by
    intro hit
    unfold gatherS
    split
    · rename_i h; exact h.symm
    · rfl
  have s3 : (blocksS t en m).2 = (chkS t en m).1 := s2 hit3
  have heq : Ev (fun k => pleatref00_EqImage.f k t en m t en m) true := by
    unfold pleatref00_EqImage.f
    exact Ev.iteT rfl (Ev.bind (eqWords' t (by omega)) (Ev.iteT rfl (Ev.bind (eqLongs m (by omega)) (Ev.val rfl))))
  refine Ev.bind0 hcp (Ev.bind (chk2 hw en m) (Ev.bind0 g0 (Ev.bind0 g1 (Ev.bind0 g2 (Ev.bind0 g3 (Ev.iteT (s2 _) (Ev.iteT (s2 _) (Ev.iteT (s2 _) (Ev.iteT s3 (Ev.bind heq ?_))))))))))
  refine Ev.succ ?_
  simp only [pleatlaw11_BlockPlaces.j0, Bool.not_true, Bool.false_eq_true, if_false]
  by_cases hc : (chkS t en m).1 = 0
  · have F := chk_fit hw hc
    have e0 : (gatherS hit0 t en m).1 = placesS (seenS hit0 t en t.length) t.length := by unfold gatherS; rw [if_pos hc]
    have e1 : (gatherS hit1 t en m).1 = placesS (seenS hit1 t en t.length) t.length := by unfold gatherS; rw [if_pos hc]
    have e2 : (gatherS hit2 t en m).1 = placesS (seenS hit2 t en t.length) t.length := by unfold gatherS; rw [if_pos hc]
    have e3 : (blocksS t en m).1 = pairsL (t.length : Int) (placesS (seenS hit3 t en t.length) t.length) := by
      unfold blocksS
      simp only
      rw [pairU_eq]
      unfold gatherS
      rw [if_pos hc]
    have l0 := placesS_len (seenS hit0 t en t.length) t.length
    have l1 := placesS_len (seenS hit1 t en t.length) t.length
    have l2 := placesS_len (seenS hit2 t en t.length) t.length
    have l3 := placesS_len (seenS hit3 t en t.length) t.length
    rw [e0, e1, e2, e3]
    refine Ev.iteT hc (Ev.bind (refPlaces F m 0 (.inl rfl) _ (hit0_iff F)) (Ev.bind (eqInts _ (by omega)) (Ev.iteT rfl ?_)))
    refine Ev.bind (refPlaces F m 1 (.inr (.inl rfl)) _ (hit1_iff F)) (Ev.bind (eqInts _ (by omega)) (Ev.iteT rfl ?_))
    refine Ev.bind (refPlaces F m 2 (.inr (.inr rfl)) _ (hit2_iff F)) (Ev.bind (eqInts _ (by omega)) (Ev.iteT rfl ?_))
    refine Ev.bind (refBlocks F m) (Ev.bind (eqBlocks _ (by rw [pairsL_len]; omega)) (Ev.iteT rfl ?_))
    exact Ev.bind0 works11 (Ev.val rfl)
  · have e : ∀ hit, (gatherS hit t en m).1 = [] := by intro hit; unfold gatherS; rw [if_neg hc]
    have e3 : (blocksS t en m).1 = [] := by
      unfold blocksS
      rw [e hit3]
      rfl
    rw [e, e, e, e3]
    exact Ev.iteF hc (Ev.iteT (by decide +kernel) (Ev.bind0 works11 (Ev.val rfl)))

end Go.Proofs.Ytiaohbbafaaibaa.P
