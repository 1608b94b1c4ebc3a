/- OWN TEXT and printed parts of this claim, laid together: Opn, Opns, SayBlockOf, BlkL, PureBlockOf. -/
import Derived.Test.YtiaohbbafaaibaaWWords
import Derived.SizedLaws
import Derived.Deep.Slices
import Derived.Deep.Fields
import Derived.ChangeSame
import Derived.OpenShut
import Derived.Test.YtiaohbbafaaibaaZoM0
import Derived.Test.YtiaohbbafaaibaaZoM8
/- OWN TEXT: an argument of whatever plain type (whole numbers, bools, strings, slices, structs of these), read as a value of the print's own kinds. -/
set_option linter.unusedVariables false
set_option linter.unusedSimpArgs false
namespace Go.Proofs.Ytiaohbbafaaibaa.Opn
open Go.ChangeShapes Go.WideShapes Go.Deep Go.RowKit Go.Proofs.YtiaohbbafaaibaaW.PrintWords

/-- Whatever reads as data of type t is a value of kind d, and meets wf. -/
def Opens (P : Program) (t : TypeId) {α : Type} (d : Kd α) (wf : α → Prop) : Prop :=
  P.cellsOf t = d.sz ∧ ∀ (H : Type) (enc : TypeId × Value → H) (w : World) (base : Nat) (spare : Nat → Bool) (held : Bool) (fuel : Nat) (cs : List Value) (x : DataW H × List MemPlace),
    DataW.trod enc P w base spare held fuel t cs = some x → (∀ n ∈ x.1.weights P t, n ≤ reachBytes) → ∃ a : α, d.K w a cs ∧ wf a

theorem Opens.int {P : Program} {t : TypeId} {k : IntKind} (hc : P.cellsOf t = 1) (hu : P.underlying t = some (.int k)) : Opens P t (Kd.int k) (fun n => (Lit.int k n).wf = true) :=
  ⟨hc, fun H enc w base spare held fuel cs x h _ => by
    obtain ⟨n, rfl, rfl, hw⟩ := DataW.trod_int hu h
    exact ⟨n, rfl, hw⟩⟩
theorem Opens.bool {P : Program} {t : TypeId} (hc : P.cellsOf t = 1) (hu : P.underlying t = some .bool) : Opens P t Kd.bool (fun _ => True) :=
  ⟨hc, fun H enc w base spare held fuel cs x h _ => by
    obtain ⟨b, rfl, rfl⟩ := DataW.trod_bool hu h
    exact ⟨b, rfl, trivial⟩⟩
theorem Opens.string {P : Program} {t : TypeId} (hc : P.cellsOf t = 1) (hu : P.underlying t = some .string) : Opens P t Kd.string (fun s => s.size ≤ 140737488351232) :=
  ⟨hc, fun H enc w base spare held fuel cs x h hz => by
    obtain ⟨s, rfl, rfl, _⟩ := DataW.trod_string hu h
    have := hz s.data.toList.length (by simp [DataW.weights])
    rw [Array.length_toList] at this
    exact ⟨s, rfl, this⟩⟩

theorem weightsAll_mem {H : Type} {P : Program} {e : TypeId} : ∀ {l : List (DataW H)} {d : DataW H}, d ∈ l → ∀ n ∈ d.weights P e, n ∈ DataW.weightsAll P e l
  | d0 :: r, d, hd, n, hn => by
    simp only [DataW.weightsAll, List.mem_append]
    rcases List.mem_cons.1 hd with rfl | hd
    · exact .inl hn
    · exact .inr (weightsAll_mem hd n hn)

theorem Opens.slice {P : Program} {t e : TypeId} {α : Type} {d : Kd α} {wf : α → Prop} {B : Nat} (hc : P.cellsOf t = 1) (hu : P.underlying t = some (.slice e)) (hB : P.bytesOf e = B) (he : Opens P e d wf) :
    Opens P t (Kd.slice e d) (fun l => l.length ≤ 9223372036854775807 ∧ l.length * B ≤ 140737488351232 ∧ ∀ x ∈ l, wf x) :=
  ⟨hc, fun H enc w base spare held fuel cs x h hz => by
    rcases open_slice hu h with ⟨rfl, rfl⟩ | ⟨a, len, cap, m, n, D, Pl, rfl, hb, hl, hm, hmm, rfl, hi⟩
    · exact ⟨[], ⟨none, 0, rfl, Nat.le_refl _, rfl, by simp, fun h => absurd h (Nat.lt_irrefl 0)⟩, by simp, by simp, fun x hx => by cases hx⟩
    · have hlm : len ≤ m := by rw [hmm]; split <;> omega
      have hw0 : ∀ n ∈ (DataW.slice ((List.range len).map D) ((List.range (m - len)).map fun j => D (len + j))).weights P t, n ≤ reachBytes := hz
      have h1 : (len + (m - len)) * P.bytesOf e ≤ reachBytes := by
        have := hw0 _ (by simp only [DataW.weights, hu]; exact List.mem_cons_self)
        simpa using this
      have hel : ∀ i, i < len → ∃ (a' : α) (c : List Value), w.cells? base (a.add (i * P.cellsOf e)) (P.cellsOf e) = some c ∧ d.K w a' c ∧ wf a' := fun i hi' => by
        obtain ⟨c, hcc, ht⟩ := hi i (Nat.lt_of_lt_of_le hi' hlm)
        obtain ⟨a', hk, hwf⟩ := he.2 H enc w base spare held n c _ ht (fun q hq => hw0 q (by
          simp only [DataW.weights, hu]
          exact List.mem_cons_of_mem _ (List.mem_append_left _ (weightsAll_mem (List.mem_map.2 ⟨i, List.mem_range.2 hi', rfl⟩) q hq))))
        exact ⟨a', c, hcc, hk, hwf⟩
      have hl' : ∃ l : List α, l.length = len ∧ ∀ i x, l[i]? = some x → ∃ c, w.cells? base (a.add (i * P.cellsOf e)) (P.cellsOf e) = some c ∧ d.K w x c ∧ wf x := by
        clear hw0 h1 hi hlm hl hz hmm h
        induction len with
        | zero => exact ⟨[], rfl, fun i x hx => by simp at hx⟩
        | succ len ih =>
          obtain ⟨l, hl, hp⟩ := ih (fun i hi => hel i (Nat.lt_succ_of_lt hi))
          obtain ⟨a', c, h1, h2, h3⟩ := hel len (Nat.lt_succ_self len)
          refine ⟨l ++ [a'], by simp [hl], fun i x hx => ?_⟩
          rcases Nat.lt_or_ge i l.length with h | h
          · rw [List.getElem?_append_left h] at hx
            exact hp i x hx
          · rw [List.getElem?_append_right h] at hx
            have hi0 : i - l.length = 0 := by
              rcases Nat.eq_zero_or_pos (i - l.length) with h0 | h0
              · exact h0
              · rw [List.getElem?_eq_none (by simp; omega)] at hx; cases hx
            rw [hi0] at hx
            simp at hx
            subst hx
            obtain rfl : i = len := by omega
            exact ⟨c, h1, h2, h3⟩
      obtain ⟨l, hll, hp⟩ := hl'
      subst hll
      refine ⟨l, ⟨some a, cap, rfl, hl, rfl, by simp only [maxLen] at hm; omega, fun _ => ⟨a, rfl, fun j p hj => ?_⟩⟩, ?_, ?_, ?_⟩
      · obtain ⟨c, h1, h2, _⟩ := hp j p hj
        obtain ⟨_, hcl, hcell⟩ := World.cells?_some h1
        refine ⟨c, by rw [hcl, he.1], h2, fun i u hu' => ?_⟩
        have hi2 : i < P.cellsOf e := by
          rw [← hcl]
          exact (List.getElem?_eq_some_iff.1 hu').1
        rw [← he.1, ← Go.Deep.add_add, hcell i hi2, hu']
      · simp only [maxLen] at hm; omega
      · rw [← hB]
        refine Nat.le_trans (Nat.mul_le_mul_right _ (show l.length ≤ l.length + (m - l.length) by omega)) ?_
        exact h1
      · intro x hx
        obtain ⟨i, hi'⟩ := List.getElem?_of_mem hx
        obtain ⟨_, _, _, h3⟩ := hp i x hi'
        exact h3⟩

/-- The fields of a struct, from the cell off on: each one's cells behind the other's. -/
def OpensF (P : Program) (fs : List Field) (off : Nat) {α : Type} (d : Kd α) (wf : α → Prop) : Prop :=
  (fs.map fun f => P.cellsOf f.type).sum = d.sz ∧ ∀ (H : Type) (enc : TypeId × Value → H) (w : World) (base : Nat) (spare : Nat → Bool) (held : Bool) (fuel : Nat) (cs : List Value) (xs : List (DataW H × List MemPlace)),
    cs.length = off + d.sz → xs.length = fs.length → (∀ (i : Nat) (f : Field), fs[i]? = some f → DataW.trod enc P w base spare held fuel f.type ((cs.drop f.offset).take (P.cellsOf f.type)) = xs[i]?) →
    (∀ n ∈ DataW.weightsEach P (fs.map (·.type)) (xs.map (·.1)), n ≤ reachBytes) → ∃ a : α, d.K w a (cs.drop off) ∧ wf a

theorem OpensF.one {P : Program} {f : Field} {off : Nat} {α : Type} {d : Kd α} {wf : α → Prop} (ho : f.offset = off) (h : Opens P f.type d wf) : OpensF P [f] off d wf := by
  refine ⟨by simp [h.1], fun H enc w base spare held fuel cs xs hl hx hf hz => ?_⟩
  match xs, hx with
  | [x], _ =>
    have h0 := hf 0 f rfl
    rw [ho, h.1, List.take_of_length_le (by rw [List.length_drop]; omega)] at h0
    exact h.2 H enc w base spare held fuel _ x h0 (fun n hn => hz n (by simp only [List.map_cons, DataW.weightsEach, List.mem_append]; exact .inl hn))

theorem OpensF.cons {P : Program} {f : Field} {fs : List Field} {off : Nat} {α β : Type} {d : Kd α} {d' : Kd β} {wf : α → Prop} {wf' : β → Prop} (ho : f.offset = off) (h : Opens P f.type d wf) (hs : OpensF P fs (off + d.sz) d' wf') :
    OpensF P (f :: fs) off (Kd.pair d d') (fun x => wf x.1 ∧ wf' x.2) := by
  refine ⟨by simp [h.1, hs.1, Kd.pair], fun H enc w base spare held fuel cs xs hl hx hf hz => ?_⟩
  match xs, hx with
  | x :: xs, hx =>
    have hsz : (Kd.pair d d').sz = d.sz + d'.sz := rfl
    have h0 := hf 0 f rfl
    rw [ho, h.1] at h0
    obtain ⟨a, hk, hw⟩ := h.2 H enc w base spare held fuel _ x h0 (fun n hn => hz n (by simp only [List.map_cons, DataW.weightsEach, List.mem_append]; exact .inl hn))
    obtain ⟨b, hk', hw'⟩ := hs.2 H enc w base spare held fuel cs xs (by omega) (by simpa using hx) (fun i g hg => hf (i + 1) g hg) (fun n hn => hz n (by simp only [List.map_cons, DataW.weightsEach, List.mem_append]; exact .inr hn))
    exact ⟨(a, b), ⟨(cs.drop off).take d.sz, cs.drop (off + d.sz), by rw [← List.drop_drop, List.take_append_drop], hk, hk'⟩, hw, hw'⟩

theorem Opens.struct {P : Program} {t : TypeId} {fs : Array Field} {α β : Type} {d : Kd α} {wf : α → Prop} (f : β → α) (g : α → β) (hfg : ∀ a, f (g a) = a) (hc : P.cellsOf t = d.sz) (hu : P.underlying t = some (.struct fs)) (h : OpensF P fs.toList 0 d wf) :
    Opens P t (Kd.iso d f) (fun x => wf (f x)) := by
  refine ⟨hc, fun H enc w base spare held fuel cs x hx hz => ?_⟩
  obtain ⟨xs, n, rfl, rfl, hl, hlen, hf⟩ := DataW.trod_struct hu hx
  obtain ⟨a, hk, hw⟩ := h.2 H enc w base spare held n cs xs (by omega) (by simpa using hlen) (fun i fl hfl => hf i fl (by simpa using hfl)) (fun q hq => hz q (by simp only [DataW.weights, hu]; exact hq))
  refine ⟨g a, ?_, by show wf (f (g a)); rw [hfg]; exact hw⟩
  show d.K w (f (g a)) cs
  rw [hfg]
  simpa using hk

/-- An argument: what its cells are, and that it meets wf. -/
theorem Opens.arg {P : Program} {t : TypeId} {α : Type} {d : Kd α} {wf : α → Prop} (ho : Opens P t d wf) {H : Type} {enc : TypeId × Value → H} {ts : List TypeId} {ds : List (DataW H)} {w : World} {base : Nat} {spare : Nat → Bool} {held : Bool} {v : Value} {x : DataW H} {ps : List MemPlace} {j : Nat}
    (hsz : (DataW.weightsEach P ts ds).all (· ≤ reachBytes) = true) (ht : ts[j]? = some t) (hd : ds[j]? = some x) (h : DataW.Trod enc P w base spare held t v x ps) : ∃ a : α, d.K w a v.cells.toList ∧ wf a := by
  obtain ⟨fuel, hf⟩ := h
  refine ho.2 H enc w base spare held fuel _ _ hf (fun n hn => ?_)
  have := List.all_eq_true.1 hsz _ (DataW.weights_mem_each ht hd n hn)
  simpa using this

theorem agg_of {P : Program} {w : World} {r : Reach} {b0 : Nat} {t : TypeId} {fs : Array Field} {v : Value} {l : List Value} (hs : P.underlying t = some (.struct fs)) (hv : Value.okWide P w r b0 t v) (h : v.cells.toList = l) : v = .agg l.toArray := by
  obtain ⟨cs, rfl, _⟩ := okWide_struct hs hv
  simp only [Value.cells] at h
  rw [← h, Array.toArray_toList]

theorem slice_of {P : Program} {w : World} {r : Reach} {b0 : Nat} {t e : TypeId} {v : Value} {u : Value} (hs : P.underlying t = some (.slice e)) (hv : Value.okWide P w r b0 t v) (h : v.cells.toList = [u]) : v = u := by
  obtain ⟨a, len, cap, rfl⟩ := okWide_slice hs hv
  simpa [Value.cells] using h

end Go.Proofs.Ytiaohbbafaaibaa.Opn

/- OWN TEXT, written by rows.py: what an argument of each parameter type of this seat's laws reads as. -/
namespace Go.Proofs.Ytiaohbbafaaibaa.P
open Go.RowKit Go.Proofs.YtiaohbbafaaibaaW.PrintWords Go.Proofs.YtiaohbbafaaibaaW.PrintLast Go.Proofs.YtiaohbbafaaibaaW.PrintMore Go.Proofs.Ytiaohbbafaaibaa.Opn
set_option linter.unusedVariables false
set_option linter.unusedSimpArgs false
theorem opn3 : Opens Try.prog 3 (Kd.int .i64) (fun n => (Lit.int .i64 n).wf = true) := Opens.int (by kernel_rfl) Try.underlying3
theorem opn23 : Opens Try.prog 23 (Kd.int .i8) (fun n => (Lit.int .i8 n).wf = true) := Opens.int (by kernel_rfl) Try.underlying23
def wf32 (x : S32) : Prop := ((Lit.int .i64 x.f0).wf = true) ∧ ((Lit.int .i8 x.f1).wf = true) ∧ ((Lit.int .i8 x.f2).wf = true)
set_option maxRecDepth 100000 in
theorem opn32 : Opens Try.prog 32 k32 wf32 := by
  refine Opens.struct (d := (Kd.pair (Kd.int .i64) (Kd.pair (Kd.int .i8) (Kd.int .i8)))) (wf := (fun p : (Int) × (Int) × (Int) => ((Lit.int .i64 p.1).wf = true) ∧ ((Lit.int .i8 p.2.1).wf = true) ∧ ((Lit.int .i8 p.2.2).wf = true))) (fun x : S32 => (x.f0, x.f1, x.f2)) (fun p => ⟨p.1, p.2.1, p.2.2⟩) (fun _ => rfl) (by kernel_rfl) Try.underlying32 ?_
  refine OpensF.cons (d := (Kd.int .i64)) (d' := (Kd.pair (Kd.int .i8) (Kd.int .i8))) (wf := (fun p : Int => (Lit.int .i64 p).wf = true)) (wf' := (fun p : (Int) × (Int) => ((Lit.int .i8 p.1).wf = true) ∧ ((Lit.int .i8 p.2).wf = true))) rfl opn3 ?_
  refine OpensF.cons (d := (Kd.int .i8)) (d' := (Kd.int .i8)) (wf := (fun p : Int => (Lit.int .i8 p).wf = true)) (wf' := (fun p : (Int) => ((Lit.int .i8 p).wf = true))) rfl opn23 ?_
  exact OpensF.one rfl opn23
theorem opn22 : Opens Try.prog 22 (Kd.slice 32 k32) (fun l => l.length ≤ 9223372036854775807 ∧ l.length * 16 ≤ 140737488351232 ∧ ∀ y ∈ l, wf32 y) := Opens.slice (by kernel_rfl) Try.underlying22 (by kernel_rfl) opn32
theorem opn34 : Opens Try.prog 34 (Kd.int .u32) (fun n => (Lit.int .u32 n).wf = true) := Opens.int (by kernel_rfl) Try.underlying34
theorem opn2 : Opens Try.prog 2 (Kd.int .i64) (fun n => (Lit.int .i64 n).wf = true) := Opens.int (by kernel_rfl) Try.underlying2
def wf36 (x : S36) : Prop := ((Lit.int .i8 x.f0).wf = true) ∧ ((Lit.int .i8 x.f1).wf = true) ∧ ((Lit.int .i8 x.f2).wf = true) ∧ ((Lit.int .i8 x.f3).wf = true) ∧ ((Lit.int .i64 x.f4).wf = true)
set_option maxRecDepth 100000 in
theorem opn36 : Opens Try.prog 36 k36 wf36 := by
  refine Opens.struct (d := (Kd.pair (Kd.int .i8) (Kd.pair (Kd.int .i8) (Kd.pair (Kd.int .i8) (Kd.pair (Kd.int .i8) (Kd.int .i64)))))) (wf := (fun p : (Int) × (Int) × (Int) × (Int) × (Int) => ((Lit.int .i8 p.1).wf = true) ∧ ((Lit.int .i8 p.2.1).wf = true) ∧ ((Lit.int .i8 p.2.2.1).wf = true) ∧ ((Lit.int .i8 p.2.2.2.1).wf = true) ∧ ((Lit.int .i64 p.2.2.2.2).wf = true))) (fun x : S36 => (x.f0, x.f1, x.f2, x.f3, x.f4)) (fun p => ⟨p.1, p.2.1, p.2.2.1, p.2.2.2.1, p.2.2.2.2⟩) (fun _ => rfl) (by kernel_rfl) Try.underlying36 ?_
  refine OpensF.cons (d := (Kd.int .i8)) (d' := (Kd.pair (Kd.int .i8) (Kd.pair (Kd.int .i8) (Kd.pair (Kd.int .i8) (Kd.int .i64))))) (wf := (fun p : Int => (Lit.int .i8 p).wf = true)) (wf' := (fun p : (Int) × (Int) × (Int) × (Int) => ((Lit.int .i8 p.1).wf = true) ∧ ((Lit.int .i8 p.2.1).wf = true) ∧ ((Lit.int .i8 p.2.2.1).wf = true) ∧ ((Lit.int .i64 p.2.2.2).wf = true))) rfl opn23 ?_
  refine OpensF.cons (d := (Kd.int .i8)) (d' := (Kd.pair (Kd.int .i8) (Kd.pair (Kd.int .i8) (Kd.int .i64)))) (wf := (fun p : Int => (Lit.int .i8 p).wf = true)) (wf' := (fun p : (Int) × (Int) × (Int) => ((Lit.int .i8 p.1).wf = true) ∧ ((Lit.int .i8 p.2.1).wf = true) ∧ ((Lit.int .i64 p.2.2).wf = true))) rfl opn23 ?_
  refine OpensF.cons (d := (Kd.int .i8)) (d' := (Kd.pair (Kd.int .i8) (Kd.int .i64))) (wf := (fun p : Int => (Lit.int .i8 p).wf = true)) (wf' := (fun p : (Int) × (Int) => ((Lit.int .i8 p.1).wf = true) ∧ ((Lit.int .i64 p.2).wf = true))) rfl opn23 ?_
  refine OpensF.cons (d := (Kd.int .i8)) (d' := (Kd.int .i64)) (wf := (fun p : Int => (Lit.int .i8 p).wf = true)) (wf' := (fun p : (Int) => ((Lit.int .i64 p).wf = true))) rfl opn23 ?_
  exact OpensF.one rfl opn2
theorem opn9 : Opens Try.prog 9 Kd.string (fun s => s.size ≤ 140737488351232) := Opens.string (by kernel_rfl) Try.underlying9
theorem opn57 : Opens Try.prog 57 (Kd.slice 34 (Kd.int .u32)) (fun l => l.length ≤ 9223372036854775807 ∧ l.length * 4 ≤ 140737488351232 ∧ ∀ y ∈ l, (Lit.int .u32 y).wf = true) := Opens.slice (by kernel_rfl) Try.underlying57 (by kernel_rfl) opn34
def wf84 (x : S84) : Prop := ((Lit.int .i64 x.f0).wf = true) ∧ ((Lit.int .i64 x.f1).wf = true)
set_option maxRecDepth 100000 in
theorem opn84 : Opens Try.prog 84 k84 wf84 := by
  refine Opens.struct (d := (Kd.pair (Kd.int .i64) (Kd.int .i64))) (wf := (fun p : (Int) × (Int) => ((Lit.int .i64 p.1).wf = true) ∧ ((Lit.int .i64 p.2).wf = true))) (fun x : S84 => (x.f0, x.f1)) (fun p => ⟨p.1, p.2⟩) (fun _ => rfl) (by kernel_rfl) Try.underlying84 ?_
  refine OpensF.cons (d := (Kd.int .i64)) (d' := (Kd.int .i64)) (wf := (fun p : Int => (Lit.int .i64 p).wf = true)) (wf' := (fun p : (Int) => ((Lit.int .i64 p).wf = true))) rfl opn3 ?_
  exact OpensF.one rfl opn3
theorem opn62 : Opens Try.prog 62 (Kd.slice 84 k84) (fun l => l.length ≤ 9223372036854775807 ∧ l.length * 16 ≤ 140737488351232 ∧ ∀ y ∈ l, wf84 y) := Opens.slice (by kernel_rfl) Try.underlying62 (by kernel_rfl) opn84
theorem opn67 : Opens Try.prog 67 (Kd.slice 2 (Kd.int .i64)) (fun l => l.length ≤ 9223372036854775807 ∧ l.length * 8 ≤ 140737488351232 ∧ ∀ y ∈ l, (Lit.int .i64 y).wf = true) := Opens.slice (by kernel_rfl) Try.underlying67 (by kernel_rfl) opn2
def wf69 (x : S69) : Prop := (x.f0.length ≤ 9223372036854775807 ∧ x.f0.length * 4 ≤ 140737488351232 ∧ ∀ y ∈ x.f0, (Lit.int .u32 y).wf = true) ∧ ((Lit.int .i64 x.f1).wf = true) ∧ (x.f2.length ≤ 9223372036854775807 ∧ x.f2.length * 8 ≤ 140737488351232 ∧ ∀ y ∈ x.f2, (Lit.int .i64 y).wf = true)
set_option maxRecDepth 100000 in
theorem opn69 : Opens Try.prog 69 k69 wf69 := by
  refine Opens.struct (d := (Kd.pair (Kd.slice 34 (Kd.int .u32)) (Kd.pair (Kd.int .i64) (Kd.slice 2 (Kd.int .i64))))) (wf := (fun p : (List Int) × (Int) × (List Int) => (p.1.length ≤ 9223372036854775807 ∧ p.1.length * 4 ≤ 140737488351232 ∧ ∀ y ∈ p.1, (Lit.int .u32 y).wf = true) ∧ ((Lit.int .i64 p.2.1).wf = true) ∧ (p.2.2.length ≤ 9223372036854775807 ∧ p.2.2.length * 8 ≤ 140737488351232 ∧ ∀ y ∈ p.2.2, (Lit.int .i64 y).wf = true))) (fun x : S69 => (x.f0, x.f1, x.f2)) (fun p => ⟨p.1, p.2.1, p.2.2⟩) (fun _ => rfl) (by kernel_rfl) Try.underlying69 ?_
  refine OpensF.cons (d := (Kd.slice 34 (Kd.int .u32))) (d' := (Kd.pair (Kd.int .i64) (Kd.slice 2 (Kd.int .i64)))) (wf := (fun p : List Int => p.length ≤ 9223372036854775807 ∧ p.length * 4 ≤ 140737488351232 ∧ ∀ y ∈ p, (Lit.int .u32 y).wf = true)) (wf' := (fun p : (Int) × (List Int) => ((Lit.int .i64 p.1).wf = true) ∧ (p.2.length ≤ 9223372036854775807 ∧ p.2.length * 8 ≤ 140737488351232 ∧ ∀ y ∈ p.2, (Lit.int .i64 y).wf = true))) rfl opn57 ?_
  refine OpensF.cons (d := (Kd.int .i64)) (d' := (Kd.slice 2 (Kd.int .i64))) (wf := (fun p : Int => (Lit.int .i64 p).wf = true)) (wf' := (fun p : (List Int) => (p.length ≤ 9223372036854775807 ∧ p.length * 8 ≤ 140737488351232 ∧ ∀ y ∈ p, (Lit.int .i64 y).wf = true))) rfl opn3 ?_
  exact OpensF.one rfl opn67
def wf120 (x : S120) : Prop := (x.f0.size ≤ 140737488351232) ∧ ((Lit.int .i8 x.f1).wf = true) ∧ ((Lit.int .i64 x.f2).wf = true)
set_option maxRecDepth 100000 in
theorem opn120 : Opens Try.prog 120 k120 wf120 := by
  refine Opens.struct (d := (Kd.pair Kd.string (Kd.pair (Kd.int .i8) (Kd.int .i64)))) (wf := (fun p : (ByteArray) × (Int) × (Int) => (p.1.size ≤ 140737488351232) ∧ ((Lit.int .i8 p.2.1).wf = true) ∧ ((Lit.int .i64 p.2.2).wf = true))) (fun x : S120 => (x.f0, x.f1, x.f2)) (fun p => ⟨p.1, p.2.1, p.2.2⟩) (fun _ => rfl) (by kernel_rfl) Try.underlying120 ?_
  refine OpensF.cons (d := Kd.string) (d' := (Kd.pair (Kd.int .i8) (Kd.int .i64))) (wf := (fun p : ByteArray => p.size ≤ 140737488351232)) (wf' := (fun p : (Int) × (Int) => ((Lit.int .i8 p.1).wf = true) ∧ ((Lit.int .i64 p.2).wf = true))) rfl opn9 ?_
  refine OpensF.cons (d := (Kd.int .i8)) (d' := (Kd.int .i64)) (wf := (fun p : Int => (Lit.int .i8 p).wf = true)) (wf' := (fun p : (Int) => ((Lit.int .i64 p).wf = true))) rfl opn23 ?_
  exact OpensF.one rfl opn3
theorem opn85 : Opens Try.prog 85 (Kd.slice 120 k120) (fun l => l.length ≤ 9223372036854775807 ∧ l.length * 32 ≤ 140737488351232 ∧ ∀ y ∈ l, wf120 y) := Opens.slice (by kernel_rfl) Try.underlying85 (by kernel_rfl) opn120
def wf130 (x : S130) : Prop := ((Lit.int .i64 x.f0).wf = true) ∧ ((Lit.int .i64 x.f1).wf = true)
set_option maxRecDepth 100000 in
theorem opn130 : Opens Try.prog 130 k130 wf130 := by
  refine Opens.struct (d := (Kd.pair (Kd.int .i64) (Kd.int .i64))) (wf := (fun p : (Int) × (Int) => ((Lit.int .i64 p.1).wf = true) ∧ ((Lit.int .i64 p.2).wf = true))) (fun x : S130 => (x.f0, x.f1)) (fun p => ⟨p.1, p.2⟩) (fun _ => rfl) (by kernel_rfl) Try.underlying130 ?_
  refine OpensF.cons (d := (Kd.int .i64)) (d' := (Kd.int .i64)) (wf := (fun p : Int => (Lit.int .i64 p).wf = true)) (wf' := (fun p : (Int) => ((Lit.int .i64 p).wf = true))) rfl opn3 ?_
  exact OpensF.one rfl opn3
theorem opn86 : Opens Try.prog 86 (Kd.slice 130 k130) (fun l => l.length ≤ 9223372036854775807 ∧ l.length * 16 ≤ 140737488351232 ∧ ∀ y ∈ l, wf130 y) := Opens.slice (by kernel_rfl) Try.underlying86 (by kernel_rfl) opn130
def wf88 (x : S88) : Prop := (x.f0.size ≤ 140737488351232) ∧ (x.f1.length ≤ 9223372036854775807 ∧ x.f1.length * 4 ≤ 140737488351232 ∧ ∀ y ∈ x.f1, (Lit.int .u32 y).wf = true) ∧ ((Lit.int .i64 x.f2).wf = true) ∧ (x.f3.length ≤ 9223372036854775807 ∧ x.f3.length * 8 ≤ 140737488351232 ∧ ∀ y ∈ x.f3, (Lit.int .i64 y).wf = true) ∧ (x.f4.length ≤ 9223372036854775807 ∧ x.f4.length * 32 ≤ 140737488351232 ∧ ∀ y ∈ x.f4, wf120 y) ∧ (x.f5.length ≤ 9223372036854775807 ∧ x.f5.length * 16 ≤ 140737488351232 ∧ ∀ y ∈ x.f5, wf130 y)
set_option maxRecDepth 100000 in
theorem opn88 : Opens Try.prog 88 k88 wf88 := by
  refine Opens.struct (d := (Kd.pair Kd.string (Kd.pair (Kd.slice 34 (Kd.int .u32)) (Kd.pair (Kd.int .i64) (Kd.pair (Kd.slice 2 (Kd.int .i64)) (Kd.pair (Kd.slice 120 k120) (Kd.slice 130 k130))))))) (wf := (fun p : (ByteArray) × (List Int) × (Int) × (List Int) × (List (S120)) × (List (S130)) => (p.1.size ≤ 140737488351232) ∧ (p.2.1.length ≤ 9223372036854775807 ∧ p.2.1.length * 4 ≤ 140737488351232 ∧ ∀ y ∈ p.2.1, (Lit.int .u32 y).wf = true) ∧ ((Lit.int .i64 p.2.2.1).wf = true) ∧ (p.2.2.2.1.length ≤ 9223372036854775807 ∧ p.2.2.2.1.length * 8 ≤ 140737488351232 ∧ ∀ y ∈ p.2.2.2.1, (Lit.int .i64 y).wf = true) ∧ (p.2.2.2.2.1.length ≤ 9223372036854775807 ∧ p.2.2.2.2.1.length * 32 ≤ 140737488351232 ∧ ∀ y ∈ p.2.2.2.2.1, wf120 y) ∧ (p.2.2.2.2.2.length ≤ 9223372036854775807 ∧ p.2.2.2.2.2.length * 16 ≤ 140737488351232 ∧ ∀ y ∈ p.2.2.2.2.2, wf130 y))) (fun x : S88 => (x.f0, x.f1, x.f2, x.f3, x.f4, x.f5)) (fun p => ⟨p.1, p.2.1, p.2.2.1, p.2.2.2.1, p.2.2.2.2.1, p.2.2.2.2.2⟩) (fun _ => rfl) (by kernel_rfl) Try.underlying88 ?_
  refine OpensF.cons (d := Kd.string) (d' := (Kd.pair (Kd.slice 34 (Kd.int .u32)) (Kd.pair (Kd.int .i64) (Kd.pair (Kd.slice 2 (Kd.int .i64)) (Kd.pair (Kd.slice 120 k120) (Kd.slice 130 k130)))))) (wf := (fun p : ByteArray => p.size ≤ 140737488351232)) (wf' := (fun p : (List Int) × (Int) × (List Int) × (List (S120)) × (List (S130)) => (p.1.length ≤ 9223372036854775807 ∧ p.1.length * 4 ≤ 140737488351232 ∧ ∀ y ∈ p.1, (Lit.int .u32 y).wf = true) ∧ ((Lit.int .i64 p.2.1).wf = true) ∧ (p.2.2.1.length ≤ 9223372036854775807 ∧ p.2.2.1.length * 8 ≤ 140737488351232 ∧ ∀ y ∈ p.2.2.1, (Lit.int .i64 y).wf = true) ∧ (p.2.2.2.1.length ≤ 9223372036854775807 ∧ p.2.2.2.1.length * 32 ≤ 140737488351232 ∧ ∀ y ∈ p.2.2.2.1, wf120 y) ∧ (p.2.2.2.2.length ≤ 9223372036854775807 ∧ p.2.2.2.2.length * 16 ≤ 140737488351232 ∧ ∀ y ∈ p.2.2.2.2, wf130 y))) rfl opn9 ?_
  refine OpensF.cons (d := (Kd.slice 34 (Kd.int .u32))) (d' := (Kd.pair (Kd.int .i64) (Kd.pair (Kd.slice 2 (Kd.int .i64)) (Kd.pair (Kd.slice 120 k120) (Kd.slice 130 k130))))) (wf := (fun p : List Int => p.length ≤ 9223372036854775807 ∧ p.length * 4 ≤ 140737488351232 ∧ ∀ y ∈ p, (Lit.int .u32 y).wf = true)) (wf' := (fun p : (Int) × (List Int) × (List (S120)) × (List (S130)) => ((Lit.int .i64 p.1).wf = true) ∧ (p.2.1.length ≤ 9223372036854775807 ∧ p.2.1.length * 8 ≤ 140737488351232 ∧ ∀ y ∈ p.2.1, (Lit.int .i64 y).wf = true) ∧ (p.2.2.1.length ≤ 9223372036854775807 ∧ p.2.2.1.length * 32 ≤ 140737488351232 ∧ ∀ y ∈ p.2.2.1, wf120 y) ∧ (p.2.2.2.length ≤ 9223372036854775807 ∧ p.2.2.2.length * 16 ≤ 140737488351232 ∧ ∀ y ∈ p.2.2.2, wf130 y))) rfl opn57 ?_
  refine OpensF.cons (d := (Kd.int .i64)) (d' := (Kd.pair (Kd.slice 2 (Kd.int .i64)) (Kd.pair (Kd.slice 120 k120) (Kd.slice 130 k130)))) (wf := (fun p : Int => (Lit.int .i64 p).wf = true)) (wf' := (fun p : (List Int) × (List (S120)) × (List (S130)) => (p.1.length ≤ 9223372036854775807 ∧ p.1.length * 8 ≤ 140737488351232 ∧ ∀ y ∈ p.1, (Lit.int .i64 y).wf = true) ∧ (p.2.1.length ≤ 9223372036854775807 ∧ p.2.1.length * 32 ≤ 140737488351232 ∧ ∀ y ∈ p.2.1, wf120 y) ∧ (p.2.2.length ≤ 9223372036854775807 ∧ p.2.2.length * 16 ≤ 140737488351232 ∧ ∀ y ∈ p.2.2, wf130 y))) rfl opn3 ?_
  refine OpensF.cons (d := (Kd.slice 2 (Kd.int .i64))) (d' := (Kd.pair (Kd.slice 120 k120) (Kd.slice 130 k130))) (wf := (fun p : List Int => p.length ≤ 9223372036854775807 ∧ p.length * 8 ≤ 140737488351232 ∧ ∀ y ∈ p, (Lit.int .i64 y).wf = true)) (wf' := (fun p : (List (S120)) × (List (S130)) => (p.1.length ≤ 9223372036854775807 ∧ p.1.length * 32 ≤ 140737488351232 ∧ ∀ y ∈ p.1, wf120 y) ∧ (p.2.length ≤ 9223372036854775807 ∧ p.2.length * 16 ≤ 140737488351232 ∧ ∀ y ∈ p.2, wf130 y))) rfl opn67 ?_
  refine OpensF.cons (d := (Kd.slice 120 k120)) (d' := (Kd.slice 130 k130)) (wf := (fun p : List (S120) => p.length ≤ 9223372036854775807 ∧ p.length * 32 ≤ 140737488351232 ∧ ∀ y ∈ p, wf120 y)) (wf' := (fun p : (List (S130)) => (p.length ≤ 9223372036854775807 ∧ p.length * 16 ≤ 140737488351232 ∧ ∀ y ∈ p, wf130 y))) rfl opn85 ?_
  exact OpensF.one rfl opn86
end Go.Proofs.Ytiaohbbafaaibaa.P

/- OWN TEXT, written by rows.py: the pure statement of the law BlockOf. -/
namespace Go.Proofs.Ytiaohbbafaaibaa.P
open Go.RowKit Go.Proofs.YtiaohbbafaaibaaW.PrintWords Go.Proofs.YtiaohbbafaaibaaW.PrintLast Go.Proofs.YtiaohbbafaaibaaW.PrintMore Go.Proofs.Ytiaohbbafaaibaa.Opn
set_option linter.unusedVariables false
set_option linter.unusedSimpArgs false
def pleatlaw11_BlockOf.Pure : Prop := ∀ (x0 : List (S84)) (x1 : Int), (x0.length ≤ 9223372036854775807 ∧ x0.length * 16 ≤ 140737488351232 ∧ ∀ y ∈ x0, wf84 y) → ((Lit.int .i64 x1).wf = true) → ∃ k, pleatlaw11_BlockOf.f k x0 x1 = some true
end Go.Proofs.Ytiaohbbafaaibaa.P

/- OWN TEXT: blocks over plain lists: which block has a place, comparing with oneself, the small known run. -/
set_option linter.unusedVariables false
set_option linter.unusedSimpArgs false
namespace Go.Proofs.Ytiaohbbafaaibaa.P
open Go.RowKit Go.Proofs.YtiaohbbafaaibaaW.PrintWords Go.Proofs.YtiaohbbafaaibaaW.PrintLast Go.Proofs.YtiaohbbafaaibaaW.PrintMore

theorem Ev.count {α : Type} {g : Nat → Int → Option α} {r : α} {n : Nat} (step : ∀ i : Nat, i < n → Ev (fun k => g k ((i + 1 : Nat) : Int)) r → Ev (fun k => g k (i : Int)) r) (last : Ev (fun k => g k (n : Int)) r) : ∀ i : Nat, i ≤ n → Ev (fun k => g k (i : Int)) r := by
  have : ∀ d i : Nat, i + d = n → Ev (fun k => g k (i : Int)) r := by
    intro d
    induction d with
    | zero => intro i hi; rw [show i = n by omega]; exact last
    | succ d ih => intro i hi; exact step i (by omega) (ih (i + 1) (by omega))
  intro i hi
  exact this (n - i) i (by omega)
theorem wrap_succ {i n : Nat} (hi : i < n) (hn : n ≤ 1000000000) : wrap64 ((i : Int) + 1) = ((i + 1 : Nat) : Int) := by rw [wrap64_id (by omega) (by omega)]; rfl
abbrev Blk := S84
theorem rdB_get {l : List Blk} {i : Nat} (h : i < l.length) : rd_T84 l (i : Int) = l[i] := by
  unfold rd_T84
  simp [List.getD_eq_getElem?_getD, List.getElem?_eq_getElem h]
def ofS (p : Int) : List Blk → Nat → Int
  | [], _ => -1
  | b :: r, i => if b.f0 ≤ p then (if p < b.f1 then (i : Int) else ofS p r (i + 1)) else ofS p r (i + 1)
theorem of1 (l : List Blk) (hl : l.length ≤ 1000000) (p : Int) : Ev (fun k => block_Of.f k l p) (ofS p l 0) := by
  unfold block_Of.f
  have : ∀ d i : Nat, i + d = l.length → Ev (fun k => block_Of.l0 k p l (l.length : Int) (i : Int)) (ofS p (l.drop i) i) := by
    intro d
    induction d with
    | zero =>
      intro i hi
      rw [List.drop_eq_nil_of_le (by omega)]
      exact Ev.succ (Ev.iteF (by omega) (Ev.val rfl))
    | succ d ih =>
      intro i hi
      have hlt : i < l.length := by omega
      have hw := wrap_succ hlt (by omega)
      have IH := ih (i + 1) (by omega)
      rw [drop_get hlt]
      unfold ofS
      refine Ev.succ (Ev.iteT (by omega) (Ev.iteT (by omega) (Ev.iteT (by omega) ?_)))
      simp only [rdB_get hlt, hw]
      refine Ev.ite2 (fun h => ?_) (fun h => ?_)
      · rw [if_pos h]
        refine Ev.ite2 (fun h1 => Ev.val (by rw [if_pos h1])) (fun h1 => ?_)
        rw [if_neg h1]
        exact IH
      · rw [if_neg h]
        exact IH
  have := this l.length 0 (by omega)
  rw [List.drop_zero] at this
  exact this
theorem of2 (l : List Blk) (hl : l.length ≤ 1000000) (p : Int) : Ev (fun k => pleatref11_Of.f k l p) (ofS p l 0) := by
  unfold pleatref11_Of.f
  have : ∀ d i : Nat, i + d = l.length → Ev (fun k => pleatref11_Of.l0 k l p (i : Int)) (ofS p (l.drop i) i) := by
    intro d
    induction d with
    | zero =>
      intro i hi
      rw [List.drop_eq_nil_of_le (by omega)]
      exact Ev.succ (Ev.iteF (by omega) (Ev.val rfl))
    | succ d ih =>
      intro i hi
      have hlt : i < l.length := by omega
      have hw := wrap_succ hlt (by omega)
      have IH := ih (i + 1) (by omega)
      rw [drop_get hlt]
      unfold ofS
      refine Ev.succ (Ev.iteT (by omega) (Ev.iteT (by omega) ?_))
      simp only [rdB_get hlt, hw]
      refine Ev.ite2 (fun h => ?_) (fun h => ?_)
      · rw [if_pos h]
        refine Ev.ite2 (fun h1 => Ev.val (by rw [if_pos h1])) (fun h1 => ?_)
        rw [if_neg h1]
        exact IH
      · rw [if_neg h]
        exact IH
  have := this l.length 0 (by omega)
  rw [List.drop_zero] at this
  exact this
theorem eqBlocks (l : List Blk) (hl : l.length ≤ 1000000) : Ev (fun k => pleatref00_EqBlocks.f k l l) true := by
  unfold pleatref00_EqBlocks.f
  refine Ev.iteT rfl (Ev.count (g := fun k i => pleatref00_EqBlocks.l0 k l l i) (n := l.length) (fun i hi IH => ?_) ?_ 0 (by omega))
  · refine Ev.succ (Ev.iteT (by omega) (Ev.iteT (by omega) (Ev.iteT (by omega) (Ev.iteF (by simp) ?_))))
    rw [wrap_succ hi (by omega)]
    exact IH
  · exact Ev.succ (Ev.iteF (by omega) (Ev.val rfl))
theorem works11 : pleatlaw11_works.f = some true := by decide +kernel

end Go.Proofs.Ytiaohbbafaaibaa.P

/- The statement BlockOf: of every input its law's Go function answers true and leaves its arguments as they were; no further condition. This text: the law over numbers and lists, no memory. -/
namespace Go.Proofs.Ytiaohbbafaaibaa.P
open Go.RowKit Go.Proofs.YtiaohbbafaaibaaW.PrintWords Go.Proofs.YtiaohbbafaaibaaW.PrintLast Go.Proofs.YtiaohbbafaaibaaW.PrintMore Go.Proofs.Ytiaohbbafaaibaa.Opn
set_option linter.unusedVariables false
set_option linter.unusedSimpArgs false

theorem pureBlockOf : pleatlaw11_BlockOf.Pure := by
  intro l p hl hp
  refine Ev.rounds (g := fun k => pleatlaw11_BlockOf.f k l p) ?_
  unfold pleatlaw11_BlockOf.f
  refine Ev.ite2 (fun h => Ev.bind0 works11 (Ev.val rfl)) (fun h => ?_)
  have hc : pleatref00_CopyBlocks.f l = some l := by
    unfold pleatref00_CopyBlocks.f
    rw [if_pos (by simp; omega)]
    rfl
  refine Ev.bind0 hc (Ev.bind (of1 l (by omega) p) (Ev.bind (of2 l (by omega) p) (Ev.iteT rfl (Ev.bind (eqBlocks l (by omega)) (Ev.iteT rfl (Ev.bind0 works11 (Ev.val rfl)))))))

end Go.Proofs.Ytiaohbbafaaibaa.P
