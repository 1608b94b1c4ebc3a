/- OWN TEXT and printed parts of this claim, laid together: Opn, Opns, SayObjectTells, ObjL, ObjM, ObjAt, ObjW, PureObjectTells. -/
import Derived.Test.YtiaohbbafaaibaaZtWWords
import Derived.SizedLaws
import Derived.Deep.Slices
import Derived.Deep.Fields
import Derived.ChangeSame
import Derived.OpenShut
import Derived.Test.YtiaohbbafaaibaaZtM0
import Derived.Test.YtiaohbbafaaibaaZtM14
import Derived.Test.YtiaohbbafaaibaaZtM6
import Derived.Test.YtiaohbbafaaibaaZtM7
import Derived.Test.YtiaohbbafaaibaaZtM8
import Derived.Test.YtiaohbbafaaibaaZtM9
import Derived.Test.YtiaohbbafaaibaaZtM10
import Derived.Test.YtiaohbbafaaibaaZtM11
import Derived.Test.YtiaohbbafaaibaaZtM5
import Derived.Test.YtiaohbbafaaibaaZtM12
import Derived.Test.YtiaohbbafaaibaaZtM13
/- OWN TEXT: an argument of whatever plain type (whole numbers, bools, strings, slices, structs of these), read as a value of the print's own kinds. -/
set_option linter.unusedVariables false
set_option linter.unusedSimpArgs false
namespace Go.Proofs.Ytiaohbbafaaibaa.Opn
open Go.ChangeShapes Go.WideShapes Go.Deep Go.RowKit Go.Proofs.YtiaohbbafaaibaaW.PrintWords

/-- Whatever reads as data of type t is a value of kind d, and meets wf. -/
def Opens (P : Program) (t : TypeId) {α : Type} (d : Kd α) (wf : α → Prop) : Prop :=
  P.cellsOf t = d.sz ∧ ∀ (H : Type) (enc : TypeId × Value → H) (w : World) (base : Nat) (spare : Nat → Bool) (held : Bool) (fuel : Nat) (cs : List Value) (x : DataW H × List MemPlace),
    DataW.trod enc P w base spare held fuel t cs = some x → (∀ n ∈ x.1.weights P t, n ≤ reachBytes) → ∃ a : α, d.K w a cs ∧ wf a

theorem Opens.int {P : Program} {t : TypeId} {k : IntKind} (hc : P.cellsOf t = 1) (hu : P.underlying t = some (.int k)) : Opens P t (Kd.int k) (fun n => (Lit.int k n).wf = true) :=
  ⟨hc, fun H enc w base spare held fuel cs x h _ => by
    obtain ⟨n, rfl, rfl, hw⟩ := DataW.trod_int hu h
    exact ⟨n, rfl, hw⟩⟩
theorem Opens.bool {P : Program} {t : TypeId} (hc : P.cellsOf t = 1) (hu : P.underlying t = some .bool) : Opens P t Kd.bool (fun _ => True) :=
  ⟨hc, fun H enc w base spare held fuel cs x h _ => by
    obtain ⟨b, rfl, rfl⟩ := DataW.trod_bool hu h
    exact ⟨b, rfl, trivial⟩⟩
theorem Opens.string {P : Program} {t : TypeId} (hc : P.cellsOf t = 1) (hu : P.underlying t = some .string) : Opens P t Kd.string (fun s => s.size ≤ 140737488351232) :=
  ⟨hc, fun H enc w base spare held fuel cs x h hz => by
    obtain ⟨s, rfl, rfl, _⟩ := DataW.trod_string hu h
    have := hz s.data.toList.length (by simp [DataW.weights])
    rw [Array.length_toList] at this
    exact ⟨s, rfl, this⟩⟩

theorem weightsAll_mem {H : Type} {P : Program} {e : TypeId} : ∀ {l : List (DataW H)} {d : DataW H}, d ∈ l → ∀ n ∈ d.weights P e, n ∈ DataW.weightsAll P e l
  | d0 :: r, d, hd, n, hn => by
    simp only [DataW.weightsAll, List.mem_append]
    rcases List.mem_cons.1 hd with rfl | hd
    · exact .inl hn
    · exact .inr (weightsAll_mem hd n hn)

theorem Opens.slice {P : Program} {t e : TypeId} {α : Type} {d : Kd α} {wf : α → Prop} {B : Nat} (hc : P.cellsOf t = 1) (hu : P.underlying t = some (.slice e)) (hB : P.bytesOf e = B) (he : Opens P e d wf) :
    Opens P t (Kd.slice e d) (fun l => l.length ≤ 9223372036854775807 ∧ l.length * B ≤ 140737488351232 ∧ ∀ x ∈ l, wf x) :=
  ⟨hc, fun H enc w base spare held fuel cs x h hz => by
    rcases open_slice hu h with ⟨rfl, rfl⟩ | ⟨a, len, cap, m, n, D, Pl, rfl, hb, hl, hm, hmm, rfl, hi⟩
    · exact ⟨[], ⟨none, 0, rfl, Nat.le_refl _, rfl, by simp, fun h => absurd h (Nat.lt_irrefl 0)⟩, by simp, by simp, fun x hx => by cases hx⟩
    · have hlm : len ≤ m := by rw [hmm]; split <;> omega
      have hw0 : ∀ n ∈ (DataW.slice ((List.range len).map D) ((List.range (m - len)).map fun j => D (len + j))).weights P t, n ≤ reachBytes := hz
      have h1 : (len + (m - len)) * P.bytesOf e ≤ reachBytes := by
        have := hw0 _ (by simp only [DataW.weights, hu]; exact List.mem_cons_self)
        simpa using this
      have hel : ∀ i, i < len → ∃ (a' : α) (c : List Value), w.cells? base (a.add (i * P.cellsOf e)) (P.cellsOf e) = some c ∧ d.K w a' c ∧ wf a' := fun i hi' => by
        obtain ⟨c, hcc, ht⟩ := hi i (Nat.lt_of_lt_of_le hi' hlm)
        obtain ⟨a', hk, hwf⟩ := he.2 H enc w base spare held n c _ ht (fun q hq => hw0 q (by
          simp only [DataW.weights, hu]
          exact List.mem_cons_of_mem _ (List.mem_append_left _ (weightsAll_mem (List.mem_map.2 ⟨i, List.mem_range.2 hi', rfl⟩) q hq))))
        exact ⟨a', c, hcc, hk, hwf⟩
      have hl' : ∃ l : List α, l.length = len ∧ ∀ i x, l[i]? = some x → ∃ c, w.cells? base (a.add (i * P.cellsOf e)) (P.cellsOf e) = some c ∧ d.K w x c ∧ wf x := by
        clear hw0 h1 hi hlm hl hz hmm h
        induction len with
        | zero => exact ⟨[], rfl, fun i x hx => by simp at hx⟩
        | succ len ih =>
          obtain ⟨l, hl, hp⟩ := ih (fun i hi => hel i (Nat.lt_succ_of_lt hi))
          obtain ⟨a', c, h1, h2, h3⟩ := hel len (Nat.lt_succ_self len)
          refine ⟨l ++ [a'], by simp [hl], fun i x hx => ?_⟩
          rcases Nat.lt_or_ge i l.length with h | h
          · rw [List.getElem?_append_left h] at hx
            exact hp i x hx
          · rw [List.getElem?_append_right h] at hx
            have hi0 : i - l.length = 0 := by
              rcases Nat.eq_zero_or_pos (i - l.length) with h0 | h0
              · exact h0
              · rw [List.getElem?_eq_none (by simp; omega)] at hx; cases hx
            rw [hi0] at hx
            simp at hx
            subst hx
            obtain rfl : i = len := by omega
            exact ⟨c, h1, h2, h3⟩
      obtain ⟨l, hll, hp⟩ := hl'
      subst hll
      refine ⟨l, ⟨some a, cap, rfl, hl, rfl, by simp only [maxLen] at hm; omega, fun _ => ⟨a, rfl, fun j p hj => ?_⟩⟩, ?_, ?_, ?_⟩
      · obtain ⟨c, h1, h2, _⟩ := hp j p hj
        obtain ⟨_, hcl, hcell⟩ := World.cells?_some h1
        refine ⟨c, by rw [hcl, he.1], h2, fun i u hu' => ?_⟩
        have hi2 : i < P.cellsOf e := by
          rw [← hcl]
          exact (List.getElem?_eq_some_iff.1 hu').1
        rw [← he.1, ← Go.Deep.add_add, hcell i hi2, hu']
      · simp only [maxLen] at hm; omega
      · rw [← hB]
        refine Nat.le_trans (Nat.mul_le_mul_right _ (show l.length ≤ l.length + (m - l.length) by omega)) ?_
        exact h1
      · intro x hx
        obtain ⟨i, hi'⟩ := List.getElem?_of_mem hx
        obtain ⟨_, _, _, h3⟩ := hp i x hi'
        exact h3⟩

/-- The fields of a struct, from the cell off on: each one's cells behind the other's. -/
def OpensF (P : Program) (fs : List Field) (off : Nat) {α : Type} (d : Kd α) (wf : α → Prop) : Prop :=
  (fs.map fun f => P.cellsOf f.type).sum = d.sz ∧ ∀ (H : Type) (enc : TypeId × Value → H) (w : World) (base : Nat) (spare : Nat → Bool) (held : Bool) (fuel : Nat) (cs : List Value) (xs : List (DataW H × List MemPlace)),
    cs.length = off + d.sz → xs.length = fs.length → (∀ (i : Nat) (f : Field), fs[i]? = some f → DataW.trod enc P w base spare held fuel f.type ((cs.drop f.offset).take (P.cellsOf f.type)) = xs[i]?) →
    (∀ n ∈ DataW.weightsEach P (fs.map (·.type)) (xs.map (·.1)), n ≤ reachBytes) → ∃ a : α, d.K w a (cs.drop off) ∧ wf a

theorem OpensF.one {P : Program} {f : Field} {off : Nat} {α : Type} {d : Kd α} {wf : α → Prop} (ho : f.offset = off) (h : Opens P f.type d wf) : OpensF P [f] off d wf := by
  refine ⟨by simp [h.1], fun H enc w base spare held fuel cs xs hl hx hf hz => ?_⟩
  match xs, hx with
  | [x], _ =>
    have h0 := hf 0 f rfl
    rw [ho, h.1, List.take_of_length_le (by rw [List.length_drop]; omega)] at h0
    exact h.2 H enc w base spare held fuel _ x h0 (fun n hn => hz n (by simp only [List.map_cons, DataW.weightsEach, List.mem_append]; exact .inl hn))

theorem OpensF.cons {P : Program} {f : Field} {fs : List Field} {off : Nat} {α β : Type} {d : Kd α} {d' : Kd β} {wf : α → Prop} {wf' : β → Prop} (ho : f.offset = off) (h : Opens P f.type d wf) (hs : OpensF P fs (off + d.sz) d' wf') :
    OpensF P (f :: fs) off (Kd.pair d d') (fun x => wf x.1 ∧ wf' x.2) := by
  refine ⟨by simp [h.1, hs.1, Kd.pair], fun H enc w base spare held fuel cs xs hl hx hf hz => ?_⟩
  match xs, hx with
  | x :: xs, hx =>
    have hsz : (Kd.pair d d').sz = d.sz + d'.sz := rfl
    have h0 := hf 0 f rfl
    rw [ho, h.1] at h0
    obtain ⟨a, hk, hw⟩ := h.2 H enc w base spare held fuel _ x h0 (fun n hn => hz n (by simp only [List.map_cons, DataW.weightsEach, List.mem_append]; exact .inl hn))
    obtain ⟨b, hk', hw'⟩ := hs.2 H enc w base spare held fuel cs xs (by omega) (by simpa using hx) (fun i g hg => hf (i + 1) g hg) (fun n hn => hz n (by simp only [List.map_cons, DataW.weightsEach, List.mem_append]; exact .inr hn))
    exact ⟨(a, b), ⟨(cs.drop off).take d.sz, cs.drop (off + d.sz), by rw [← List.drop_drop, List.take_append_drop], hk, hk'⟩, hw, hw'⟩

theorem Opens.struct {P : Program} {t : TypeId} {fs : Array Field} {α β : Type} {d : Kd α} {wf : α → Prop} (f : β → α) (g : α → β) (hfg : ∀ a, f (g a) = a) (hc : P.cellsOf t = d.sz) (hu : P.underlying t = some (.struct fs)) (h : OpensF P fs.toList 0 d wf) :
    Opens P t (Kd.iso d f) (fun x => wf (f x)) := by
  refine ⟨hc, fun H enc w base spare held fuel cs x hx hz => ?_⟩
  obtain ⟨xs, n, rfl, rfl, hl, hlen, hf⟩ := DataW.trod_struct hu hx
  obtain ⟨a, hk, hw⟩ := h.2 H enc w base spare held n cs xs (by omega) (by simpa using hlen) (fun i fl hfl => hf i fl (by simpa using hfl)) (fun q hq => hz q (by simp only [DataW.weights, hu]; exact hq))
  refine ⟨g a, ?_, by show wf (f (g a)); rw [hfg]; exact hw⟩
  show d.K w (f (g a)) cs
  rw [hfg]
  simpa using hk

/-- An argument: what its cells are, and that it meets wf. -/
theorem Opens.arg {P : Program} {t : TypeId} {α : Type} {d : Kd α} {wf : α → Prop} (ho : Opens P t d wf) {H : Type} {enc : TypeId × Value → H} {ts : List TypeId} {ds : List (DataW H)} {w : World} {base : Nat} {spare : Nat → Bool} {held : Bool} {v : Value} {x : DataW H} {ps : List MemPlace} {j : Nat}
    (hsz : (DataW.weightsEach P ts ds).all (· ≤ reachBytes) = true) (ht : ts[j]? = some t) (hd : ds[j]? = some x) (h : DataW.Trod enc P w base spare held t v x ps) : ∃ a : α, d.K w a v.cells.toList ∧ wf a := by
  obtain ⟨fuel, hf⟩ := h
  refine ho.2 H enc w base spare held fuel _ _ hf (fun n hn => ?_)
  have := List.all_eq_true.1 hsz _ (DataW.weights_mem_each ht hd n hn)
  simpa using this

theorem agg_of {P : Program} {w : World} {r : Reach} {b0 : Nat} {t : TypeId} {fs : Array Field} {v : Value} {l : List Value} (hs : P.underlying t = some (.struct fs)) (hv : Value.okWide P w r b0 t v) (h : v.cells.toList = l) : v = .agg l.toArray := by
  obtain ⟨cs, rfl, _⟩ := okWide_struct hs hv
  simp only [Value.cells] at h
  rw [← h, Array.toArray_toList]

end Go.Proofs.Ytiaohbbafaaibaa.Opn

/- OWN TEXT, written by rows.py: what an argument of each parameter type of this seat's laws reads as. -/
namespace Go.Proofs.Ytiaohbbafaaibaa.P
open Go.RowKit Go.Proofs.YtiaohbbafaaibaaW.PrintWords Go.Proofs.YtiaohbbafaaibaaW.PrintLast Go.Proofs.YtiaohbbafaaibaaW.PrintMore Go.Proofs.Ytiaohbbafaaibaa.Opn
set_option linter.unusedVariables false
set_option linter.unusedSimpArgs false
theorem opn3 : Opens Try.prog 3 (Kd.int .i64) (fun n => (Lit.int .i64 n).wf = true) := Opens.int (by kernel_rfl) Try.underlying3
theorem opn23 : Opens Try.prog 23 (Kd.int .i8) (fun n => (Lit.int .i8 n).wf = true) := Opens.int (by kernel_rfl) Try.underlying23
theorem opn34 : Opens Try.prog 34 (Kd.int .u32) (fun n => (Lit.int .u32 n).wf = true) := Opens.int (by kernel_rfl) Try.underlying34
theorem opn2 : Opens Try.prog 2 (Kd.int .i64) (fun n => (Lit.int .i64 n).wf = true) := Opens.int (by kernel_rfl) Try.underlying2
theorem opn9 : Opens Try.prog 9 Kd.string (fun s => s.size ≤ 140737488351232) := Opens.string (by kernel_rfl) Try.underlying9
theorem opn57 : Opens Try.prog 57 (Kd.slice 34 (Kd.int .u32)) (fun l => l.length ≤ 9223372036854775807 ∧ l.length * 4 ≤ 140737488351232 ∧ ∀ y ∈ l, (Lit.int .u32 y).wf = true) := Opens.slice (by kernel_rfl) Try.underlying57 (by kernel_rfl) opn34
theorem opn67 : Opens Try.prog 67 (Kd.slice 2 (Kd.int .i64)) (fun l => l.length ≤ 9223372036854775807 ∧ l.length * 8 ≤ 140737488351232 ∧ ∀ y ∈ l, (Lit.int .i64 y).wf = true) := Opens.slice (by kernel_rfl) Try.underlying67 (by kernel_rfl) opn2
def wf120 (x : S120) : Prop := (x.f0.size ≤ 140737488351232) ∧ ((Lit.int .i8 x.f1).wf = true) ∧ ((Lit.int .i64 x.f2).wf = true)
set_option maxRecDepth 100000 in
theorem opn120 : Opens Try.prog 120 k120 wf120 := by
  refine Opens.struct (d := (Kd.pair Kd.string (Kd.pair (Kd.int .i8) (Kd.int .i64)))) (wf := (fun p : (ByteArray) × (Int) × (Int) => (p.1.size ≤ 140737488351232) ∧ ((Lit.int .i8 p.2.1).wf = true) ∧ ((Lit.int .i64 p.2.2).wf = true))) (fun x : S120 => (x.f0, x.f1, x.f2)) (fun p => ⟨p.1, p.2.1, p.2.2⟩) (fun _ => rfl) (by kernel_rfl) Try.underlying120 ?_
  refine OpensF.cons (d := Kd.string) (d' := (Kd.pair (Kd.int .i8) (Kd.int .i64))) (wf := (fun p : ByteArray => p.size ≤ 140737488351232)) (wf' := (fun p : (Int) × (Int) => ((Lit.int .i8 p.1).wf = true) ∧ ((Lit.int .i64 p.2).wf = true))) rfl opn9 ?_
  refine OpensF.cons (d := (Kd.int .i8)) (d' := (Kd.int .i64)) (wf := (fun p : Int => (Lit.int .i8 p).wf = true)) (wf' := (fun p : (Int) => ((Lit.int .i64 p).wf = true))) rfl opn23 ?_
  exact OpensF.one rfl opn3
theorem opn85 : Opens Try.prog 85 (Kd.slice 120 k120) (fun l => l.length ≤ 9223372036854775807 ∧ l.length * 32 ≤ 140737488351232 ∧ ∀ y ∈ l, wf120 y) := Opens.slice (by kernel_rfl) Try.underlying85 (by kernel_rfl) opn120
def wf130 (x : S130) : Prop := ((Lit.int .i64 x.f0).wf = true) ∧ ((Lit.int .i64 x.f1).wf = true)
set_option maxRecDepth 100000 in
theorem opn130 : Opens Try.prog 130 k130 wf130 := by
  refine Opens.struct (d := (Kd.pair (Kd.int .i64) (Kd.int .i64))) (wf := (fun p : (Int) × (Int) => ((Lit.int .i64 p.1).wf = true) ∧ ((Lit.int .i64 p.2).wf = true))) (fun x : S130 => (x.f0, x.f1)) (fun p => ⟨p.1, p.2⟩) (fun _ => rfl) (by kernel_rfl) Try.underlying130 ?_
  refine OpensF.cons (d := (Kd.int .i64)) (d' := (Kd.int .i64)) (wf := (fun p : Int => (Lit.int .i64 p).wf = true)) (wf' := (fun p : (Int) => ((Lit.int .i64 p).wf = true))) rfl opn3 ?_
  exact OpensF.one rfl opn3
theorem opn86 : Opens Try.prog 86 (Kd.slice 130 k130) (fun l => l.length ≤ 9223372036854775807 ∧ l.length * 16 ≤ 140737488351232 ∧ ∀ y ∈ l, wf130 y) := Opens.slice (by kernel_rfl) Try.underlying86 (by kernel_rfl) opn130
def wf88 (x : S88) : Prop := (x.f0.size ≤ 140737488351232) ∧ (x.f1.length ≤ 9223372036854775807 ∧ x.f1.length * 4 ≤ 140737488351232 ∧ ∀ y ∈ x.f1, (Lit.int .u32 y).wf = true) ∧ ((Lit.int .i64 x.f2).wf = true) ∧ (x.f3.length ≤ 9223372036854775807 ∧ x.f3.length * 8 ≤ 140737488351232 ∧ ∀ y ∈ x.f3, (Lit.int .i64 y).wf = true) ∧ (x.f4.length ≤ 9223372036854775807 ∧ x.f4.length * 32 ≤ 140737488351232 ∧ ∀ y ∈ x.f4, wf120 y) ∧ (x.f5.length ≤ 9223372036854775807 ∧ x.f5.length * 16 ≤ 140737488351232 ∧ ∀ y ∈ x.f5, wf130 y)
set_option maxRecDepth 100000 in
theorem opn88 : Opens Try.prog 88 k88 wf88 := by
  refine Opens.struct (d := (Kd.pair Kd.string (Kd.pair (Kd.slice 34 (Kd.int .u32)) (Kd.pair (Kd.int .i64) (Kd.pair (Kd.slice 2 (Kd.int .i64)) (Kd.pair (Kd.slice 120 k120) (Kd.slice 130 k130))))))) (wf := (fun p : (ByteArray) × (List Int) × (Int) × (List Int) × (List (S120)) × (List (S130)) => (p.1.size ≤ 140737488351232) ∧ (p.2.1.length ≤ 9223372036854775807 ∧ p.2.1.length * 4 ≤ 140737488351232 ∧ ∀ y ∈ p.2.1, (Lit.int .u32 y).wf = true) ∧ ((Lit.int .i64 p.2.2.1).wf = true) ∧ (p.2.2.2.1.length ≤ 9223372036854775807 ∧ p.2.2.2.1.length * 8 ≤ 140737488351232 ∧ ∀ y ∈ p.2.2.2.1, (Lit.int .i64 y).wf = true) ∧ (p.2.2.2.2.1.length ≤ 9223372036854775807 ∧ p.2.2.2.2.1.length * 32 ≤ 140737488351232 ∧ ∀ y ∈ p.2.2.2.2.1, wf120 y) ∧ (p.2.2.2.2.2.length ≤ 9223372036854775807 ∧ p.2.2.2.2.2.length * 16 ≤ 140737488351232 ∧ ∀ y ∈ p.2.2.2.2.2, wf130 y))) (fun x : S88 => (x.f0, x.f1, x.f2, x.f3, x.f4, x.f5)) (fun p => ⟨p.1, p.2.1, p.2.2.1, p.2.2.2.1, p.2.2.2.2.1, p.2.2.2.2.2⟩) (fun _ => rfl) (by kernel_rfl) Try.underlying88 ?_
  refine OpensF.cons (d := Kd.string) (d' := (Kd.pair (Kd.slice 34 (Kd.int .u32)) (Kd.pair (Kd.int .i64) (Kd.pair (Kd.slice 2 (Kd.int .i64)) (Kd.pair (Kd.slice 120 k120) (Kd.slice 130 k130)))))) (wf := (fun p : ByteArray => p.size ≤ 140737488351232)) (wf' := (fun p : (List Int) × (Int) × (List Int) × (List (S120)) × (List (S130)) => (p.1.length ≤ 9223372036854775807 ∧ p.1.length * 4 ≤ 140737488351232 ∧ ∀ y ∈ p.1, (Lit.int .u32 y).wf = true) ∧ ((Lit.int .i64 p.2.1).wf = true) ∧ (p.2.2.1.length ≤ 9223372036854775807 ∧ p.2.2.1.length * 8 ≤ 140737488351232 ∧ ∀ y ∈ p.2.2.1, (Lit.int .i64 y).wf = true) ∧ (p.2.2.2.1.length ≤ 9223372036854775807 ∧ p.2.2.2.1.length * 32 ≤ 140737488351232 ∧ ∀ y ∈ p.2.2.2.1, wf120 y) ∧ (p.2.2.2.2.length ≤ 9223372036854775807 ∧ p.2.2.2.2.length * 16 ≤ 140737488351232 ∧ ∀ y ∈ p.2.2.2.2, wf130 y))) rfl opn9 ?_
  refine OpensF.cons (d := (Kd.slice 34 (Kd.int .u32))) (d' := (Kd.pair (Kd.int .i64) (Kd.pair (Kd.slice 2 (Kd.int .i64)) (Kd.pair (Kd.slice 120 k120) (Kd.slice 130 k130))))) (wf := (fun p : List Int => p.length ≤ 9223372036854775807 ∧ p.length * 4 ≤ 140737488351232 ∧ ∀ y ∈ p, (Lit.int .u32 y).wf = true)) (wf' := (fun p : (Int) × (List Int) × (List (S120)) × (List (S130)) => ((Lit.int .i64 p.1).wf = true) ∧ (p.2.1.length ≤ 9223372036854775807 ∧ p.2.1.length * 8 ≤ 140737488351232 ∧ ∀ y ∈ p.2.1, (Lit.int .i64 y).wf = true) ∧ (p.2.2.1.length ≤ 9223372036854775807 ∧ p.2.2.1.length * 32 ≤ 140737488351232 ∧ ∀ y ∈ p.2.2.1, wf120 y) ∧ (p.2.2.2.length ≤ 9223372036854775807 ∧ p.2.2.2.length * 16 ≤ 140737488351232 ∧ ∀ y ∈ p.2.2.2, wf130 y))) rfl opn57 ?_
  refine OpensF.cons (d := (Kd.int .i64)) (d' := (Kd.pair (Kd.slice 2 (Kd.int .i64)) (Kd.pair (Kd.slice 120 k120) (Kd.slice 130 k130)))) (wf := (fun p : Int => (Lit.int .i64 p).wf = true)) (wf' := (fun p : (List Int) × (List (S120)) × (List (S130)) => (p.1.length ≤ 9223372036854775807 ∧ p.1.length * 8 ≤ 140737488351232 ∧ ∀ y ∈ p.1, (Lit.int .i64 y).wf = true) ∧ (p.2.1.length ≤ 9223372036854775807 ∧ p.2.1.length * 32 ≤ 140737488351232 ∧ ∀ y ∈ p.2.1, wf120 y) ∧ (p.2.2.length ≤ 9223372036854775807 ∧ p.2.2.length * 16 ≤ 140737488351232 ∧ ∀ y ∈ p.2.2, wf130 y))) rfl opn3 ?_
  refine OpensF.cons (d := (Kd.slice 2 (Kd.int .i64))) (d' := (Kd.pair (Kd.slice 120 k120) (Kd.slice 130 k130))) (wf := (fun p : List Int => p.length ≤ 9223372036854775807 ∧ p.length * 8 ≤ 140737488351232 ∧ ∀ y ∈ p, (Lit.int .i64 y).wf = true)) (wf' := (fun p : (List (S120)) × (List (S130)) => (p.1.length ≤ 9223372036854775807 ∧ p.1.length * 32 ≤ 140737488351232 ∧ ∀ y ∈ p.1, wf120 y) ∧ (p.2.length ≤ 9223372036854775807 ∧ p.2.length * 16 ≤ 140737488351232 ∧ ∀ y ∈ p.2, wf130 y))) rfl opn67 ?_
  refine OpensF.cons (d := (Kd.slice 120 k120)) (d' := (Kd.slice 130 k130)) (wf := (fun p : List (S120) => p.length ≤ 9223372036854775807 ∧ p.length * 32 ≤ 140737488351232 ∧ ∀ y ∈ p, wf120 y)) (wf' := (fun p : (List (S130)) => (p.length ≤ 9223372036854775807 ∧ p.length * 16 ≤ 140737488351232 ∧ ∀ y ∈ p, wf130 y))) rfl opn85 ?_
  exact OpensF.one rfl opn86
end Go.Proofs.Ytiaohbbafaaibaa.P

/- OWN TEXT, written by rows.py: the pure statement of the law ObjectTells. -/
namespace Go.Proofs.Ytiaohbbafaaibaa.P
open Go.RowKit Go.Proofs.YtiaohbbafaaibaaW.PrintWords Go.Proofs.YtiaohbbafaaibaaW.PrintLast Go.Proofs.YtiaohbbafaaibaaW.PrintMore Go.Proofs.Ytiaohbbafaaibaa.Opn
set_option linter.unusedVariables false
set_option linter.unusedSimpArgs false
def pleatlaw03_ObjectTells.Pure : Prop := ∀ (x0 : S88) (x1 : ByteArray) (x2 : Int), (wf88 x0) → (x1.size ≤ 140737488351232) → ((Lit.int .i64 x2).wf = true) → ∃ k, pleatlaw03_ObjectTells.f k x0.f0 x0.f1 x0.f2 x0.f3 x0.f4 x0.f5 x1 x2 = some true
end Go.Proofs.Ytiaohbbafaaibaa.P

/- OWN TEXT: objects over plain lists: names, what is found by a name or a place, the reference's check: all come to the same as the program's. -/
set_option linter.unusedVariables false
set_option linter.unusedSimpArgs false
namespace Go.Proofs.Ytiaohbbafaaibaa.P
open Go.RowKit Go.Maps Go.Proofs.YtiaohbbafaaibaaW.PrintWords Go.Proofs.YtiaohbbafaaibaaW.PrintLast Go.Proofs.YtiaohbbafaaibaaW.PrintMore Go.Proofs.Ytiaohbbafaaibaa.MapB

theorem Ev.upto {α : Type} {g : Nat → Int → Option α} {r : α} {n : Nat} (p : Nat → Prop) (step : ∀ i : Nat, i < n → p i → (p (i + 1) → Ev (fun k => g k ((i + 1 : Nat) : Int)) r) → Ev (fun k => g k (i : Int)) r) (last : p n → Ev (fun k => g k (n : Int)) r) : ∀ i : Nat, i ≤ n → p i → Ev (fun k => g k (i : Int)) r := by
  have : ∀ d i : Nat, i + d = n → p i → Ev (fun k => g k (i : Int)) r := by
    intro d
    induction d with
    | zero => intro i hi hp; obtain rfl : i = n := by omega
              exact last hp
    | succ d ih => intro i hi hp; exact step i (by omega) hp (ih (i + 1) (by omega))
  intro i hi
  exact this (n - i) i (by omega)
theorem wrapS {i n : Nat} (hi : i < n) (hn : n ≤ 1000000000) : wrap64 ((i : Int) + 1) = ((i + 1 : Nat) : Int) := by rw [wrap64_id (by omega) (by omega)]; rfl
theorem sy_get {l : List Sym} {i : Nat} (h : i < l.length) : rd_T120 l (i : Int) = l[i] := by
  unfold rd_T120
  simp [List.getD_eq_getElem?_getD, List.getElem?_eq_getElem h]
theorem rl_get {l : List Rel} {i : Nat} (h : i < l.length) : rd_T130 l (i : Int) = l[i] := by
  unfold rd_T130
  simp [List.getD_eq_getElem?_getD, List.getElem?_eq_getElem h]
theorem sy_at {l : List Sym} {i : Nat} (h : i < l.length) : sy l i = l[i] := sy_get h
theorem rl_at {l : List Rel} {i : Nat} (h : i < l.length) : rl l i = l[i] := rl_get h
theorem toList_loop (s : ByteArray) : ∀ (d i : Nat) (r : List UInt8), i + d = s.size → ByteArray.toList.loop s i r = r.reverse ++ s.data.toList.drop i := by
  intro d
  induction d with
  | zero =>
    intro i r hi
    rw [ByteArray.toList.loop, if_neg (by omega), List.drop_eq_nil_of_le (by rw [data_length]; omega), List.append_nil]
  | succ d ih =>
    intro i r hi
    have hlt : i < s.data.toList.length := by rw [data_length]; omega
    rw [ByteArray.toList.loop, if_pos (by omega), ih (i + 1) _ (by omega), List.drop_eq_getElem_cons hlt, List.reverse_cons, List.append_assoc]
    have e : s.get! i = s.data.toList[i] := by
      have h2 : i < s.data.size := by simpa using hlt
      simp only [ByteArray.get!]
      exact getElem!_pos s.data i h2
    rw [e]
    rfl
theorem toList_eq (s : ByteArray) : s.toList = s.data.toList := by
  have := toList_loop s s.size 0 [] (by omega)
  simpa [ByteArray.toList] using this
theorem toList_inj {a b : ByteArray} : a.toList = b.toList ↔ a = b := by
  rw [toList_eq, toList_eq]
  constructor
  · intro h
    have : a.data = b.data := Array.toList_inj.1 h
    cases a; cases b; simp at this; subst this; rfl
  · intro h; rw [h]
theorem key_inj {a b : ByteArray} : (keyN a).sameKey (keyN b) = true ↔ a = b := by
  unfold keyN
  show (a.data.toList == b.data.toList) = true ↔ _
  rw [beq_iff_eq, ← toList_eq, ← toList_eq]
  exact toList_inj
theorem seen_iff (l : List Sym) (s : ByteArray) : ∀ i, nameSeen l i (keyN s) = true ↔ ∃ j, j < i ∧ (sy l j).f0 = s
  | 0 => by simp [nameSeen]
  | i + 1 => by
    show addS (nameSeen l i) (keyN (sy l i).f0) (keyN s) = true ↔ _
    unfold addS
    rw [Bool.or_eq_true, seen_iff l s i, key_inj]
    constructor
    · rintro (h | ⟨j, hj, h⟩)
      · exact ⟨i, by omega, h.symm⟩
      · exact ⟨j, by omega, h⟩
    · rintro ⟨j, hj, h⟩
      by_cases e : j = i
      · subst e; exact .inl h.symm
      · exact .inr ⟨j, by omega, h⟩

def ofN (nm : ByteArray) : List Sym → Nat → Int
  | [], _ => -1
  | s :: r, i => if s.f0.toList = nm.toList then (i : Int) else ofN nm r (i + 1)
def atN (p : Int) : List Rel → Nat → Int
  | [], _ => -1
  | s :: r, i => if s.f0 = p then (i : Int) else atN p r (i + 1)
theorem ofo1 (l : List Sym) (hl : l.length ≤ 1000000000) (a : ByteArray) (c : List Int) (d : Int) (e : List Int) (f : List Rel) (nm : ByteArray) : Ev (fun k => object_Of.f k a c d e l f nm) (ofN nm l 0) := by
  unfold object_Of.f
  have : ∀ d i : Nat, i + d = l.length → Ev (fun k => object_Of.l0 k nm l (l.length : Int) (i : Int)) (ofN nm (l.drop i) i) := by
    intro d
    induction d with
    | zero =>
      intro i hi
      rw [List.drop_eq_nil_of_le (by omega)]
      exact Ev.succ (Ev.iteF (by omega) (Ev.val rfl))
    | succ d ih =>
      intro i hi
      have hlt : i < l.length := by omega
      rw [drop_get hlt]
      unfold ofN
      refine Ev.succ (Ev.iteT (by omega) (Ev.iteT (by omega) (Ev.iteT (by omega) ?_)))
      simp only [sy_get hlt, wrapS hlt hl]
      refine Ev.ite2 (fun h => Ev.val (by rw [if_pos h])) (fun h => ?_)
      rw [if_neg h]
      exact ih (i + 1) (by omega)
  exact this l.length 0 (by omega)
theorem ato1 (l : List Rel) (hl : l.length ≤ 1000000000) (a : ByteArray) (c : List Int) (d : Int) (e : List Int) (f : List Sym) (p : Int) : Ev (fun k => object_At.f k a c d e f l p) (atN p l 0) := by
  unfold object_At.f
  have : ∀ d i : Nat, i + d = l.length → Ev (fun k => object_At.l0 k p l (l.length : Int) (i : Int)) (atN p (l.drop i) i) := by
    intro d
    induction d with
    | zero =>
      intro i hi
      rw [List.drop_eq_nil_of_le (by omega)]
      exact Ev.succ (Ev.iteF (by omega) (Ev.val rfl))
    | succ d ih =>
      intro i hi
      have hlt : i < l.length := by omega
      rw [drop_get hlt]
      unfold atN
      refine Ev.succ (Ev.iteT (by omega) (Ev.iteT (by omega) (Ev.iteT (by omega) ?_)))
      simp only [rl_get hlt, wrapS hlt hl]
      refine Ev.ite2 (fun h => Ev.val (by rw [if_pos h])) (fun h => ?_)
      rw [if_neg h]
      exact ih (i + 1) (by omega)
  exact this l.length 0 (by omega)
/-- it is i just if none before it has the name, where i itself has it. -/
theorem ofN_at (nm : ByteArray) : ∀ (l : List Sym) (b i : Nat), (h : i < l.length) → l[i].f0 = nm → (∀ j, (hj : j < i) → (l[j]'(by omega)).f0 ≠ nm) → ofN nm l b = ((b + i : Nat) : Int)
  | s :: r, b, 0, h, hn, _ => by
    unfold ofN
    rw [if_pos (by rw [← hn]; rfl)]
    rfl
  | s :: r, b, i + 1, h, hn, hb => by
    unfold ofN
    have h0 : s.f0 ≠ nm := hb 0 (by omega)
    rw [if_neg (fun e => h0 (toList_inj.1 e)), ofN_at nm r (b + 1) i (by simpa using h) (by simpa using hn) (fun j hj => by have := hb (j + 1) (by omega); simpa using this)]
    congr 1
    omega
theorem ofN_lt (nm : ByteArray) : ∀ (l : List Sym) (b j : Nat), (h : j < l.length) → l[j].f0 = nm → ofN nm l b ≤ ((b + j : Nat) : Int)
  | s :: r, b, j, h, hn => by
    unfold ofN
    by_cases c : s.f0.toList = nm.toList
    · rw [if_pos c]; omega
    · rw [if_neg c]
      cases j with
      | zero => exact absurd (toList_inj.2 hn) c
      | succ j =>
        have := ofN_lt nm r (b + 1) j (by simpa using h) (by simpa using hn)
        omega
theorem ofN_seen {l : List Sym} {i : Nat} (h : i < l.length) : ofN (sy l i).f0 l 0 = (i : Int) ↔ nameSeen l i (keyN (sy l i).f0) = false := by
  rw [← Bool.not_eq_true, seen_iff]
  constructor
  · rintro e ⟨j, hj, hn⟩
    rw [sy_at (by omega)] at hn
    have := ofN_lt (sy l i).f0 l 0 j (by omega) hn
    omega
  · intro hn
    have := ofN_at (sy l i).f0 l 0 i h (by rw [sy_at h]) (fun j hj e => hn ⟨j, hj, by rw [sy_at (by omega)]; exact e⟩)
    rw [this]
    simp

theorem mark_of {l : List Rel} {k : Nat} : ∀ {n : Nat}, markB l n k = true → ∃ j, j < n ∧ k = (rl l j).f0.toNat
  | 0, h => by cases h
  | n + 1, h => by
    have h : (decide (k = (rl l n).f0.toNat) || markB l n k) = true := h
    rw [Bool.or_eq_true, decide_eq_true_eq] at h
    rcases h with h | h
    · exact ⟨n, by omega, h⟩
    · obtain ⟨j, hj, e⟩ := mark_of h
      exact ⟨j, by omega, e⟩
theorem relE_ok {code : List Int} {ns : Int} {l : List Rel} {i : Nat} (h : relE code ns l i = 0) : lastR l i < (rl l i).f0 ∧ (rl l i).f0 < (code.length : Int) ∧ 0 ≤ (rl l i).f1 ∧ (rl l i).f1 < ns ∧ (tgtS (rd code (rl l i).f0)).2 = true ∧ (tgtS (rd code (rl l i).f0)).1 = 0 := by
  rw [relE_eq] at h
  split at h
  · exact absurd h (by decide)
  split at h
  · exact absurd h (by decide)
  split at h
  · exact absurd h (by decide)
  split at h
  · exact absurd h (by decide)
  split at h
  · rename_i h5
    split at h
    · rename_i h6
      exact ⟨by omega, by omega, by omega, by omega, h5, h6⟩
    · exact absurd h (by decide)
  · exact absurd h (by decide)
theorem scan_plain {code : List Int} {ns : Int} {l : List Rel} (hz : ∀ j, j < l.length → relE code ns l j = 0) (k : Nat) : scanE code (markB l l.length) k = if (tgtS (rd code (k : Int))).2 = true then (if (tgtS (rd code (k : Int))).1 > (code.length : Int) then 22 else 0) else 0 := by
  rw [scanE_eq]
  by_cases h : (tgtS (rd code (k : Int))).2 = true
  · rw [if_pos h, if_pos h]
    by_cases hn : markB l l.length k = true
    · rw [if_pos hn]
      obtain ⟨j, hj, e⟩ := mark_of hn
      obtain ⟨h1, _, _, _, _, h6⟩ := relE_ok (hz j hj)
      have hlo := lastR_lo code ns l j (fun q hq => hz q (by omega))
      rw [show ((rl l j).f0) = (k : Int) by omega] at h6
      rw [if_neg (by omega)]
    · rw [if_neg hn]
  · rw [if_neg h, if_neg h]
theorem firstS_iff {g : Nat → Int} {n : Nat} (h : (firstS g n n).1 = 0) : ∀ j, j < n → g j = 0 := by
  intro j hj
  have key : ∀ d i, i + d = n → (∀ q, q < i → g q = 0) → ∀ q, q < n → g q = 0 := by
    intro d
    induction d with
    | zero => intro i hi hz q hq; exact hz q (by omega)
    | succ d ih =>
      intro i hi hz q hq
      by_cases e : g i = 0
      · exact ih (i + 1) (by omega) (fun p hp => by
          by_cases e2 : p = i
          · rw [e2]; exact e
          · exact hz p (by omega)) q hq
      · rw [firstS_at (by omega) hz e] at h
        exact absurd h e
  exact key n 0 (by omega) (fun q hq => absurd hq (Nat.not_lt_zero _)) j hj
end Go.Proofs.Ytiaohbbafaaibaa.P

/- OWN TEXT: the reference's check of an object comes to the same as the program's. -/
set_option linter.unusedVariables false
set_option linter.unusedSimpArgs false
namespace Go.Proofs.Ytiaohbbafaaibaa.P
open Go.RowKit Go.Maps Go.Proofs.YtiaohbbafaaibaaW.PrintWords Go.Proofs.YtiaohbbafaaibaaW.PrintLast Go.Proofs.YtiaohbbafaaibaaW.PrintMore Go.Proofs.Ytiaohbbafaaibaa.MapB

theorem ofo2 (l : List Sym) (hl : l.length ≤ 1000000000) (a : ByteArray) (c : List Int) (dd : Int) (e : List Int) (f : List Rel) (nm : ByteArray) : Ev (fun k => pleatref03_Of.f k a c dd e l f nm) (ofN nm l 0) := by
  unfold pleatref03_Of.f
  have : ∀ d i : Nat, i + d = l.length → Ev (fun k => pleatref03_Of.l0 k nm (i : Int) a c dd e l f) (ofN nm (l.drop i) i) := by
    intro d
    induction d with
    | zero =>
      intro i hi
      rw [List.drop_eq_nil_of_le (by omega)]
      exact Ev.succ (Ev.iteF (by omega) (Ev.val rfl))
    | succ d ih =>
      intro i hi
      have hlt : i < l.length := by omega
      rw [drop_get hlt]
      unfold ofN
      refine Ev.succ (Ev.iteT (by omega) (Ev.iteT (by omega) ?_))
      simp only [sy_get hlt, wrapS hlt hl]
      refine Ev.ite2 (fun h => Ev.val (by rw [if_pos h])) (fun h => ?_)
      rw [if_neg h]
      exact ih (i + 1) (by omega)
  exact this l.length 0 (by omega)
def LetC (c : Int) : Prop := (97 ≤ c ∧ c ≤ 122) ∨ (65 ≤ c ∧ c ≤ 90) ∨ c = 95
instance (c : Int) : Decidable (LetC c) := by unfold LetC; infer_instance
theorem letter1 (c : Int) : pleatref03_letter.f c = some (decide (LetC c)) := by
  by_cases h : LetC c
  · rw [decide_eq_true h]
    unfold LetC at h
    unfold pleatref03_letter.f
    repeat' split
    all_goals first
      | rfl
      | exact congrArg some (beq_iff_eq.mpr (by omega))
  · rw [decide_eq_false h]
    unfold LetC at h
    unfold pleatref03_letter.f
    repeat' split
    all_goals first
      | (exfalso; omega)
      | exact congrArg some (beq_eq_false_iff_ne.mpr (by omega))
def restS (s : ByteArray) : Nat → Nat → Bool
  | 0, _ => true
  | d + 1, i => decide (OkC i (bt s (i : Int))) && restS s d (i + 1)
theorem restS_iff (s : ByteArray) : ∀ d i, restS s d i = true ↔ ∀ j, i ≤ j → j < i + d → OkC j (bt s (j : Int))
  | 0, i => by simp [restS]; intro j h1 h2; omega
  | d + 1, i => by
    unfold restS
    rw [Bool.and_eq_true, restS_iff s d (i + 1), decide_eq_true_eq]
    constructor
    · rintro ⟨h1, h2⟩ j hj hk
      by_cases e : j = i
      · subst e; exact h1
      · exact h2 j (by omega) (by omega)
    · intro h
      exact ⟨h i (by omega) (by omega), fun j hj hk => h j (by omega) (by omega)⟩
theorem name3 (s : ByteArray) : Ev (fun k => pleatref03_Name.f k s) (nameS s) := by
  unfold pleatref03_Name.f
  refine Ev.ite2 (fun h => ?_) (fun h => ?_)
  · refine Ev.succ ?_
    simp only [pleatref03_Name.j0, if_true]
    refine Ev.val ?_
    unfold nameS
    exact (decide_eq_false (by omega)).symm
  refine Ev.ite2 (fun h2 => ?_) (fun h2 => ?_)
  · refine Ev.succ ?_
    simp only [pleatref03_Name.j0, if_true]
    refine Ev.val ?_
    unfold nameS
    exact (decide_eq_false (by omega)).symm
  refine Ev.iteT (by omega) (Ev.bind0 (letter1 _) ?_)
  by_cases c : LetC (bt s 0)
  · rw [decide_eq_true c]
    have hl : ∀ d i : Nat, 0 < i → i + d = s.size → Ev (fun k => pleatref03_Name.l0 k s (i : Int)) (restS s d i) := by
      intro d
      induction d with
      | zero => intro i hp hi; exact Ev.succ (Ev.iteF (by omega) (Ev.val rfl))
      | succ d ih =>
        intro i hp hi
        have IH := ih (i + 1) (by omega) (by omega)
        have hw := wrapS (i := i) (n := s.size) (by omega) (by omega)
        refine Ev.succ (Ev.iteT (by omega) (Ev.iteT (by omega) (Ev.bind0 (letter1 _) ?_)))
        simp only [hw]
        unfold restS
        refine Ev.ite2 (fun h => ?_) (fun h => ?_)
        · rw [decide_eq_true_eq] at h
          unfold LetC at h
          rw [decide_eq_true (show OkC i (bt s (i : Int)) by unfold OkC; omega), Bool.true_and]
          exact IH
        · rw [decide_eq_true_eq] at h
          unfold LetC at h
          refine Ev.ite2 (fun h3 => Ev.ite2 (fun h4 => ?_) (fun h4 => Ev.ite2 (fun h5 => ?_) (fun h5 => Ev.val ?_))) (fun h3 => Ev.ite2 (fun h5 => ?_) (fun h5 => Ev.val ?_))
          · rw [decide_eq_true (show OkC i (bt s (i : Int)) by unfold OkC; omega), Bool.true_and]
            exact IH
          · rw [decide_eq_true (show OkC i (bt s (i : Int)) by unfold OkC; omega), Bool.true_and]
            exact IH
          · rw [decide_eq_false (show ¬ OkC i (bt s (i : Int)) by unfold OkC; omega), Bool.false_and]
          · rw [decide_eq_true (show OkC i (bt s (i : Int)) by unfold OkC; omega), Bool.true_and]
            exact IH
          · rw [decide_eq_false (show ¬ OkC i (bt s (i : Int)) by unfold OkC; omega), Bool.false_and]
    refine Ev.succ ?_
    simp only [pleatref03_Name.j0, Bool.not_true, Bool.false_eq_true, if_false]
    refine (hl (s.size - 1) 1 (by omega) (by omega)).to ?_
    unfold nameS
    rw [Bool.eq_iff_iff, restS_iff, decide_eq_true_eq]
    constructor
    · intro hr
      refine ⟨by omega, by omega, fun j hj => ?_⟩
      by_cases e : j = 0
      · subst e
        unfold LetC at c
        unfold OkC
        simp only [Int.natCast_zero]
        omega
      · exact hr j (by omega) (by omega)
    · rintro ⟨_, _, hr⟩ j h1 h2
      exact hr j (by omega)
  · rw [decide_eq_false c]
    refine Ev.succ ?_
    simp only [pleatref03_Name.j0, Bool.not_false, if_true]
    refine Ev.val ?_
    unfold nameS
    refine (decide_eq_false (fun hall => c ?_)).symm
    have := hall.2.2 0 (by omega)
    unfold OkC at this
    simp only [Int.natCast_zero] at this
    unfold LetC
    omega

section
variable (nm : ByteArray) (code : List Int) (dat : Int) (data : List Int) (syms : List Sym) (rels : List Rel)
theorem size3 : Ev (fun k => pleatref03_size.f k nm code dat data syms rels) (sizeS nm code dat data syms.length rels.length) := by
  have h := size_eq nm code dat data syms rels
  unfold object_size.f object_Name.f at h
  simp only [Option.bind_some] at h
  unfold pleatref03_size.f
  exact Ev.bind (name3 nm) (h ▸ Ev.now _)
theorem symbols3 (hl : syms.length ≤ 100000000) : Ev (fun k => pleatref03_symbols.f k nm code dat data syms rels) (symsS syms (code.length : Int)) := by
  unfold pleatref03_symbols.f
  refine Ev.upto (g := fun k i => pleatref03_symbols.l0 k i nm code dat data syms rels) (n := syms.length) (fun i => ∀ j, j < i → symE syms (code.length : Int) j = 0) (fun i hi hz IH => ?_) (fun hz => ?_) 0 (by omega) (fun j hj => absurd hj (Nat.not_lt_zero _))
  · have hse := symE_eq syms (code.length : Int) i
    have hbad : symE syms (code.length : Int) i ≠ 0 → symsS syms (code.length : Int) = (symE syms (code.length : Int) i, (i : Int)) := fun hne => firstS_at hi hz hne
    have hgo : symE syms (code.length : Int) i = 0 → _ := fun h0 => IH (fun j hj => by
      by_cases e : j = i
      · rw [e]; exact h0
      · exact hz j (by omega))
    clear IH hz
    have hos := ofN_seen hi
    rw [sy_at hi] at hos
    rw [sy_at hi] at hse
    have hlen : (syms.length : Int) ≤ 100000000 := by omega
    refine Ev.succ (Ev.iteT (by omega) (Ev.iteT (by omega) ?_))
    simp only [sy_get hi, wrapS hi (by omega)]
    generalize hs : syms[i] = s at hos hse ⊢
    obtain ⟨sn, sk, sa⟩ := s
    simp only at hos hse ⊢
    generalize symE syms (code.length : Int) i = g at hse hbad hgo
    refine Ev.bind (name3 sn) (Ev.ite2 (fun h => ?_) (fun h => ?_))
    · rw [if_pos h] at hse
      refine Ev.bind (ofo2 syms (by omega) nm code dat data rels sn) (Ev.ite2 (fun h2 => ?_) (fun h2 => ?_))
      · rw [if_neg (by rw [hos.1 h2]; decide)] at hse
        refine Ev.ite2 (fun h3 => ?_) (fun h3 => ?_)
        · rw [if_pos h3] at hse
          refine Ev.succ ?_
          simp only [pleatref03_symbols.j1, if_true]
          exact Ev.val (by rw [hbad (by rw [hse]; decide), hse])
        · rw [if_neg h3] at hse
          refine Ev.succ ?_
          simp only [pleatref03_symbols.j1, decide_eq_true_eq]
          refine Ev.ite2 (fun h4 => ?_) (fun h4 => ?_)
          · rw [if_pos h4] at hse
            exact Ev.val (by rw [hbad (by rw [hse]; decide), hse])
          · rw [if_neg h4] at hse
            refine Ev.ite2 (fun h5 => ?_) (fun h5 => ?_)
            · rw [if_pos h5] at hse
              exact Ev.val (by rw [hbad (by rw [hse]; decide), hse])
            rw [if_neg h5] at hse
            refine Ev.ite2 (fun h6 => ?_) (fun h6 => ?_)
            · rw [if_pos h6] at hse
              exact Ev.val (by rw [hbad (by rw [hse]; decide), hse])
            rw [if_neg h6] at hse
            refine Ev.ite2 (fun h7 => Ev.ite2 (fun h8 => ?_) (fun h8 => ?_)) (fun h7 => ?_)
            · rw [if_pos h7, if_pos h8] at hse
              simp only [wrapS hi (show syms.length ≤ 1000000000 by omega)]
              exact hgo hse
            · rw [if_pos h7, if_neg h8] at hse
              exact Ev.val (by rw [hbad (by rw [hse]; decide), hse])
            · rw [if_neg h7] at hse
              simp only [wrapS hi (show syms.length ≤ 1000000000 by omega)]
              exact hgo hse
      · rw [if_pos (by
          rw [← Bool.not_eq_false]
          exact fun e => h2 (hos.2 e))] at hse
        exact Ev.val (by rw [hbad (by rw [hse]; decide), hse])
    · rw [if_neg h] at hse
      exact Ev.val (by rw [hbad (by rw [hse]; decide), hse])
  · exact Ev.succ (Ev.iteF (by omega) (Ev.val (firstS_zero hz).symm))
theorem relocs3 (hw : wordsO code = true) (hc : code.length ≤ 100000000) (hl : rels.length ≤ 100000000) : Ev (fun k => pleatref03_relocs.f k nm code dat data syms rels) (firstS (relE code (syms.length : Int) rels) rels.length rels.length) := by
  unfold pleatref03_relocs.f
  refine Ev.upto (g := fun k i => pleatref03_relocs.l0 k i nm code dat data syms rels) (n := rels.length) (fun i => ∀ j, j < i → relE code (syms.length : Int) rels j = 0) (fun i hi hz IH => ?_) (fun hz => ?_) 0 (by omega) (fun j hj => absurd hj (Nat.not_lt_zero _))
  · have hse := relE_eq code (syms.length : Int) rels i
    have hlo := lastR_lo _ _ _ i hz
    have hbad : relE code (syms.length : Int) rels i = 24 → firstS (relE code (syms.length : Int) rels) rels.length rels.length = (24, (i : Int)) := fun h24 => by rw [firstS_at hi hz (by rw [h24]; decide), h24]
    have hgo : relE code (syms.length : Int) rels i = 0 → _ := fun h0 => IH (fun j hj => by
      by_cases e : j = i
      · rw [e]; exact h0
      · exact hz j (by omega))
    clear IH hz
    rw [rl_at hi] at hse
    have hprev : 0 < i → lastR rels i = (rd_T130 rels (wrap64 ((i : Int) - 1))).f0 := fun hp => by
      obtain ⟨m, rfl⟩ : ∃ m, i = m + 1 := ⟨i - 1, by omega⟩
      rw [show wrap64 (((m + 1 : Nat) : Int) - 1) = (m : Int) by rw [wrap64_id (by omega) (by omega)]; omega]
      rfl
    have hw1 : 0 < i → wrap64 ((i : Int) - 1) = (i : Int) - 1 := fun hp => wrap64_id (by omega) (by omega)
    refine Ev.succ (Ev.iteT (by omega) (Ev.iteT (by omega) ?_))
    simp only [rl_get hi]
    generalize hs : rels[i] = s at hse ⊢
    obtain ⟨sa, sm⟩ := s
    simp only at hse ⊢
    have bad : ∀ {c : Bool}, c = true → relE code (syms.length : Int) rels i = 24 → Ev (fun k => pleatref03_relocs.j1 k (i : Int) c nm code dat data syms rels sa sm) (firstS (relE code (syms.length : Int) rels) rels.length rels.length) := fun hc h24 => by
      subst hc
      refine Ev.succ ?_
      simp only [pleatref03_relocs.j1, if_true]
      exact Ev.val (hbad h24).symm
    have tail : ¬ sa ≤ lastR rels i → ¬ sa < 0 → ¬ sa ≥ (code.length : Int) → Ev (fun k => if sm < 0 then pleatref03_relocs.j1 k (i : Int) true nm code dat data syms rels sa sm else pleatref03_relocs.j1 k (i : Int) (decide (sm ≥ (syms.length : Int))) nm code dat data syms rels sa sm) (firstS (relE code (syms.length : Int) rels) rels.length rels.length) := fun n1 n2 n3 => by
      rw [if_neg n1, if_neg n3] at hse
      refine Ev.ite2 (fun h => bad rfl (by rw [hse, if_pos h])) (fun h => ?_)
      rw [if_neg h] at hse
      by_cases h4 : sm ≥ (syms.length : Int)
      · exact bad (decide_eq_true h4) (by rw [hse, if_pos h4])
      rw [if_neg h4] at hse
      rw [decide_eq_false h4]
      have hxr : 0 ≤ rd code sa ∧ rd code sa < 4294967296 := by
        rw [show sa = ((sa.toNat : Nat) : Int) by omega, rd_get (by omega)]
        exact wordsO_at hw (List.getElem_mem _)
      refine Ev.succ ?_
      simp only [pleatref03_relocs.j1, Bool.false_eq_true, if_false]
      refine Ev.iteT (by omega) (Ev.iteT (by omega) (Ev.bind (tgt2 hxr.1 hxr.2) (Ev.ite2 (fun h5 => Ev.ite2 (fun h6 => ?_) (fun h6 => ?_)) (fun h5 => ?_))))
      · rw [if_pos h5, if_pos h6] at hse
        simp only [wrapS hi (show rels.length ≤ 1000000000 by omega)]
        exact hgo hse
      · rw [if_pos h5, if_neg h6] at hse
        exact Ev.val (hbad hse).symm
      · rw [if_neg h5] at hse
        exact Ev.val (hbad hse).symm
    refine Ev.ite2 (fun h1 => bad rfl (by rw [hse, if_pos (by omega)])) (fun h1 => ?_)
    refine Ev.ite2 (fun h2 => bad rfl ?_) (fun h2 => ?_)
    · rw [hse]
      by_cases h3 : sa ≤ lastR rels i
      · rw [if_pos h3]
      · rw [if_neg h3, if_pos h2]
    refine Ev.ite2 (fun h3 => ?_) (fun h3 => ?_)
    · have hp : 0 < i := by omega
      rw [hw1 hp] at hprev ⊢
      have hprev := hprev hp
      refine Ev.iteT (by omega) (Ev.iteT (by omega) ?_)
      simp only [← hprev]
      refine Ev.ite2 (fun h4 => bad rfl (by rw [hse, if_pos h4])) (fun h4 => tail h4 h1 h2)
    · obtain rfl : i = 0 := by omega
      exact tail (by show ¬ sa ≤ -1; omega) h1 h2
  · exact Ev.succ (Ev.iteF (by omega) (Ev.val (firstS_zero hz).symm))
theorem chk3 (hw : wordsO code = true) (hs : syms.length ≤ 100000000) (hc : code.length ≤ 100000000) (hl : rels.length ≤ 100000000) : Ev (fun k => pleatref03_Check.f k nm code dat data syms rels) (chkO nm code dat data syms rels) := by
  unfold pleatref03_Check.f chkO
  refine Ev.bind (size3 nm code dat data syms rels) (Ev.ite2 (fun h => ?_) (fun h => Ev.val (by rw [if_neg h])))
  rw [if_pos h]
  refine Ev.bind (symbols3 nm code dat data syms rels hs) (Ev.ite2 (fun h => ?_) (fun h => Ev.val (by rw [if_neg h])))
  rw [if_pos h]
  refine Ev.bind (relocs3 nm code dat data syms rels hw hc hl) (Ev.ite2 (fun h => ?_) (fun h => ?_))
  · have hz := firstS_iff h
    have hrs : relocsS code (syms.length : Int) rels = scanS (scanE code (markB rels rels.length)) code.length code.length := relocs_scan hz
    have hpl := scan_plain hz
    have hpair : (if (relocsS code (syms.length : Int) rels).1 = 0 then ((0 : Int), (0 : Int)) else relocsS code (syms.length : Int) rels) = relocsS code (syms.length : Int) rels := by
      rw [hrs]
      have key : ∀ d i, i + d = code.length → (∀ q, q < i → scanE code (markB rels rels.length) q = 0) → (if (scanS (scanE code (markB rels rels.length)) code.length code.length).1 = 0 then ((0 : Int), (0 : Int)) else scanS (scanE code (markB rels rels.length)) code.length code.length) = scanS (scanE code (markB rels rels.length)) code.length code.length := by
        intro d
        induction d with
        | zero => intro i hi hq; rw [scanS_zero (fun q h => hq q (by omega)), if_pos rfl]
        | succ d ih =>
          intro i hi hq
          by_cases e : scanE code (markB rels rels.length) i = 0
          · exact ih (i + 1) (by omega) (fun p hp => by
              by_cases e2 : p = i
              · rw [e2]; exact e
              · exact hq p (by omega))
          · rw [scanS_at (by omega) hq e, if_neg e]
      exact key code.length 0 (by omega) (fun q hq => absurd hq (Nat.not_lt_zero _))
    rw [hpair, hrs]
    refine Ev.upto (g := fun k i => pleatref03_Check.l0 k i nm code dat data syms rels) (n := code.length) (fun i => ∀ j, j < i → scanE code (markB rels rels.length) j = 0) (fun i hi hq IH => ?_) (fun hq => ?_) 0 (by omega) (fun j hj => absurd hj (Nat.not_lt_zero _))
    · have hse := hpl i
      have hgo : scanE code (markB rels rels.length) i = 0 → _ := fun h0 => IH (fun j hj => by
        by_cases e : j = i
        · rw [e]; exact h0
        · exact hq j (by omega))
      have hxr : 0 ≤ rd code (i : Int) ∧ rd code (i : Int) < 4294967296 := by
        rw [rd_get hi]
        exact wordsO_at hw (List.getElem_mem _)
      refine Ev.succ (Ev.iteT (by omega) (Ev.iteT (by omega) (Ev.bind (tgt2 hxr.1 hxr.2) (Ev.ite2 (fun h1 => Ev.ite2 (fun h2 => ?_) (fun h2 => ?_)) (fun h1 => ?_)))))
      · rw [if_pos h1, if_pos h2] at hse
        refine Ev.val ?_
        rw [scanS_at hi hq (by rw [hse]; decide), hse, wrap64_id (by omega) (by omega)]
      · rw [if_pos h1, if_neg h2] at hse
        simp only [wrapS hi (show code.length ≤ 1000000000 by omega)]
        exact hgo hse
      · rw [if_neg h1] at hse
        simp only [wrapS hi (show code.length ≤ 1000000000 by omega)]
        exact hgo hse
    · exact Ev.succ (Ev.iteF (by omega) (Ev.val (scanS_zero hq).symm))
  · refine Ev.val ?_
    have e : relocsS code (syms.length : Int) rels = firstS (relE code (syms.length : Int) rels) rels.length rels.length := by
      unfold relocsS
      rw [if_neg h]
    rw [e, if_neg h]
end
end Go.Proofs.Ytiaohbbafaaibaa.P

/- OWN TEXT: the reference's look for a relocation comes to the same as the program's. -/
set_option linter.unusedVariables false
set_option linter.unusedSimpArgs false
namespace Go.Proofs.Ytiaohbbafaaibaa.P
open Go.RowKit Go.Maps Go.Proofs.YtiaohbbafaaibaaW.PrintWords Go.Proofs.YtiaohbbafaaibaaW.PrintLast Go.Proofs.YtiaohbbafaaibaaW.PrintMore Go.Proofs.Ytiaohbbafaaibaa.MapB

theorem ato2 (l : List Rel) (hl : l.length ≤ 1000000000) (a : ByteArray) (c : List Int) (dd : Int) (e : List Int) (f : List Sym) (p : Int) : Ev (fun k => pleatref03_At.f k a c dd e f l p) (atN p l 0) := by
  unfold pleatref03_At.f
  have : ∀ d i : Nat, i + d = l.length → Ev (fun k => pleatref03_At.l0 k p (i : Int) a c dd e f l) (atN p (l.drop i) i) := by
    intro d
    induction d with
    | zero =>
      intro i hi
      rw [List.drop_eq_nil_of_le (by omega)]
      exact Ev.succ (Ev.iteF (by omega) (Ev.val rfl))
    | succ d ih =>
      intro i hi
      have hlt : i < l.length := by omega
      rw [drop_get hlt]
      unfold atN
      refine Ev.succ (Ev.iteT (by omega) (Ev.iteT (by omega) ?_))
      simp only [rl_get hlt, wrapS hlt hl]
      refine Ev.ite2 (fun h => Ev.val (by rw [if_pos h])) (fun h => ?_)
      rw [if_neg h]
      exact ih (i + 1) (by omega)
  exact this l.length 0 (by omega)
end Go.Proofs.Ytiaohbbafaaibaa.P

/- OWN TEXT: objects over plain lists: comparing with oneself, what a statement looks at, the small known run. -/
set_option linter.unusedVariables false
set_option linter.unusedSimpArgs false
namespace Go.Proofs.Ytiaohbbafaaibaa.P
open Go.RowKit Go.Maps Go.Proofs.YtiaohbbafaaibaaW.PrintWords Go.Proofs.YtiaohbbafaaibaaW.PrintLast Go.Proofs.YtiaohbbafaaibaaW.PrintMore Go.Proofs.Ytiaohbbafaaibaa.MapB

theorem wordsO_wf {code : List Int} (h : ∀ y ∈ code, (Lit.int .u32 y).wf = true) : wordsO code = true := by
  unfold wordsO
  rw [List.all_eq_true]
  intro y hy
  have := wf_u32 (h y hy)
  rw [Bool.and_eq_true, decide_eq_true_eq, decide_eq_true_eq]
  omega
theorem check3 {nm : ByteArray} {code : List Int} {dat : Int} {data : List Int} {syms : List Sym} {rels : List Rel} (hw : wordsO code = true) : object_Check.f nm code dat data syms rels = some (chkO nm code dat data syms rels) := by
  unfold object_Check.f
  rw [if_pos hw]
theorem eqWords_self (l : List Int) (hl : l.length ≤ 1000000000) : Ev (fun k => pleatref00_EqWords.f k l l) true := by
  unfold pleatref00_EqWords.f
  refine Ev.iteT rfl (Ev.upto (g := fun k i => pleatref00_EqWords.l0 k l l i) (n := l.length) (fun _ => True) (fun i hi _ IH => ?_) (fun _ => ?_) 0 (by omega) trivial)
  · refine Ev.succ (Ev.iteT (by omega) (Ev.iteT (by omega) (Ev.iteT (by omega) (Ev.iteT rfl ?_))))
    simp only [wrapS hi hl]
    exact IH trivial
  · exact Ev.succ (Ev.iteF (by omega) (Ev.val rfl))
theorem eqLongs_self (l : List Int) (hl : l.length ≤ 1000000000) : Ev (fun k => pleatref00_EqLongs.f k l l) true := by
  unfold pleatref00_EqLongs.f
  refine Ev.iteT rfl (Ev.upto (g := fun k i => pleatref00_EqLongs.l0 k l l i) (n := l.length) (fun _ => True) (fun i hi _ IH => ?_) (fun _ => ?_) 0 (by omega) trivial)
  · refine Ev.succ (Ev.iteT (by omega) (Ev.iteT (by omega) (Ev.iteT (by omega) (Ev.iteT rfl ?_))))
    simp only [wrapS hi hl]
    exact IH trivial
  · exact Ev.succ (Ev.iteF (by omega) (Ev.val rfl))
theorem eqSymbols_self (l : List Sym) (hl : l.length ≤ 1000000000) : Ev (fun k => pleatref00_EqSymbols.f k l l) true := by
  unfold pleatref00_EqSymbols.f
  refine Ev.iteT rfl (Ev.upto (g := fun k i => pleatref00_EqSymbols.l0 k l l i) (n := l.length) (fun _ => True) (fun i hi _ IH => ?_) (fun _ => ?_) 0 (by omega) trivial)
  · refine Ev.succ (Ev.iteT (by omega) (Ev.iteT (by omega) (Ev.iteT (by omega) (Ev.iteF (by simp) ?_))))
    simp only [wrapS hi hl]
    exact IH trivial
  · exact Ev.succ (Ev.iteF (by omega) (Ev.val rfl))
theorem eqRelocs_self (l : List Rel) (hl : l.length ≤ 1000000000) : Ev (fun k => pleatref00_EqRelocs.f k l l) true := by
  unfold pleatref00_EqRelocs.f
  refine Ev.iteT rfl (Ev.upto (g := fun k i => pleatref00_EqRelocs.l0 k l l i) (n := l.length) (fun _ => True) (fun i hi _ IH => ?_) (fun _ => ?_) 0 (by omega) trivial)
  · refine Ev.succ (Ev.iteT (by omega) (Ev.iteT (by omega) (Ev.iteT (by omega) (Ev.iteF (by simp) ?_))))
    simp only [wrapS hi hl]
    exact IH trivial
  · exact Ev.succ (Ev.iteF (by omega) (Ev.val rfl))
theorem eqObject_self (nm : ByteArray) (code : List Int) (dat : Int) (data : List Int) (syms : List Sym) (rels : List Rel) (h1 : code.length ≤ 1000000000) (h3 : data.length ≤ 1000000000) (h4 : syms.length ≤ 1000000000) (h5 : rels.length ≤ 1000000000) : Ev (fun k => pleatref00_EqObject.f k nm code dat data syms rels nm code dat data syms rels) true := by
  unfold pleatref00_EqObject.f
  exact Ev.iteT rfl (Ev.iteT rfl (Ev.bind (eqWords_self _ h1) (Ev.iteT rfl (Ev.bind (eqLongs_self _ h3) (Ev.iteT rfl (Ev.bind (eqSymbols_self _ h4) (Ev.iteT rfl (Ev.bind (eqRelocs_self _ h5) (Ev.val rfl)))))))))
set_option maxRecDepth 100000 in
theorem works3 : Ev (fun k => pleatlaw03_lives.f k) true := Ev.of (fun k => pleatlaw03_lives.mono k) (k := 20) (by kernel_rfl)
theorem heavy3 (nm : ByteArray) (code : List Int) (dat : Int) (data : List Int) (syms : List Sym) (rels : List Rel) (hs : ∀ s ∈ syms, s.f0.size ≤ 140737488351232) (hn : syms.length ≤ 140737488351232) :
    ∃ b, Ev (fun k => pleatlaw03_heavy.f k nm code dat data syms rels) b ∧ (b = false → syms.length ≤ 1048576 ∧ code.length ≤ 32768 ∧ data.length ≤ 32768 ∧ rels.length ≤ 32768) := by
  have fin : ∀ n : Int, (syms.length : Int) ≤ n ∨ 1048576 < n → ∃ b, (∀ k : Nat, (if n > 1048576 then (some true) else (if (nm.size : Int) > 1048576 then (some true) else (if (code.length : Int) > 32768 then (some true) else (if (data.length : Int) > 32768 then (some true) else (some (decide ((rels.length : Int) > 32768))))))) = some b) ∧ (b = false → syms.length ≤ 1048576 ∧ code.length ≤ 32768 ∧ data.length ≤ 32768 ∧ rels.length ≤ 32768) := by
    intro n hn
    by_cases c1 : n > 1048576
    · exact ⟨true, fun _ => by rw [if_pos c1], fun h => by cases h⟩
    by_cases c2 : (nm.size : Int) > 1048576
    · exact ⟨true, fun _ => by rw [if_neg c1, if_pos c2], fun h => by cases h⟩
    by_cases c3 : (code.length : Int) > 32768
    · exact ⟨true, fun _ => by rw [if_neg c1, if_neg c2, if_pos c3], fun h => by cases h⟩
    by_cases c4 : (data.length : Int) > 32768
    · exact ⟨true, fun _ => by rw [if_neg c1, if_neg c2, if_neg c3, if_pos c4], fun h => by cases h⟩
    refine ⟨_, fun _ => by rw [if_neg c1, if_neg c2, if_neg c3, if_neg c4], fun h => ?_⟩
    have h := of_decide_eq_false h
    omega
  have key : ∀ d i : Nat, ∀ n : Int, i + d = syms.length → (i : Int) ≤ n → n ≤ 140737489399809 → ∃ b, Ev (fun k => pleatlaw03_heavy.l0 k n (i : Int) nm code dat data syms rels) b ∧ (b = false → syms.length ≤ 1048576 ∧ code.length ≤ 32768 ∧ data.length ≤ 32768 ∧ rels.length ≤ 32768) := by
    intro d
    induction d with
    | zero =>
      intro i n hi h1 h2
      obtain ⟨b, hb, hf⟩ := fin n (.inl (by omega))
      exact ⟨b, Ev.succ (Ev.iteF (by omega) ⟨0, fun k _ => hb k⟩), hf⟩
    | succ d ih =>
      intro i n hi h1 h2
      by_cases c : n ≤ 1048576
      · have hlt : i < syms.length := by omega
        have hz := hs _ (List.getElem_mem hlt)
        have hw1 : wrap64 (n + 1) = n + 1 := wrap64_id (by omega) (by omega)
        have hw2 : wrap64 (n + 1 + (syms[i].f0.size : Int)) = n + 1 + (syms[i].f0.size : Int) := wrap64_id (by omega) (by omega)
        have hw3 : wrap64 ((i : Int) + 1) = ((i + 1 : Nat) : Int) := by rw [wrap64_id (by omega) (by omega)]; rfl
        obtain ⟨b, hb, hf⟩ := ih (i + 1) (n + 1 + (syms[i].f0.size : Int)) (by omega) (by omega) (by omega)
        refine ⟨b, Ev.succ (Ev.iteT (by omega) (Ev.iteT c (Ev.iteT (by omega) ?_))), hf⟩
        simp only [sy_get hlt, hw1, hw2, hw3]
        exact hb
      · obtain ⟨b, hb, hf⟩ := fin n (.inr (by omega))
        exact ⟨b, Ev.succ (Ev.iteT (by omega) (Ev.iteF c ⟨0, fun k _ => hb k⟩)), hf⟩
  exact key syms.length 0 0 (by omega) (by omega) (by omega)
end Go.Proofs.Ytiaohbbafaaibaa.P

/- The statement ObjectTells: of every object, name and place its law's Go function answers true and leaves its arguments as they were; no further condition. This text: the law over numbers and lists, no memory. -/
namespace Go.Proofs.Ytiaohbbafaaibaa.P
open Go.RowKit Go.Proofs.YtiaohbbafaaibaaW.PrintWords Go.Proofs.YtiaohbbafaaibaaW.PrintLast Go.Proofs.YtiaohbbafaaibaaW.PrintMore Go.Proofs.Ytiaohbbafaaibaa.Opn
set_option linter.unusedVariables false
set_option linter.unusedSimpArgs false

theorem pureObjectTells : pleatlaw03_ObjectTells.Pure := by
  intro x name place hx hn hp
  obtain ⟨nm, code, dat, data, syms, rels⟩ := x
  obtain ⟨_, ⟨_, _, hwc⟩, _, _, ⟨_, hls, hws⟩, _⟩ := hx
  simp only at hwc hls hws
  have hw := wordsO_wf hwc
  refine Ev.rounds ?_
  obtain ⟨b, hb, hf⟩ := heavy3 nm code dat data syms rels (fun s hs => (hws s hs).1) (by omega)
  unfold pleatlaw03_ObjectTells.f
  have lv : Ev (fun k => pleatlaw03_ObjectTells.j0 k name place true nm code dat data syms rels) true := by
    refine Ev.succ ?_
    simp only [pleatlaw03_ObjectTells.j0, if_true]
    exact Ev.bind works3 (Ev.val rfl)
  refine Ev.bind hb (Ev.ite2 (fun h => lv) (fun h => ?_))
  obtain ⟨hs, hc, hd, hr⟩ := hf (by simpa using h)
  by_cases hb2 : (name.size : Int) > 1048576
  · rw [decide_eq_true hb2]; exact lv
  rw [decide_eq_false hb2]
  have hsm : smallO nm code dat data syms rels = true := by
    unfold smallO
    simp only [Bool.and_eq_true, decide_eq_true_eq]
    omega
  have hwd : pleatref00_WideObject.f nm code dat data syms rels = some (nm, code, dat, data, syms, rels) := by
    unfold pleatref00_WideObject.f
    rw [if_pos hsm]
  have hsp : pleatref00_SpareObject.f nm code dat data syms rels = some true := by
    unfold pleatref00_SpareObject.f
    rw [if_pos hsm]
  refine Ev.succ ?_
  simp only [pleatlaw03_ObjectTells.j0, Bool.false_eq_true, if_false]
  refine Ev.bind0 hwd (Ev.bind0 (check3 hw) (Ev.bind (chk3 nm code dat data syms rels hw (by omega) (by omega) (by omega)) (Ev.iteT rfl (Ev.iteT rfl ?_))))
  refine Ev.bind (ofo1 syms (by omega) nm code dat data rels name) (Ev.bind (ofo2 syms (by omega) nm code dat data rels name) (Ev.iteT rfl ?_))
  refine Ev.bind (ato1 rels (by omega) nm code dat data syms place) (Ev.bind (ato2 rels (by omega) nm code dat data syms place) ?_)
  refine Ev.succ ?_
  simp only [pleatlaw03_ObjectTells.j1, bne_self_eq_false, Bool.false_eq_true, if_false]
  exact Ev.bind (eqObject_self nm code dat data syms rels (by omega) (by omega) (by omega) (by omega)) (Ev.iteT rfl (Ev.bind0 hsp (Ev.iteT rfl (Ev.bind works3 (Ev.val rfl)))))

end Go.Proofs.Ytiaohbbafaaibaa.P
