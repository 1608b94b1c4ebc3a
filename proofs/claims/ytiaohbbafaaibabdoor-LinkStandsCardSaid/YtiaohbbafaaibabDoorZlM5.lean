/- OWN TEXT and printed parts of this claim, laid together: HLnkT, P8. -/
import Derived.Test.YtiaohbbafaaibabDoorZlM1
import Derived.Test.YtiaohbbafaaibabDoorZlM3
import Derived.Test.YtiaohbbafaaibabDoorZlM4
import Derived.Test.YtiaohbbafaaibabDoorZlM0
/- OWN TEXT: the image that link.Link makes: what it holds, what a step leaves. -/
namespace Go.Proofs.YtiaohbbafaaibabDoor.P
open Go.RowKit Go.Shelf Go.Maps Go.Proofs.YtiaohbbafaaibabDoorW.PrintWords Go.Proofs.YtiaohbbafaaibabDoorW.PrintLast Go.Proofs.YtiaohbbafaaibabDoorW.PrintMore Go.Proofs.YtiaohbbafaaibabDoor.Arr Go.Proofs.YtiaohbbafaaibabDoor.MapB Go.Proofs.YtiaohbbafaaibabDoor.SymM
set_option linter.unusedVariables false
set_option linter.unusedSimpArgs false
theorem KeepO.trans {A B C : World} (h : KeepO A B) (k : KeepO B C) : KeepO A C := fun j cs hj => k j cs (h j cs hj)
theorem Boxed.keepO {W : World} {B : Nat} {t : TypeId} {v : Value} (h : Boxed W B t v) (ht : t ≠ 27) (x : Value) : KeepO W (W.setCell ⟨B, 0, none⟩ x) := fun j cs hj => (Below.heap_setCell _ _ _ j (fun z => by
 have z : j = B := z
 subst z
 have hb : W.heap[j]? = _ := h
 rw [hj] at hb
 injection hb with hb
 injection hb with _ hb
 exact ht hb.symm)).trans hj
theorem Boxed.below_ {W W1 : World} {B : Nat} {t : TypeId} {v : Value} (h : Boxed W B t v) (hb : Below W.heap.size W W1) : Boxed W1 B t v := blk_below h hb
theorem blk_own {B k : Nat} {o : Obj} {X Y : World} {row : Option Nat} (h : X.heap[k]? = some o) (ho : o.isCells = true) (hg : X.grownBy Y row) (hr : ∀ r, row = some r → B ≤ r ∧ ∃ o : Obj, X.heap[r]? = some o ∧ o.isCells = false) : Y.heap[k]? = some o :=
 (hg.block k (Array.getElem?_eq_some_iff.1 h).1 (fun e => by
  obtain ⟨_, o', ho', hc⟩ := hr k e.symm
  rw [h] at ho'
  cases ho'
  rw [ho] at hc
  cases hc)).trans h
structure Pat (w5 W : World) (gp g20 : Nat) (vT : Value) (en : Int) (mv : Value) : Prop where
  low : Below w5.heap.size w5 W
  b : W.heap[gp]? = some (.cells #[vT, .int .i64 en, mv] 123 (0, 0))
  p : Boxed W g20 121 (.pointer (some ⟨gp, 0, none⟩))
  gb : w5.heap.size ≤ gp
  g2 : w5.heap.size ≤ g20
theorem Pat.pb (w5 : World) (en : Int) (mv : Value) : Pat w5 ((w5.alloc (.cells #[.slice none 0 0, .int .i64 en, mv] 123)).alloc (.cells #[.pointer (some ⟨w5.heap.size, 0, none⟩)] 121)).drew w5.heap.size (w5.heap.size + 1) (.slice none 0 0) en mv := by
 have b2 := Boxed.new (w5.alloc (.cells #[.slice none 0 0, .int .i64 en, mv] 123)) 121 (.pointer (some ⟨w5.heap.size, 0, none⟩))
 rw [World.size_alloc] at b2
 exact ⟨below_drew (((Below.refl _ w5).alloc (Nat.le_refl _) _).alloc (by simp) _), (Below.heap_alloc _ _ _ (by simp)).trans (World.alloc_heap_new w5 _), b2, Nat.le_refl _, Nat.le_succ _⟩
theorem Pat.bp (w5 : World) (en : Int) (mv : Value) : Pat w5 ((w5.alloc (.cells #[.pointer (some ⟨w5.heap.size + 1, 0, none⟩)] 121)).alloc (.cells #[.slice none 0 0, .int .i64 en, mv] 123)).drew (w5.heap.size + 1) w5.heap.size (.slice none 0 0) en mv := by
 have b2 := World.alloc_heap_new (w5.alloc (.cells #[.pointer (some ⟨w5.heap.size + 1, 0, none⟩)] 121)) (.cells #[.slice none 0 0, .int .i64 en, mv] 123)
 rw [World.size_alloc] at b2
 exact ⟨below_drew (((Below.refl _ w5).alloc (Nat.le_refl _) _).alloc (by simp) _), b2, (Boxed.new w5 121 (.pointer (some ⟨w5.heap.size + 1, 0, none⟩))).alloc _, Nat.le_succ _, Nat.le_refl _⟩
section
variable {w5 W W1 : World} {gp g20 g21 : Nat} {vT mv : Value} {en : Int} {T : List Int}
theorem Pat.below (h : Pat w5 W gp g20 vT en mv) (hb : Below W.heap.size W W1) : Pat w5 W1 gp g20 vT en mv := ⟨below_then h.low h.low.size hb, blk_below h.b hb, blk_below h.p hb, h.gb, h.g2⟩
theorem Pat.grown {r : Option Nat} (h : Pat w5 W gp g20 vT en mv) (hg : W.grownBy W1 r) (h1 : some gp ≠ r) (h2 : some g20 ≠ r) (h3 : ∀ g, r = some g → w5.heap.size ≤ g) : Pat w5 W1 gp g20 vT en mv :=
 ⟨pw_below_grown h.low r h.low.size hg h3, blk_grown h.b hg h1, blk_grown h.p hg h2, h.gb, h.g2⟩
def TX (w5 : World) (gp g20 g21 : Nat) (en : Int) (mv : Value) (T : List Int) (W : World) : Prop :=
 ∃ vT, Pat w5 W gp g20 vT en mv ∧ Boxed W g21 124 (.func (.func 63) #[] #[]) ∧ Kd.R (Kd.int .u32) 63 W w5.heap.size (fun _ => True) vT T
theorem TX.below (h : TX w5 gp g20 g21 en mv T W) (hb : Below W.heap.size W W1) : TX w5 gp g20 g21 en mv T W1 := by
 obtain ⟨vT, h1, h2, h3⟩ := h
 exact ⟨vT, h1.below hb, blk_below h2 hb, Kd.R_below h3 hb⟩
theorem R_turned {base : Nat} {v : Value} {xs : List Int} {row : Option Nat} {k : IntKind} {e : Nat} (h : Kd.R (Kd.int k) e W base (fun _ => True) v xs) (hg : W.grownBy W1 row) (hr : ∀ r, row = some r → ∃ o : Obj, W.heap[r]? = some o ∧ o.isCells = false) : Kd.R (Kd.int k) e W1 base (fun _ => True) v xs :=
  match row, hg, hr with
  | none, hg, _ => Kd.R_grown h hg (fun k _ z => by cases z)
  | some g, hg, hr => Kd.R_grown1 h rfl hg (fun z => by
    obtain ⟨cells, hc⟩ := Kd.R_typed h g z.symm
    obtain ⟨o, ho, hn⟩ := hr g rfl
    rw [hc] at ho
    cases ho
    cases hn)
theorem TX.own {B : Nat} (hB : w5.heap.size ≤ B) {row : Option Nat} (h : TX w5 gp g20 g21 en mv T W) (hg : W.grownBy W1 row) (hr : ∀ r, row = some r → B ≤ r ∧ ∃ o : Obj, W.heap[r]? = some o ∧ o.isCells = false) : TX w5 gp g20 g21 en mv T W1 := by
 obtain ⟨vT, h1, h2, h3⟩ := h
 refine ⟨vT, ⟨pw_below_grown h1.low row h1.low.size hg (fun g z => Nat.le_trans hB (hr g z).1), blk_own h1.b rfl hg hr, blk_own h1.p rfl hg hr, h1.gb, h1.g2⟩, blk_own h2 rfl hg hr, R_turned h3 hg (fun r z => (hr r z).2)⟩
structure St (n0 : Nat) (W W' : World) : Prop where
  ot : KeepsOthers W W'
  lo : Below n0 W W'
  ko : KeepO W W'
theorem St.refl (n0 : Nat) (W : World) : St n0 W W := ⟨KeepsOthers.refl W, Below.refl _ _, fun _ _ h => h⟩
theorem St.trans {n0 : Nat} {A B C : World} (h : St n0 A B) (k : St n0 B C) : St n0 A C := ⟨h.ot.trans k.ot, h.lo.trans k.lo, h.ko.trans k.ko⟩
theorem St.below {n0 : Nat} (hb : Below W.heap.size W W1) (hn : n0 ≤ W.heap.size) : St n0 W W1 :=
 ⟨⟨hb.size, fun k o hk _ => (hb.block k (Array.getElem?_eq_some_iff.1 hk).1).trans hk⟩, hb.mono hn, fun k cs hk => (hb.block k (Array.getElem?_eq_some_iff.1 hk).1).trans hk⟩
theorem St.grown {n0 : Nat} {r : Option Nat} (hg : W.grownBy W1 r) (hr : ∀ g, r = some g → n0 ≤ g ∧ ∃ cs t, W.heap[g]? = some (.cells cs t (0, 0)) ∧ t ≠ 27) (hn : n0 ≤ W.heap.size) : St n0 W W1 := by
 refine ⟨KeepsOthers.of_grownBy hg (fun j o e hj => ?_), (Below.refl n0 W).grown hg hn (fun g z => (hr g z).1), fun k cs hk => (hg.block k (Array.getElem?_eq_some_iff.1 hk).1 (fun z => ?_)).trans hk⟩
 ·
  obtain ⟨_, cs, t, hc, _⟩ := hr j e
  rw [hj] at hc
  cases hc
  rfl
 ·
  obtain ⟨_, cs', t, hc, ht⟩ := hr k z.symm
  rw [hk] at hc
  injection hc with hc
  injection hc with _ hc
  exact ht hc.symm
theorem TX.at (h : TX w5 gp g20 g21 en mv T W) {i : Int} (h0 : 0 ≤ i) (h1 : i < T.length) : ∃ gt c, Pat w5 W gp g20 (.slice (some ⟨gt, 0, none⟩) T.length c) en mv ∧ Boxed W g21 124 (.func (.func 63) #[] #[]) ∧ Kd.R (Kd.int .u32) 63 W w5.heap.size (fun _ => True) (.slice (some ⟨gt, 0, none⟩) T.length c) T := by
 obtain ⟨vT, q1, q2, q3⟩ := h
 obtain ⟨A, c, rfl⟩ := Kd.R_slice q3
 obtain ⟨a, rfl, _⟩ := Kd.at_int (Kd.R_reads' q3).2.2 i h0 h1
 obtain ⟨gt, rfl⟩ := Kd.R_head q3
 exact ⟨gt, c, q1, q2, q3⟩
theorem TX.aimed (h : TX w5 gp g20 g21 en mv T W) {at_ to_ : Int} (h0 : 0 ≤ at_) (h1 : at_ < T.length) (hw : ∀ x ∈ T, 0 ≤ x ∧ x < 4294967296) :
  Calls Tryd.prog 63 #[.pointer (some ⟨gp, 0, none⟩), .int .i64 at_, .int .i64 to_] W fun e w' => e = .returned (.tuple #[]) ∧ TX w5 gp g20 g21 en mv (aimT T at_ to_) w' ∧ St w5.heap.size W w' := by
 obtain ⟨gt, c, q1, q2, q3⟩ := h.at h0 h1
 obtain ⟨hc, hf⟩ := Kd.R_celln (0 : Int) q3 at_ h0 h1
 have hx : rd T at_ = T[at_.toNat]'(by omega) := by
  have := rd_get (l := T) (i := at_.toNat) (by omega)
  rw [← this]
  congr 1
  omega
 have hr : rdOf (0 : Int) T at_ = rd T at_ := rfl
 rw [hr] at hc
 have hwx := hw (rd T at_) (by rw [hx]; exact List.getElem_mem _)
 refine (paim.calls gp gt T.length c (.int .i64 en) mv at_ to_ (rd T at_) W q1.b hc hf h0 h1 hwx.1 hwx.2).mono ?_
 rintro e w' ⟨rfl, W2, hb, rfl⟩
 have q1' := q1.below hb
 have q2' := Boxed.below_ q2 hb
 have q3' := Kd.R_below q3 hb
 have hp := Kd.R_putg q3' at_ (aimS (rd T at_) to_).1
 have hgt : w5.heap.size ≤ gt := Kd.R_base q3 gt rfl
 obtain ⟨cells, hcl⟩ := Kd.R_typed q3' gt rfl
 refine ⟨rfl, ⟨_, q1'.grown hp.2 (Kd.R_ne q3' q1'.b (by decide)) (Kd.R_ne q3' q1'.p (by decide)) (fun g z => by have := Option.some.inj z; omega), blk_grown q2' hp.2 (Kd.R_ne q3' q2' (by decide)), hp.1⟩, (St.below hb q1.low.size).trans (St.grown hp.2 (fun g z => ?_) (Nat.le_trans q1.low.size hb.size))⟩
 obtain rfl := Option.some.inj z
 exact ⟨hgt, _, _, hcl, by decide⟩
end
theorem ne_typesL {W : World} {k j : Nat} {cs cs' : Array Value} {t t' : TypeId} (h : W.heap[k]? = some (.cells cs t (0, 0))) (h' : W.heap[j]? = some (.cells cs' t' (0, 0))) (ht : t ≠ t') : k ≠ j := fun z => by
 subst z
 rw [h] at h'
 injection h' with h'
 injection h' with _ h'
 exact ht h'
theorem C_zero {W : World} {g : Nat} (h : W.heap[g]? = some (.cells #[.int .u32 0] 63 (0, 0))) : Kd.C (Kd.int .u32) W (some ⟨g, 0, none⟩) 1 [0] :=
 ⟨rfl, by decide, fun _ => ⟨_, rfl, fun j p hj => by
  cases j with
  | zero =>
   obtain rfl : (0 : Int) = p := by simpa using hj
   refine ⟨[.int .u32 0], rfl, rfl, fun i u hu => ?_⟩
   cases i with
   | zero =>
    obtain rfl : Value.int .u32 0 = u := by simpa using hu
    exact (blk_cell h 0).trans rfl
   | succ i => cases hu
  | succ j => cases hj⟩⟩
structure GS (w5 W0 : World) (gp g20 g21 : Nat) (en : Int) (mv : Value) (Bx : Nat) (cs : Array Value) (vT : Value) (W : World) : Prop where
  pat : Pat w5 W gp g20 vT en mv
  f : Boxed W g21 124 (.func (.func 63) #[] #[])
  o : W.heap[Bx]? = some (.cells cs 27 (0, 0))
  st : St w5.heap.size W0 W
section
variable {w5 W0 W W1 : World} {gp g20 g21 Bx : Nat} {vT mv : Value} {en : Int} {cs : Array Value} {T : List Int}
theorem GS.below (h : GS w5 W0 gp g20 g21 en mv Bx cs vT W) (hb : Below W.heap.size W W1) : GS w5 W0 gp g20 g21 en mv Bx cs vT W1 :=
 ⟨h.pat.below hb, blk_below h.f hb, blk_below h.o hb, h.st.trans (St.below hb h.pat.low.size)⟩
theorem GS.app {v : Value} {xs : List Int} {ok : Nat → Prop} (h : GS w5 W0 gp g20 g21 en mv Bx cs vT W) (hr : Kd.R (Kd.int .u32) 63 W w5.heap.size ok v xs) (hg : W.grownBy W1 v.ownBlock) : GS w5 W0 gp g20 g21 en mv Bx cs vT W1 :=
  ⟨h.pat.grown hg (Kd.R_ne hr h.pat.b (by decide)) (Kd.R_ne hr h.pat.p (by decide)) (fun g z => Kd.R_base hr g z), blk_grown h.f hg (Kd.R_ne hr h.f (by decide)), blk_grown h.o hg (Kd.R_ne hr h.o (by decide)),
    h.st.trans (St.grown hg (fun g z => by
      obtain ⟨cells, hc⟩ := Kd.R_typed hr g z
      exact ⟨Kd.R_base hr g z, _, _, hc, by decide⟩) h.pat.low.size)⟩
theorem GS.put (h : GS w5 W0 gp g20 g21 en mv Bx cs vT W) (v' : Value) : GS w5 W0 gp g20 g21 en mv Bx cs v' (W.setCell ⟨gp, 0, none⟩ v') ∧ W.grownBy (W.setCell ⟨gp, 0, none⟩ v') (some gp) := by
  have hp := put_set (j := 0) (x := v') h.pat.b
  have k := put_grownN hp
  refine ⟨⟨⟨h.pat.low.setCell (p := ⟨gp, 0, none⟩) h.pat.gb _, hp.blk, blk_grown h.pat.p k (fun z => ne_typesL h.pat.p h.pat.b (by decide) (Option.some.inj z)), h.pat.gb, h.pat.g2⟩, blk_grown h.f k (fun z => ne_typesL h.f h.pat.b (by decide) (Option.some.inj z)), blk_grown h.o k (fun z => ne_typesL h.o h.pat.b (by decide) (Option.some.inj z)),
    h.st.trans (St.grown k (fun g z => by
      obtain rfl := Option.some.inj z
      exact ⟨h.pat.gb, _, _, h.pat.b, by decide⟩) h.pat.low.size)⟩, k⟩
theorem GS.cells {A : Option Addr} {n c : Nat} {x0 x2 x3 x4 x5 : Value} {A1 : Option Addr} {n1 c1 : Nat} (h : GS w5 W0 gp g20 g21 en mv Bx #[x0, .slice A1 n1 c1, x2, x3, x4, x5] (.slice A n c) W) : W.cell? ⟨g20, 0, none⟩ = some (.pointer (some ⟨gp, 0, none⟩)) ∧ W.cell? ⟨gp, 0, none⟩ = some (.slice A n c) ∧ W.cell? ⟨Bx, 1, none⟩ = some (.slice A1 n1 c1) :=
 ⟨h.pat.p.cell, (blk_cell h.pat.b 0).trans rfl, (blk_cell h.o 1).trans rfl⟩
theorem row_not_new {v : Value} {xs : List Int} {ok : Nat → Prop} {b e : Nat} {k : IntKind} (hr : Kd.R (Kd.int k) e W b ok v xs) : some W.heap.size ≠ v.ownBlock := fun z => by
 obtain ⟨cells, hc⟩ := Kd.R_typed hr _ z.symm
 have := (Array.getElem?_eq_some_iff.1 hc).1
 omega
end
section
variable {w5 W W1 : World} {gp g20 g21 : Nat} {mv : Value} {en : Int} {T : List Int}
theorem TX.put {g : Nat} {cs cs0 : Array Value} {t : TypeId} (h : TX w5 gp g20 g21 en mv T W) (hp : Put W W1 g cs t) (hb : W.heap[g]? = some (.cells cs0 t (0, 0))) (h1 : 123 ≠ t) (h2 : 121 ≠ t) (h3 : 124 ≠ t) (h4 : 63 ≠ t) (hg : w5.heap.size ≤ g) : TX w5 gp g20 g21 en mv T W1 := by
 obtain ⟨vT, q1, q2, q3⟩ := h
 have k := put_grownN hp
 exact ⟨vT, ⟨hp.below q1.low hg, blk_grown q1.b k (fun z => ne_typesL q1.b hb h1 (Option.some.inj z)), blk_grown q1.p k (fun z => ne_typesL q1.p hb h2 (Option.some.inj z)), q1.gb, q1.g2⟩, blk_grown q2 k (fun z => ne_typesL q2 hb h3 (Option.some.inj z)), Kd.R_grown1 q3 rfl k (Kd.R_ne q3 hb h4)⟩
structure TK (w5 : World) (gp g20 g21 : Nat) (en : Int) (mv : Value) (D2 : Nat) (T : List Int) (W : World) : Prop where
  tx : TX w5 gp g20 g21 en mv T W
  dk : W.heap[D2]? = some (.deferred (some []))
theorem TK.low {D2 : Nat} (h : TK w5 gp g20 g21 en mv D2 T W) : Below w5.heap.size w5 W := by obtain ⟨_, q, _⟩ := h.tx; exact q.low
theorem TK.below {D2 : Nat} (h : TK w5 gp g20 g21 en mv D2 T W) (hb : Below W.heap.size W W1) : TK w5 gp g20 g21 en mv D2 T W1 := ⟨h.tx.below hb, blk_below h.dk hb⟩
theorem df_put {D2 g : Nat} {cs cs0 : Array Value} {t : TypeId} (h : W.heap[D2]? = some (.deferred (some []))) (hp : Put W W1 g cs t) (hb : W.heap[g]? = some (.cells cs0 t (0, 0))) : W1.heap[D2]? = some (.deferred (some [])) :=
 ((put_grownN hp).block D2 (Array.getElem?_eq_some_iff.1 h).1 (fun z => by
  obtain rfl := Option.some.inj z
  rw [h] at hb
  cases hb)).trans h
theorem TK.put {D2 g : Nat} {cs cs0 : Array Value} {t : TypeId} (h : TK w5 gp g20 g21 en mv D2 T W) (hp : Put W W1 g cs t) (hb : W.heap[g]? = some (.cells cs0 t (0, 0))) (h1 : 123 ≠ t) (h2 : 121 ≠ t) (h3 : 124 ≠ t) (h4 : 63 ≠ t) (hg : w5.heap.size ≤ g) : TK w5 gp g20 g21 en mv D2 T W1 :=
 ⟨h.tx.put hp hb h1 h2 h3 h4 hg, df_put h.dk hp hb⟩
theorem TK.aimed {D2 : Nat} (h : TK w5 gp g20 g21 en mv D2 T W) {at_ to_ : Int} (h0 : 0 ≤ at_) (h1 : at_ < T.length) (hw : ∀ x ∈ T, 0 ≤ x ∧ x < 4294967296) :
  Calls Tryd.prog 63 #[.pointer (some ⟨gp, 0, none⟩), .int .i64 at_, .int .i64 to_] W fun e w' => e = .returned (.tuple #[]) ∧ TK w5 gp g20 g21 en mv D2 (aimT T at_ to_) w' :=
 (h.tx.aimed h0 h1 hw).mono fun e w' ⟨h1, h2, h3⟩ => ⟨h1, h2, h3.ot.same D2 _ h.dk rfl⟩
theorem TK.cells {D2 : Nat} (h : TK w5 gp g20 g21 en mv D2 T W) : W.cell? ⟨g21, 0, none⟩ = some (.func (.func 63) #[] #[]) ∧ W.cell? ⟨g20, 0, none⟩ = some (.pointer (some ⟨gp, 0, none⟩)) := by
 obtain ⟨_, q1, q2, _⟩ := h.tx
 exact ⟨q2.cell, q1.p.cell⟩
end
end Go.Proofs.YtiaohbbafaaibabDoor.P

/- What the Go functions named below come to, as plain functions, each with its proof; written by this session's prt.py over the kit's print. -/
namespace Go.Proofs.YtiaohbbafaaibabDoor.P
open Go.RowKit Go.Proofs.YtiaohbbafaaibabDoorW.PrintWords Go.Proofs.YtiaohbbafaaibabDoorW.PrintLast Go.Proofs.YtiaohbbafaaibabDoorW.PrintMore
attribute [local go_sem] max2_int min2_int max_two min_two max_three min_three max_four min_four   -- for this text's walks alone
set_option linter.unusedVariables false
set_option linter.unusedSimpArgs false
def pleatref00_CopyWords.f (l0 : List Int) : Option (List Int) := if ([] : List Int).length + l0.length < 35184372088832 then (some (([] : List Int) ++ l0)) else (none)
set_option maxHeartbeats 8000000 in
set_option maxRecDepth 100000 in
theorem pleatref00_CopyWords.calls (A0 : Option Addr) (c0 : Nat) (l0 : List Int) (r : List Int) (w : World) (hr0 : Kd.C (Kd.int .u32) w A0 l0.length l0) (hc0 : l0.length ≤ c0) (h : pleatref00_CopyWords.f l0 = some r) :
  Calls Tryd.prog 49 #[.slice A0 l0.length c0] w fun e w' => ∃ v0_ : Value, e = .returned (v0_) ∧ Kd.R (Kd.int .u32) 63 w' w.heap.size (fun _ => True) v0_ r ∧ Below w.heap.size w w' := by
 have HR0 := Aside0.mk hr0
 have HC0 := Aside0.mk hc0
 clear hr0 hc0
 have HB := Aside0.mk (Below.refl w.heap.size w)
 have H : (if ([] : List Int).length + l0.length < 35184372088832 then (some (([] : List Int) ++ l0)) else (none)) = some r := h
 clear h
 by_cases c2 : ([] : List Int).length + l0.length < 35184372088832
 ·
  rw [if_pos c2] at H
  have LMc2 := Aside0.mk c2
  clear c2
  obtain ⟨y197, hy197⟩ : ∃ y_ : List Int, y_ = (([] : List Int) ++ l0) := ⟨_, rfl⟩
  replace H : (some y197) = some r := by first | (rw [hy197]; with_reducible exact H) | (have H2_ := (Option.bind_some _ _).symm.trans H; rw [hy197]; with_reducible exact H2_) | (have H2_ := (Option.bind_some _ _).symm.trans H; with_reducible exact H2_) | with_reducible exact H | (rw [hy197]; exact H) | exact H
  have Ny197 := Aside0.mk hy197
  clear hy197
  obtain rfl := Option.some.inj H
  go_enter Tryd.func49, Tryd.ntmps49
  go_wp2_with (first | ((with_reducible refine gate_builtin (b := .append) (xs := #[.tmp 4, .tmp 5]) rfl ?_); at_builtin; refine Kd.R_append_rows (Kd.int .u32) (w0 := w) w.heap.size rfl (.tmp 4) (.tmp 5) 22 63 (.int .u32 0) 4 rfl Tryd.underlying22 info63 rfl (by decide) (by omega) (.slice none 0 0) ([] : List Int) l0 _ _ _ (fun _ => True) (fun _ => False) rfl rfl ?aO ?aR (fun _ _ h => h) (fun _ h => h.elim) ?aF ?aB ?aS ?aL ?_; (case aR => repeat (first | exact HR0.out | (with_reducible refine Kd.C_alloc ?_ _) | (with_reducible refine Kd.C_drewN ?_ _) | (with_reducible refine Kd.C_drew ?_))); (case aB => exact (bwQ HB.out)); (case aF => exact (fun _ _ => trivial)); (case aO => exact ((Kd.R_nil _ _ _ _ (fun _ => True)))); (case aS => exact (below_size (bwQ HB.out))); (case aL => have := LMc2.out; omega); intro v198 w3 ho hb hg hat; rw [← Ny197.out] at ho; replace HB := Aside0.mk (hb); have HO199 := Aside0.mk (ho); clear ho hb hg hat))
  go_ret
  exact ⟨_, by first | rfl | (simp [errW_none, errW_some] <;> rfl) | (simp [*, errW_none, errW_some] <;> rfl), by (with_reducible repeat (first | apply Kd.R_alloc | apply Kd.R_drewN | apply Kd.R_drew)); exact HO199.out, bwQ HB.out⟩
 ·
  rw [if_neg c2] at H
  exact absurd H (by simp)


def pleatref00_CopyLongs.f (l0 : List Int) : Option (List Int) := if ([] : List Int).length + l0.length < 17592186044416 then (some (([] : List Int) ++ l0)) else (none)
set_option maxHeartbeats 8000000 in
set_option maxRecDepth 100000 in
theorem pleatref00_CopyLongs.calls (A0 : Option Addr) (c0 : Nat) (l0 : List Int) (r : List Int) (w : World) (hr0 : Kd.C (Kd.int .i64) w A0 l0.length l0) (hc0 : l0.length ≤ c0) (h : pleatref00_CopyLongs.f l0 = some r) :
  Calls Tryd.prog 50 #[.slice A0 l0.length c0] w fun e w' => ∃ v0_ : Value, e = .returned (v0_) ∧ Kd.R (Kd.int .i64) 2 w' w.heap.size (fun _ => True) v0_ r ∧ Below w.heap.size w w' := by
 have HR0 := Aside0.mk hr0
 have HC0 := Aside0.mk hc0
 clear hr0 hc0
 have HB := Aside0.mk (Below.refl w.heap.size w)
 have H : (if ([] : List Int).length + l0.length < 17592186044416 then (some (([] : List Int) ++ l0)) else (none)) = some r := h
 clear h
 by_cases c2 : ([] : List Int).length + l0.length < 17592186044416
 ·
  rw [if_pos c2] at H
  have LMc2 := Aside0.mk c2
  clear c2
  obtain ⟨y200, hy200⟩ : ∃ y_ : List Int, y_ = (([] : List Int) ++ l0) := ⟨_, rfl⟩
  replace H : (some y200) = some r := by first | (rw [hy200]; with_reducible exact H) | (have H2_ := (Option.bind_some _ _).symm.trans H; rw [hy200]; with_reducible exact H2_) | (have H2_ := (Option.bind_some _ _).symm.trans H; with_reducible exact H2_) | with_reducible exact H | (rw [hy200]; exact H) | exact H
  have Ny200 := Aside0.mk hy200
  clear hy200
  obtain rfl := Option.some.inj H
  go_enter Tryd.func50, Tryd.ntmps50
  go_wp2_with (first | ((with_reducible refine gate_builtin (b := .append) (xs := #[.tmp 4, .tmp 5]) rfl ?_); at_builtin; refine Kd.R_append_rows (Kd.int .i64) (w0 := w) w.heap.size rfl (.tmp 4) (.tmp 5) 23 2 (.int .i64 0) 8 rfl Tryd.underlying23 info2 rfl (by decide) (by omega) (.slice none 0 0) ([] : List Int) l0 _ _ _ (fun _ => True) (fun _ => False) rfl rfl ?aO ?aR (fun _ _ h => h) (fun _ h => h.elim) ?aF ?aB ?aS ?aL ?_; (case aR => repeat (first | exact HR0.out | (with_reducible refine Kd.C_alloc ?_ _) | (with_reducible refine Kd.C_drewN ?_ _) | (with_reducible refine Kd.C_drew ?_))); (case aB => exact (bwQ HB.out)); (case aF => exact (fun _ _ => trivial)); (case aO => exact ((Kd.R_nil _ _ _ _ (fun _ => True)))); (case aS => exact (below_size (bwQ HB.out))); (case aL => have := LMc2.out; omega); intro v201 w3 ho hb hg hat; rw [← Ny200.out] at ho; replace HB := Aside0.mk (hb); have HO202 := Aside0.mk (ho); clear ho hb hg hat))
  go_ret
  exact ⟨_, by first | rfl | (simp [errW_none, errW_some] <;> rfl) | (simp [*, errW_none, errW_some] <;> rfl), by (with_reducible repeat (first | apply Kd.R_alloc | apply Kd.R_drewN | apply Kd.R_drew)); exact HO202.out, bwQ HB.out⟩
 ·
  rw [if_neg c2] at H
  exact absurd H (by simp)


def pleatref00_CopySymbols.f (l0 : List (S75)) : Option ((List (S75))) := if ([] : List (S75)).length + l0.length < 4398046511104 then (some (([] : List (S75)) ++ l0)) else (none)
set_option maxHeartbeats 8000000 in
set_option maxRecDepth 100000 in
theorem pleatref00_CopySymbols.calls (A0 : Option Addr) (c0 : Nat) (l0 : List (S75)) (r : List (S75)) (w : World) (hr0 : Kd.C k75 w A0 l0.length l0) (hc0 : l0.length ≤ c0) (h : pleatref00_CopySymbols.f l0 = some r) :
  Calls Tryd.prog 51 #[.slice A0 l0.length c0] w fun e w' => ∃ v0_ : Value, e = .returned (v0_) ∧ Kd.R k75 75 w' w.heap.size (fun _ => True) v0_ r ∧ Below w.heap.size w w' := by
 have HR0 := Aside0.mk hr0
 have HC0 := Aside0.mk hc0
 clear hr0 hc0
 have HB := Aside0.mk (Below.refl w.heap.size w)
 have H : (if ([] : List (S75)).length + l0.length < 4398046511104 then (some (([] : List (S75)) ++ l0)) else (none)) = some r := h
 clear h
 by_cases c2 : ([] : List (S75)).length + l0.length < 4398046511104
 ·
  rw [if_pos c2] at H
  have LMc2 := Aside0.mk c2
  clear c2
  obtain ⟨y203, hy203⟩ : ∃ y_ : List (S75), y_ = (([] : List (S75)) ++ l0) := ⟨_, rfl⟩
  replace H : (some y203) = some r := by first | (rw [hy203]; with_reducible exact H) | (have H2_ := (Option.bind_some _ _).symm.trans H; rw [hy203]; with_reducible exact H2_) | (have H2_ := (Option.bind_some _ _).symm.trans H; with_reducible exact H2_) | with_reducible exact H | (rw [hy203]; exact H) | exact H
  have Ny203 := Aside0.mk hy203
  clear hy203
  obtain rfl := Option.some.inj H
  go_enter Tryd.func51, Tryd.ntmps51
  go_wp2_with (first | ((with_reducible refine gate_builtin (b := .append) (xs := #[.tmp 4, .tmp 5]) rfl ?_); at_builtin; refine Kd.R_append_rows k75 (w0 := w) w.heap.size rfl (.tmp 4) (.tmp 5) 24 75 (.agg #[(.string ⟨#[]⟩), (.int .i8 0), (.int .i64 0)]) 32 rfl Tryd.underlying24 info75 rfl (by decide) (by omega) (.slice none 0 0) ([] : List (S75)) l0 _ _ _ (fun _ => True) (fun _ => False) rfl rfl ?aO ?aR (fun _ _ h => h) (fun _ h => h.elim) ?aF ?aB ?aS ?aL ?_; (case aR => repeat (first | exact HR0.out | (with_reducible refine Kd.C_alloc ?_ _) | (with_reducible refine Kd.C_drewN ?_ _) | (with_reducible refine Kd.C_drew ?_))); (case aB => exact (bwQ HB.out)); (case aF => exact (fun _ _ => trivial)); (case aO => exact ((Kd.R_nil _ _ _ _ (fun _ => True)))); (case aS => exact (below_size (bwQ HB.out))); (case aL => have := LMc2.out; omega); intro v204 w3 ho hb hg hat; rw [← Ny203.out] at ho; replace HB := Aside0.mk (hb); have HO205 := Aside0.mk (ho); clear ho hb hg hat))
  go_ret
  exact ⟨_, by first | rfl | (simp [errW_none, errW_some] <;> rfl) | (simp [*, errW_none, errW_some] <;> rfl), by (with_reducible repeat (first | apply Kd.R_alloc | apply Kd.R_drewN | apply Kd.R_drew)); exact HO205.out, bwQ HB.out⟩
 ·
  rw [if_neg c2] at H
  exact absurd H (by simp)


def pleatref00_CopyRelocs.f (l0 : List (S68)) : Option ((List (S68))) := if ([] : List (S68)).length + l0.length < 8796093022208 then (some (([] : List (S68)) ++ l0)) else (none)
set_option maxHeartbeats 8000000 in
set_option maxRecDepth 100000 in
theorem pleatref00_CopyRelocs.calls (A0 : Option Addr) (c0 : Nat) (l0 : List (S68)) (r : List (S68)) (w : World) (hr0 : Kd.C k68 w A0 l0.length l0) (hc0 : l0.length ≤ c0) (h : pleatref00_CopyRelocs.f l0 = some r) :
  Calls Tryd.prog 52 #[.slice A0 l0.length c0] w fun e w' => ∃ v0_ : Value, e = .returned (v0_) ∧ Kd.R k68 68 w' w.heap.size (fun _ => True) v0_ r ∧ Below w.heap.size w w' := by
 have HR0 := Aside0.mk hr0
 have HC0 := Aside0.mk hc0
 clear hr0 hc0
 have HB := Aside0.mk (Below.refl w.heap.size w)
 have H : (if ([] : List (S68)).length + l0.length < 8796093022208 then (some (([] : List (S68)) ++ l0)) else (none)) = some r := h
 clear h
 by_cases c2 : ([] : List (S68)).length + l0.length < 8796093022208
 ·
  rw [if_pos c2] at H
  have LMc2 := Aside0.mk c2
  clear c2
  obtain ⟨y206, hy206⟩ : ∃ y_ : List (S68), y_ = (([] : List (S68)) ++ l0) := ⟨_, rfl⟩
  replace H : (some y206) = some r := by first | (rw [hy206]; with_reducible exact H) | (have H2_ := (Option.bind_some _ _).symm.trans H; rw [hy206]; with_reducible exact H2_) | (have H2_ := (Option.bind_some _ _).symm.trans H; with_reducible exact H2_) | with_reducible exact H | (rw [hy206]; exact H) | exact H
  have Ny206 := Aside0.mk hy206
  clear hy206
  obtain rfl := Option.some.inj H
  go_enter Tryd.func52, Tryd.ntmps52
  go_wp2_with (first | ((with_reducible refine gate_builtin (b := .append) (xs := #[.tmp 4, .tmp 5]) rfl ?_); at_builtin; refine Kd.R_append_rows k68 (w0 := w) w.heap.size rfl (.tmp 4) (.tmp 5) 25 68 (.agg #[(.int .i64 0), (.int .i64 0)]) 16 rfl Tryd.underlying25 info68 rfl (by decide) (by omega) (.slice none 0 0) ([] : List (S68)) l0 _ _ _ (fun _ => True) (fun _ => False) rfl rfl ?aO ?aR (fun _ _ h => h) (fun _ h => h.elim) ?aF ?aB ?aS ?aL ?_; (case aR => repeat (first | exact HR0.out | (with_reducible refine Kd.C_alloc ?_ _) | (with_reducible refine Kd.C_drewN ?_ _) | (with_reducible refine Kd.C_drew ?_))); (case aB => exact (bwQ HB.out)); (case aF => exact (fun _ _ => trivial)); (case aO => exact ((Kd.R_nil _ _ _ _ (fun _ => True)))); (case aS => exact (below_size (bwQ HB.out))); (case aL => have := LMc2.out; omega); intro v207 w3 ho hb hg hat; rw [← Ny206.out] at ho; replace HB := Aside0.mk (hb); have HO208 := Aside0.mk (ho); clear ho hb hg hat))
  go_ret
  exact ⟨_, by first | rfl | (simp [errW_none, errW_some] <;> rfl) | (simp [*, errW_none, errW_some] <;> rfl), by (with_reducible repeat (first | apply Kd.R_alloc | apply Kd.R_drewN | apply Kd.R_drew)); exact HO208.out, bwQ HB.out⟩
 ·
  rw [if_neg c2] at H
  exact absurd H (by simp)


def pleatref00_CopyObject.f (a0_0 : ByteArray) (l0_1 : List Int) (a0_2 : Int) (l0_3 : List Int) (l0_4 : List (S75)) (l0_5 : List (S68)) : Option (ByteArray × List Int × Int × List Int × (List (S75)) × (List (S68))) := (pleatref00_CopyWords.f l0_1).bind fun t211 => ((pleatref00_CopyLongs.f l0_3).bind fun t214 => ((pleatref00_CopySymbols.f l0_4).bind fun t217 => ((pleatref00_CopyRelocs.f l0_5).bind fun t220 => (some (a0_0, t211, a0_2, t214, t217, t220)))))
set_option maxHeartbeats 8000000 in
set_option maxRecDepth 100000 in
theorem pleatref00_CopyObject.calls (a0_0 : ByteArray) (A0_1 : Option Addr) (c0_1 : Nat) (l0_1 : List Int) (a0_2 : Int) (A0_3 : Option Addr) (c0_3 : Nat) (l0_3 : List Int) (A0_4 : Option Addr) (c0_4 : Nat) (l0_4 : List (S75)) (A0_5 : Option Addr) (c0_5 : Nat) (l0_5 : List (S68)) (r1 : ByteArray) (r2 : List Int) (r3 : Int) (r4 : List Int) (r5 : List (S75)) (r6 : List (S68)) (w : World) (hr0_1 : Kd.C (Kd.int .u32) w A0_1 l0_1.length l0_1) (hc0_1 : l0_1.length ≤ c0_1) (hr0_3 : Kd.C (Kd.int .i64) w A0_3 l0_3.length l0_3) (hc0_3 : l0_3.length ≤ c0_3) (hr0_4 : Kd.C k75 w A0_4 l0_4.length l0_4) (hc0_4 : l0_4.length ≤ c0_4) (hr0_5 : Kd.C k68 w A0_5 l0_5.length l0_5) (hc0_5 : l0_5.length ≤ c0_5) (h : pleatref00_CopyObject.f a0_0 l0_1 a0_2 l0_3 l0_4 l0_5 = some (r1, r2, r3, r4, r5, r6)) :
  Calls Tryd.prog 12 #[.agg #[.string a0_0, .slice A0_1 l0_1.length c0_1, .int .i64 a0_2, .slice A0_3 l0_3.length c0_3, .slice A0_4 l0_4.length c0_4, .slice A0_5 l0_5.length c0_5]] w fun e w' => ∃ v1_ v3_ v4_ v5_ : Value, e = .returned (.agg #[.string r1, v1_, .int .i64 r3, v3_, v4_, v5_]) ∧ Kd.R (Kd.int .u32) 63 w' w.heap.size (fun _ => True) v1_ r2 ∧ Kd.R (Kd.int .i64) 2 w' w.heap.size (fun _ => True) v3_ r4 ∧ Kd.R k75 75 w' w.heap.size (fun _ => True) v4_ r5 ∧ Kd.R k68 68 w' w.heap.size (fun _ => True) v5_ r6 ∧ Below w.heap.size w w' := by
 have hu27 := Tryd.underlying27
 have HR0_1 := Aside0.mk hr0_1
 have HC0_1 := Aside0.mk hc0_1
 clear hr0_1 hc0_1
 have HR0_3 := Aside0.mk hr0_3
 have HC0_3 := Aside0.mk hc0_3
 clear hr0_3 hc0_3
 have HR0_4 := Aside0.mk hr0_4
 have HC0_4 := Aside0.mk hc0_4
 clear hr0_4 hc0_4
 have HR0_5 := Aside0.mk hr0_5
 have HC0_5 := Aside0.mk hc0_5
 clear hr0_5 hc0_5
 have HB := Aside0.mk (Below.refl w.heap.size w)
 have H : ((pleatref00_CopyWords.f l0_1).bind fun t211 => ((pleatref00_CopyLongs.f l0_3).bind fun t214 => ((pleatref00_CopySymbols.f l0_4).bind fun t217 => ((pleatref00_CopyRelocs.f l0_5).bind fun t220 => (some (a0_0, t211, a0_2, t214, t217, t220)))))) = some (r1, r2, r3, r4, r5, r6) := h
 clear h
 replace H := Option.bind_eq_some_iff.mp H
 obtain ⟨t211, A20, H⟩ := H
 try dsimp only at H
 have A2 := Aside0.mk A20
 clear A20
 replace H := Option.bind_eq_some_iff.mp H
 obtain ⟨t214, A30, H⟩ := H
 try dsimp only at H
 have A3 := Aside0.mk A30
 clear A30
 replace H := Option.bind_eq_some_iff.mp H
 obtain ⟨t217, A40, H⟩ := H
 try dsimp only at H
 have A4 := Aside0.mk A40
 clear A40
 replace H := Option.bind_eq_some_iff.mp H
 obtain ⟨t220, A50, H⟩ := H
 try dsimp only at H
 have A5 := Aside0.mk A50
 clear A50
 simp only [Option.some.injEq, Prod.mk.injEq] at H
 obtain ⟨rfl, rfl, rfl, rfl, rfl, rfl⟩ := H
 go_enter Tryd.func12, Tryd.ntmps12
 go_wp2_with (first | ((with_reducible refine gate_dst (N := 1) rfl ?_); refine box_event ?hg (N := 1) ?hd (cs := #[.string a0_0, .slice A0_1 l0_1.length c0_1, .int .i64 a0_2, .slice A0_3 l0_3.length c0_3, .slice A0_4 l0_4.length c0_4, .slice A0_5 l0_5.length c0_5]) (t := 27) ?hr ?_; (case hd => rfl); (case hg => rfl); (case hr => go_simp; try rfl); intro gb209 hg w6 hbox hb; have BK209 := Aside0.mk (hbox); have GW209 := Aside0.mk (gwQ hg HB.out); have GE209 := Aside0.mk (gwQ hg HB.out); replace HB := Aside0.mk (bsQ hb HB.out); clear hb hbox hg) | ((with_reducible refine gate_dst (N := 2) rfl ?_); refine box_event ?hg (N := 2) ?hd (cs := #[.string (⟨#[]⟩ : ByteArray), .slice none 0 0, .int .i64 0, .slice none 0 0, .slice none 0 0, .slice none 0 0]) (t := 27) ?hr ?_; (case hd => rfl); (case hg => rfl); (case hr => go_simp; try rfl); intro gb210 hg w7 hbox hb; have n0_ := Aside0.mk (bbQ hb BK209.out); have n1_ := Aside0.mk (bs1Q hb (by repeat with_reducible first | exact HB.out | apply pw_below_drewN | apply below_drew1 | refine below_set ?_ GE209.out)); have n2_ := Aside0.mk (hbox); have n3_ := Aside0.mk (gw1Q hg (by repeat with_reducible first | exact HB.out | apply pw_below_drewN | apply below_drew1 | refine below_set ?_ GE209.out)); have n4_ := Aside0.mk (gw1Q hg (by repeat with_reducible first | exact HB.out | apply pw_below_drewN | apply below_drew1 | refine below_set ?_ GE209.out)); have n5_ := Aside0.mk ((by rw [hg]; exact Nat.ne_of_lt (blk_lt (g := gb209) (o := .cells #[.string a0_0, .slice A0_1 l0_1.length c0_1, .int .i64 a0_2, .slice A0_3 l0_3.length c0_3, .slice A0_4 l0_4.length c0_4, .slice A0_5 l0_5.length c0_5] 27 (0, 0)) (by exact BK209.out)) : gb209 ≠ gb210)); have n6_ := Aside0.mk ((by rw [hg]; exact Nat.ne_of_gt (blk_lt (g := gb209) (o := .cells #[.string a0_0, .slice A0_1 l0_1.length c0_1, .int .i64 a0_2, .slice A0_3 l0_3.length c0_3, .slice A0_4 l0_4.length c0_4, .slice A0_5 l0_5.length c0_5] 27 (0, 0)) (by exact BK209.out)) : gb210 ≠ gb209)); clear BK209; clear HB; have BK209 := n0_; have HB := n1_; have BK210 := n2_; have GW210 := n3_; have GE210 := n4_; have NB209_210 := n5_; have NB210_209 := n6_; clear n0_ n1_ n2_ n3_ n4_ n5_ n6_; clear hb hbox hg; have hnb8 := NB209_210.out; have hnc8 := NB210_209.out; obtain ⟨hcz9_0, hcz9_1, hcz9_2, hcz9_3, hcz9_4, hcz9_5⟩ := bcQ6 BK209.out; obtain ⟨hfz9_0, hfz9_1, hfz9_2, hfz9_3, hfz9_4, hfz9_5⟩ := fzQ6 BK209.out) | ((with_reducible refine gate_callee (f := 49) rfl ?_); refine goesL_ (some 5) rfl rfl Tryd.func49 (by kernel_rfl) rfl #[.slice A0_1 l0_1.length c0_1] rfl (by (try simp only [List.map_toArray, List.map_cons, List.map_nil]); try rfl) ?_; (with_reducible refine (pleatref00_CopyWords.calls _ _ l0_1 t211 _ ?side1 ?side2 A2.out).mono ?_); (case side1 => exact cbQ HB.out HR0_1.out); (case side2 => exact HC0_1.out); rintro e w10 ⟨v212, rfl, ho0, hb⟩; refine ⟨_, rfl, ?_⟩; have HO213 := Aside0.mk (Kd.R_lower ho0 (below_size (by repeat with_reducible first | exact HB.out | apply pw_below_drewN | apply below_drew1 | refine below_set ?_ GE209.out | refine below_set ?_ GE210.out))); replace BK209 := Aside0.mk (bbQ hb BK209.out); replace BK210 := Aside0.mk (bbQ hb BK210.out); replace HB := Aside0.mk (bs1Q hb (by repeat with_reducible first | exact HB.out | apply pw_below_drewN | apply below_drew1 | refine below_set ?_ GE209.out | refine below_set ?_ GE210.out)); (try clear hb); (try clear hb2); (try clear hk); (try clear hi); (try clear ho0); obtain ⟨Ao11, co11, eo11⟩ := Kd.R_slice HO213.out; subst eo11; obtain ⟨hcz12_0, hcz12_1, hcz12_2, hcz12_3, hcz12_4, hcz12_5⟩ := bcQ6 BK209.out; obtain ⟨hfz12_0, hfz12_1, hfz12_2, hfz12_3, hfz12_4, hfz12_5⟩ := fzQ6 BK209.out) | ((with_reducible refine gate_callee (f := 50) rfl ?_); refine goesL_ (some 9) rfl rfl Tryd.func50 (by kernel_rfl) rfl #[.slice A0_3 l0_3.length c0_3] rfl (by (try simp only [List.map_toArray, List.map_cons, List.map_nil]); try rfl) ?_; (with_reducible refine (pleatref00_CopyLongs.calls _ _ l0_3 t214 _ ?side1 ?side2 A3.out).mono ?_); (case side1 => exact Kd.C_below HR0_3.out (by repeat with_reducible first | exact HB.out | apply pw_below_drewN | apply below_drew1 | refine below_set ?_ GE209.out | refine below_set ?_ GE210.out)); (case side2 => exact HC0_3.out); rintro e w13 ⟨v215, rfl, ho0, hb⟩; refine ⟨_, rfl, ?_⟩; have n0_ := Aside0.mk (Kd.R_below (by (with_reducible repeat (first | apply Kd.R_alloc | apply Kd.R_drewN | apply Kd.R_drew)); exact (Kd.R_mono (Kd.R_far (p := ⟨gb209, 1, none⟩) (Kd.R_types HO213.out BK209.out (by decide)) (fun _ hk => hk.2) (.slice Ao11 t211.length co11)) (fun _ h_ => h_.1))) hb); have n1_ := Aside0.mk (Kd.R_lower ho0 (below_size (by repeat with_reducible first | exact HB.out | apply pw_below_drewN | apply below_drew1 | refine below_set ?_ GE209.out | refine below_set ?_ GE210.out))); have n2_ := Aside0.mk (blk_below (g := gb209) (o := .cells #[.string a0_0, .slice Ao11 t211.length co11, .int .i64 a0_2, .slice A0_3 l0_3.length c0_3, .slice A0_4 l0_4.length c0_4, .slice A0_5 l0_5.length c0_5] 27 (0, 0)) (by refine blk_put (cs := #[.string a0_0, .slice A0_1 l0_1.length c0_1, .int .i64 a0_2, .slice A0_3 l0_3.length c0_3, .slice A0_4 l0_4.length c0_4, .slice A0_5 l0_5.length c0_5]) ?_ 1 _ rfl; exact BK209.out) hb); have n3_ := Aside0.mk (blk_below (g := gb210) (o := .cells #[.string (⟨#[]⟩ : ByteArray), .slice none 0 0, .int .i64 0, .slice none 0 0, .slice none 0 0, .slice none 0 0] 27 (0, 0)) (by refine blk_far ?_ NB210_209.out _; exact BK210.out) hb); have n4_ := Aside0.mk (bs1Q hb (by repeat with_reducible first | exact HB.out | apply pw_below_drewN | apply below_drew1 | refine below_set ?_ GE209.out | refine below_set ?_ GE210.out)); clear HO213; clear BK209; clear BK210; clear HB; have HO213 := n0_; have HO216 := n1_; have BK209 := n2_; have BK210 := n3_; have HB := n4_; clear n0_ n1_ n2_ n3_ n4_; (try clear hb); (try clear hb2); (try clear hk); (try clear hi); (try clear ho0); obtain ⟨Ao14, co14, eo14⟩ := Kd.R_slice HO216.out; subst eo14; obtain ⟨hcz15_0, hcz15_1, hcz15_2, hcz15_3, hcz15_4, hcz15_5⟩ := bcQ6 BK209.out; obtain ⟨hfz15_0, hfz15_1, hfz15_2, hfz15_3, hfz15_4, hfz15_5⟩ := fzQ6 BK209.out) | ((with_reducible refine gate_callee (f := 51) rfl ?_); refine goesL_ (some 13) rfl rfl Tryd.func51 (by kernel_rfl) rfl #[.slice A0_4 l0_4.length c0_4] rfl (by (try simp only [List.map_toArray, List.map_cons, List.map_nil]); try rfl) ?_; (with_reducible refine (pleatref00_CopySymbols.calls _ _ l0_4 t217 _ ?side1 ?side2 A4.out).mono ?_); (case side1 => exact Kd.C_below HR0_4.out (by repeat with_reducible first | exact HB.out | apply pw_below_drewN | apply below_drew1 | refine below_set ?_ GE209.out | refine below_set ?_ GE210.out)); (case side2 => exact HC0_4.out); rintro e w16 ⟨v218, rfl, ho0, hb⟩; refine ⟨_, rfl, ?_⟩; have n0_ := Aside0.mk (Kd.R_below (by (with_reducible repeat (first | apply Kd.R_alloc | apply Kd.R_drewN | apply Kd.R_drew)); exact (Kd.R_mono (Kd.R_far (p := ⟨gb209, 3, none⟩) (Kd.R_types HO213.out BK209.out (by decide)) (fun _ hk => hk.2) (.slice Ao14 t214.length co14)) (fun _ h_ => h_.1))) hb); have n1_ := Aside0.mk (Kd.R_below (by (with_reducible repeat (first | apply Kd.R_alloc | apply Kd.R_drewN | apply Kd.R_drew)); exact (Kd.R_mono (Kd.R_far (p := ⟨gb209, 3, none⟩) (Kd.R_types HO216.out BK209.out (by decide)) (fun _ hk => hk.2) (.slice Ao14 t214.length co14)) (fun _ h_ => h_.1))) hb); have n2_ := Aside0.mk (Kd.R_lower ho0 (below_size (by repeat with_reducible first | exact HB.out | apply pw_below_drewN | apply below_drew1 | refine below_set ?_ GE209.out | refine below_set ?_ GE210.out))); have n3_ := Aside0.mk (blk_below (g := gb209) (o := .cells #[.string a0_0, .slice Ao11 t211.length co11, .int .i64 a0_2, .slice Ao14 t214.length co14, .slice A0_4 l0_4.length c0_4, .slice A0_5 l0_5.length c0_5] 27 (0, 0)) (by refine blk_put (cs := #[.string a0_0, .slice Ao11 t211.length co11, .int .i64 a0_2, .slice A0_3 l0_3.length c0_3, .slice A0_4 l0_4.length c0_4, .slice A0_5 l0_5.length c0_5]) ?_ 3 _ rfl; exact BK209.out) hb); have n4_ := Aside0.mk (blk_below (g := gb210) (o := .cells #[.string (⟨#[]⟩ : ByteArray), .slice none 0 0, .int .i64 0, .slice none 0 0, .slice none 0 0, .slice none 0 0] 27 (0, 0)) (by refine blk_far ?_ NB210_209.out _; exact BK210.out) hb); have n5_ := Aside0.mk (bs1Q hb (by repeat with_reducible first | exact HB.out | apply pw_below_drewN | apply below_drew1 | refine below_set ?_ GE209.out | refine below_set ?_ GE210.out)); clear HO213; clear HO216; clear BK209; clear BK210; clear HB; have HO213 := n0_; have HO216 := n1_; have HO219 := n2_; have BK209 := n3_; have BK210 := n4_; have HB := n5_; clear n0_ n1_ n2_ n3_ n4_ n5_; (try clear hb); (try clear hb2); (try clear hk); (try clear hi); (try clear ho0); obtain ⟨Ao17, co17, eo17⟩ := Kd.R_slice HO219.out; subst eo17; obtain ⟨hcz18_0, hcz18_1, hcz18_2, hcz18_3, hcz18_4, hcz18_5⟩ := bcQ6 BK209.out; obtain ⟨hfz18_0, hfz18_1, hfz18_2, hfz18_3, hfz18_4, hfz18_5⟩ := fzQ6 BK209.out) | ((with_reducible refine gate_callee (f := 52) rfl ?_); refine goesL_ (some 17) rfl rfl Tryd.func52 (by kernel_rfl) rfl #[.slice A0_5 l0_5.length c0_5] rfl (by (try simp only [List.map_toArray, List.map_cons, List.map_nil]); try rfl) ?_; (with_reducible refine (pleatref00_CopyRelocs.calls _ _ l0_5 t220 _ ?side1 ?side2 A5.out).mono ?_); (case side1 => exact Kd.C_below HR0_5.out (by repeat with_reducible first | exact HB.out | apply pw_below_drewN | apply below_drew1 | refine below_set ?_ GE209.out | refine below_set ?_ GE210.out)); (case side2 => exact HC0_5.out); rintro e w19 ⟨v221, rfl, ho0, hb⟩; refine ⟨_, rfl, ?_⟩; have n0_ := Aside0.mk (Kd.R_below (by (with_reducible repeat (first | apply Kd.R_alloc | apply Kd.R_drewN | apply Kd.R_drew)); exact (Kd.R_mono (Kd.R_far (p := ⟨gb209, 4, none⟩) (Kd.R_types HO213.out BK209.out (by decide)) (fun _ hk => hk.2) (.slice Ao17 t217.length co17)) (fun _ h_ => h_.1))) hb); have n1_ := Aside0.mk (Kd.R_below (by (with_reducible repeat (first | apply Kd.R_alloc | apply Kd.R_drewN | apply Kd.R_drew)); exact (Kd.R_mono (Kd.R_far (p := ⟨gb209, 4, none⟩) (Kd.R_types HO216.out BK209.out (by decide)) (fun _ hk => hk.2) (.slice Ao17 t217.length co17)) (fun _ h_ => h_.1))) hb); have n2_ := Aside0.mk (Kd.R_below (by (with_reducible repeat (first | apply Kd.R_alloc | apply Kd.R_drewN | apply Kd.R_drew)); exact (Kd.R_mono (Kd.R_far (p := ⟨gb209, 4, none⟩) (Kd.R_types HO219.out BK209.out (by decide)) (fun _ hk => hk.2) (.slice Ao17 t217.length co17)) (fun _ h_ => h_.1))) hb); have n3_ := Aside0.mk (Kd.R_lower ho0 (below_size (by repeat with_reducible first | exact HB.out | apply pw_below_drewN | apply below_drew1 | refine below_set ?_ GE209.out | refine below_set ?_ GE210.out))); have n4_ := Aside0.mk (blk_below (g := gb209) (o := .cells #[.string a0_0, .slice Ao11 t211.length co11, .int .i64 a0_2, .slice Ao14 t214.length co14, .slice Ao17 t217.length co17, .slice A0_5 l0_5.length c0_5] 27 (0, 0)) (by refine blk_put (cs := #[.string a0_0, .slice Ao11 t211.length co11, .int .i64 a0_2, .slice Ao14 t214.length co14, .slice A0_4 l0_4.length c0_4, .slice A0_5 l0_5.length c0_5]) ?_ 4 _ rfl; exact BK209.out) hb); have n5_ := Aside0.mk (blk_below (g := gb210) (o := .cells #[.string (⟨#[]⟩ : ByteArray), .slice none 0 0, .int .i64 0, .slice none 0 0, .slice none 0 0, .slice none 0 0] 27 (0, 0)) (by refine blk_far ?_ NB210_209.out _; exact BK210.out) hb); have n6_ := Aside0.mk (bs1Q hb (by repeat with_reducible first | exact HB.out | apply pw_below_drewN | apply below_drew1 | refine below_set ?_ GE209.out | refine below_set ?_ GE210.out)); clear HO213; clear HO216; clear HO219; clear BK209; clear BK210; clear HB; have HO213 := n0_; have HO216 := n1_; have HO219 := n2_; have HO222 := n3_; have BK209 := n4_; have BK210 := n5_; have HB := n6_; clear n0_ n1_ n2_ n3_ n4_ n5_ n6_; (try clear hb); (try clear hb2); (try clear hk); (try clear hi); (try clear ho0); obtain ⟨Ao20, co20, eo20⟩ := Kd.R_slice HO222.out; subst eo20; obtain ⟨hcz21_0, hcz21_1, hcz21_2, hcz21_3, hcz21_4, hcz21_5⟩ := bcQ6 BK209.out; obtain ⟨hfz21_0, hfz21_1, hfz21_2, hfz21_3, hfz21_4, hfz21_5⟩ := fzQ6 BK209.out; obtain ⟨hcz22_0, hcz22_1, hcz22_2, hcz22_3, hcz22_4, hcz22_5⟩ := bcQ6 BK210.out; obtain ⟨hfz22_0, hfz22_1, hfz22_2, hfz22_3, hfz22_4, hfz22_5⟩ := fzQ6 BK210.out))
 refine bodyPost_ret (results_cell_row rfl _ _ gb210 27 #[.string a0_0, .slice Ao11 t211.length co11, .int .i64 a0_2, .slice Ao14 t214.length co14, .slice Ao17 t217.length co17, .slice Ao20 t220.length co20] (0, 0) _ rfl (by refine blk_put (cs := #[.string a0_0, .slice Ao11 t211.length co11, .int .i64 a0_2, .slice Ao14 t214.length co14, .slice Ao17 t217.length co17, .slice none 0 0]) ?_ 5 _ rfl; refine blk_put (cs := #[.string a0_0, .slice Ao11 t211.length co11, .int .i64 a0_2, .slice Ao14 t214.length co14, .slice none 0 0, .slice none 0 0]) ?_ 4 _ rfl; refine blk_put (cs := #[.string a0_0, .slice Ao11 t211.length co11, .int .i64 a0_2, .slice none 0 0, .slice none 0 0, .slice none 0 0]) ?_ 3 _ rfl; refine blk_put (cs := #[.string a0_0, .slice Ao11 t211.length co11, .int .i64 0, .slice none 0 0, .slice none 0 0, .slice none 0 0]) ?_ 2 _ rfl; refine blk_put (cs := #[.string a0_0, .slice none 0 0, .int .i64 0, .slice none 0 0, .slice none 0 0, .slice none 0 0]) ?_ 1 _ rfl; refine blk_put (cs := #[.string (⟨#[]⟩ : ByteArray), .slice none 0 0, .int .i64 0, .slice none 0 0, .slice none 0 0, .slice none 0 0]) ?_ 0 _ rfl; refine blk_far ?_ NB210_209.out _; exact BK210.out) Tryd.underlying27 rfl (by kernel_rfl)) rfl ?_
 exact ⟨_, _, _, _, by first | rfl | (simp [errW_none, errW_some] <;> rfl) | (simp [*, errW_none, errW_some] <;> rfl), by (with_reducible repeat (first | apply Kd.R_alloc | apply Kd.R_drewN | apply Kd.R_drew)); exact Kd.R_mono (Kd.R_far (p := ⟨gb210, 5, none⟩) (Kd.R_far (p := ⟨gb210, 4, none⟩) (Kd.R_far (p := ⟨gb210, 3, none⟩) (Kd.R_far (p := ⟨gb210, 2, none⟩) (Kd.R_far (p := ⟨gb210, 1, none⟩) (Kd.R_far (p := ⟨gb210, 0, none⟩) (Kd.R_far (p := ⟨gb209, 5, none⟩) (Kd.R_types (Kd.R_types HO213.out BK209.out (by decide)) BK210.out (by decide)) (fun _ hk => hk.1.2) (.slice Ao20 t220.length co20)) (fun _ hk => hk.2) (.string a0_0)) (fun _ hk => hk.2) (.slice Ao11 t211.length co11)) (fun _ hk => hk.2) (.int .i64 a0_2)) (fun _ hk => hk.2) (.slice Ao14 t214.length co14)) (fun _ hk => hk.2) (.slice Ao17 t217.length co17)) (fun _ hk => hk.2) (.slice Ao20 t220.length co20)) (fun _ hk => trivial), by (with_reducible repeat (first | apply Kd.R_alloc | apply Kd.R_drewN | apply Kd.R_drew)); exact Kd.R_mono (Kd.R_far (p := ⟨gb210, 5, none⟩) (Kd.R_far (p := ⟨gb210, 4, none⟩) (Kd.R_far (p := ⟨gb210, 3, none⟩) (Kd.R_far (p := ⟨gb210, 2, none⟩) (Kd.R_far (p := ⟨gb210, 1, none⟩) (Kd.R_far (p := ⟨gb210, 0, none⟩) (Kd.R_far (p := ⟨gb209, 5, none⟩) (Kd.R_types (Kd.R_types HO216.out BK209.out (by decide)) BK210.out (by decide)) (fun _ hk => hk.1.2) (.slice Ao20 t220.length co20)) (fun _ hk => hk.2) (.string a0_0)) (fun _ hk => hk.2) (.slice Ao11 t211.length co11)) (fun _ hk => hk.2) (.int .i64 a0_2)) (fun _ hk => hk.2) (.slice Ao14 t214.length co14)) (fun _ hk => hk.2) (.slice Ao17 t217.length co17)) (fun _ hk => hk.2) (.slice Ao20 t220.length co20)) (fun _ hk => trivial), by (with_reducible repeat (first | apply Kd.R_alloc | apply Kd.R_drewN | apply Kd.R_drew)); exact Kd.R_mono (Kd.R_far (p := ⟨gb210, 5, none⟩) (Kd.R_far (p := ⟨gb210, 4, none⟩) (Kd.R_far (p := ⟨gb210, 3, none⟩) (Kd.R_far (p := ⟨gb210, 2, none⟩) (Kd.R_far (p := ⟨gb210, 1, none⟩) (Kd.R_far (p := ⟨gb210, 0, none⟩) (Kd.R_far (p := ⟨gb209, 5, none⟩) (Kd.R_types (Kd.R_types HO219.out BK209.out (by decide)) BK210.out (by decide)) (fun _ hk => hk.1.2) (.slice Ao20 t220.length co20)) (fun _ hk => hk.2) (.string a0_0)) (fun _ hk => hk.2) (.slice Ao11 t211.length co11)) (fun _ hk => hk.2) (.int .i64 a0_2)) (fun _ hk => hk.2) (.slice Ao14 t214.length co14)) (fun _ hk => hk.2) (.slice Ao17 t217.length co17)) (fun _ hk => hk.2) (.slice Ao20 t220.length co20)) (fun _ hk => trivial), by (with_reducible repeat (first | apply Kd.R_alloc | apply Kd.R_drewN | apply Kd.R_drew)); exact Kd.R_mono (Kd.R_far (p := ⟨gb210, 5, none⟩) (Kd.R_far (p := ⟨gb210, 4, none⟩) (Kd.R_far (p := ⟨gb210, 3, none⟩) (Kd.R_far (p := ⟨gb210, 2, none⟩) (Kd.R_far (p := ⟨gb210, 1, none⟩) (Kd.R_far (p := ⟨gb210, 0, none⟩) (Kd.R_far (p := ⟨gb209, 5, none⟩) (Kd.R_types (Kd.R_types HO222.out BK209.out (by decide)) BK210.out (by decide)) (fun _ hk => hk.1.2) (.slice Ao20 t220.length co20)) (fun _ hk => hk.2) (.string a0_0)) (fun _ hk => hk.2) (.slice Ao11 t211.length co11)) (fun _ hk => hk.2) (.int .i64 a0_2)) (fun _ hk => hk.2) (.slice Ao14 t214.length co14)) (fun _ hk => hk.2) (.slice Ao17 t217.length co17)) (fun _ hk => hk.2) (.slice Ao20 t220.length co20)) (fun _ hk => trivial), by repeat with_reducible first | exact HB.out | apply pw_below_drewN | apply below_drew1 | refine below_set ?_ GE209.out | refine below_set ?_ GE210.out⟩

-- NOT PRINTED: function 3 (pleatlaw04_WireRound)


def pleatref00_Long.f (a0 : Int) : Option (Bool) := some (decide (a0 > 2147483647))
set_option maxHeartbeats 8000000 in
set_option maxRecDepth 100000 in
theorem pleatref00_Long.calls (a0 : Int) (r : Bool) (w : World) (h : pleatref00_Long.f a0 = some r) :
  Calls Tryd.prog 57 #[.int .i64 a0] w fun e w' => e = .returned (.bool r) ∧ Drawn0 w w' := by
 have H : (some (decide (a0 > 2147483647))) = some r := h
 clear h
 obtain rfl := Option.some.inj H
 go_enter Tryd.func57, Tryd.ntmps57
 go_wp2
 go_ret
 exact ⟨by first | rfl | (simp; done) | (simp [*]; done), by repeat (first | exact Drawn0.refl _ | apply Drawn0.step)⟩
end Go.Proofs.YtiaohbbafaaibabDoor.P
