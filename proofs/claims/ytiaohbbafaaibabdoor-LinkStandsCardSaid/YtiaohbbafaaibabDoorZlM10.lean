/- OWN TEXT and printed parts of this claim, laid together: HRc, HRs, HPen, HWrite, WireD. -/
import Derived.Test.YtiaohbbafaaibabDoorZlM9
import Derived.Test.YtiaohbbafaaibabDoorZlM4
import Derived.Deep.RegionLawGrows
import Derived.Test.YtiaohbbafaaibabDoorZlM0
import Derived.Test.YtiaohbbafaaibabDoorZlM1
import Derived.WalkMore
import Derived.Great.Walk
import Derived.WalkKit
import Derived.Lib.SlBytesConst
/- OWN TEXT: what wire's reader calls for each part, walked. -/
namespace Go.Proofs.YtiaohbbafaaibabDoor.P
open Go.RowKit Go.Maps Go.Proofs.YtiaohbbafaaibabDoorW.PrintWords Go.Proofs.YtiaohbbafaaibabDoorW.PrintLast Go.Proofs.YtiaohbbafaaibabDoorW.PrintMore Go.Proofs.YtiaohbbafaaibabDoor.Arr Go.Proofs.YtiaohbbafaaibabDoor.MapB
set_option linter.unusedVariables false
set_option linter.unusedSimpArgs false
structure RO where
  nm : ByteArray
  code : List Int
  dat : Int
  data : List Int
  syms : List Sym
  rels : List Rel
  rs : RS
structure OB4 (W : World) (base g : Nat) (a : RO) (v1 v3 v4 v5 : Value) : Prop where
  blk : W.heap[g]? = some (.cells #[.string a.nm, v1, .int .i64 a.dat, v3, v4, v5] 27 (0, 0))
  r1 : Kd.R (Kd.int .u32) 63 W base (fun _ => True) v1 a.code
  r3 : Kd.R (Kd.int .i64) 2 W base (fun _ => True) v3 a.data
  r4 : Kd.R k75 75 W base (fun _ => True) v4 a.syms
  r5 : Kd.R k68 68 W base (fun _ => True) v5 a.rels
def zObj : Array Value := #[.string ⟨#[]⟩, .slice none 0 0, .int .i64 0, .slice none 0 0, .slice none 0 0, .slice none 0 0]
structure RdO (w0 W : World) (r p g q : Nat) (A : Option Addr) (c : Nat) (l : List Int) (a : RO) : Prop where
  rd : Rd w0 W r A c l a.rs
  ptr : W.heap[p]? = some (.cells #[.pointer (some ⟨r, 0, none⟩)] 77 (0, 0))
  res : W.heap[q]? = some (.cells zObj 27 (0, 0)) ∧ q ≠ g
  obj : ∃ v1 v3 v4 v5, OB4 W w0.heap.size g a v1 v3 v4 v5
  gb : w0.heap.size ≤ g
theorem ne_types {W : World} {p q : Nat} {cs ds : Array Value} {e f : TypeId} {x y : Nat × Nat} (h : W.heap[p]? = some (.cells cs e x)) (k : W.heap[q]? = some (.cells ds f y)) (hne : e ≠ f) : p ≠ q := fun z => by
 subst z
 rw [h] at k
 injection k with k
 injection k with _ k _
 exact hne k
theorem OB4.grown {W W1 : World} {base g r : Nat} {a : RO} {v1 v3 v4 v5 : Value} {cs : Array Value} {s : RS} (h : OB4 W base g a v1 v3 v4 v5) (hb : W.heap[r]? = some (.cells cs 81 (0, 0))) (k : W.grownBy W1 (some r)) : OB4 W1 base g { a with rs := s } v1 v3 v4 v5 :=
 ⟨(k.block g (blk_lt h.blk) (fun z => ne_types h.blk hb (by decide) (Option.some.inj z))).trans h.blk, Kd.R_grown1 h.r1 rfl k (Kd.R_ne h.r1 hb (by decide)), Kd.R_grown1 h.r3 rfl k (Kd.R_ne h.r3 hb (by decide)), Kd.R_grown1 h.r4 rfl k (Kd.R_ne h.r4 hb (by decide)), Kd.R_grown1 h.r5 rfl k (Kd.R_ne h.r5 hb (by decide))⟩
theorem OB4.below {W W1 : World} {base g : Nat} {a : RO} {v1 v3 v4 v5 : Value} (h : OB4 W base g a v1 v3 v4 v5) (k : Below W.heap.size W W1) : OB4 W1 base g a v1 v3 v4 v5 :=
 ⟨blk_below h.blk k, Kd.R_below h.r1 k, Kd.R_below h.r3 k, Kd.R_below h.r4 k, Kd.R_below h.r5 k⟩
theorem RdO.below {w0 W W1 : World} {r p g q : Nat} {A : Option Addr} {c : Nat} {l : List Int} {a : RO} (h : RdO w0 W r p g q A c l a) (k : Below W.heap.size W W1) : RdO w0 W1 r p g q A c l a := by
 obtain ⟨v1, v3, v4, v5, ho⟩ := h.obj
 exact ⟨h.rd.below k, blk_below h.ptr k, ⟨blk_below h.res.1 k, h.res.2⟩, ⟨v1, v3, v4, v5, ho.below k⟩, h.gb⟩
theorem RdO.step {w0 W W1 : World} {r p g q : Nat} {A : Option Addr} {c : Nat} {l : List Int} {a : RO} {s : RS} (h : RdO w0 W r p g q A c l a) (hr : Rd w0 W1 r A c l s) (k : W.grownBy W1 (some r)) : RdO w0 W1 r p g q A c l { a with rs := s } := by
 obtain ⟨v, hb, _⟩ := h.rd.blk
 obtain ⟨v1, v3, v4, v5, ho⟩ := h.obj
 exact ⟨hr, (k.block p (blk_lt h.ptr) (fun z => ne_types h.ptr hb (by decide) (Option.some.inj z))).trans h.ptr, ⟨(k.block q (blk_lt h.res.1) (fun z => ne_types h.res.1 hb (by decide) (Option.some.inj z))).trans h.res.1, h.res.2⟩, ⟨v1, v3, v4, v5, ho.grown hb k⟩, h.gb⟩
theorem Rd.row {α : Type} {d : Kd α} {e : TypeId} {w0 W W1 : World} {r : Nat} {A : Option Addr} {c : Nat} {l : List Int} {s : RS} {v : Value} {xs : List α} {base : Nat} {ok : Nat → Prop} (h : Rd w0 W r A c l s) (hR : d.R e W base ok v xs) (h1 : e ≠ 81) (h2 : e ≠ 92) (low : Below w0.heap.size w0 W1) (k : W.grownBy W1 v.ownBlock) : Rd w0 W1 r A c l s := by
 obtain ⟨u, hr, he⟩ := h.blk
 refine ⟨low, ⟨u, (k.block r (blk_lt hr) (Kd.R_ne hR hr h1)).trans hr, ?_⟩, h.base, h.at0, h.at1, h.at2⟩
 cases hs : s.er with
 | none => rw [hs] at he; exact he
 | some p =>
  rw [hs] at he
  obtain ⟨q, e1, e2, e3⟩ := he
  exact ⟨q, e1, e2, (k.block q (blk_lt e3) (Kd.R_ne hR e3 h2)).trans e3⟩
theorem info_u32 : (Tryd.prog.info? 63).map (fun i => (i.zero, i.size, i.bytes)) = some (some (.int .u32 0), 1, 4) := by kernel_rfl
theorem info_i64 : (Tryd.prog.info? 2).map (fun i => (i.zero, i.size, i.bytes)) = some (some (.int .i64 0), 1, 8) := by kernel_rfl
theorem RdO.app1 {w0 W W1 : World} {r p g q : Nat} {A : Option Addr} {c : Nat} {l : List Int} {a : RO} {v1 v3 v4 v5 u : Value} {x : Int} (h : RdO w0 W r p g q A c l a) (ho : OB4 W w0.heap.size g a v1 v3 v4 v5) (hu : Kd.R (Kd.int .u32) 63 W1 w0.heap.size (fun _ => True) u (a.code ++ [x])) (low : Below w0.heap.size w0 W1) (k : W.grownBy W1 v1.ownBlock) :
    W1.heap[g]? = some (.cells #[.string a.nm, v1, .int .i64 a.dat, v3, v4, v5] 27 (0, 0)) ∧ RdO w0 (W1.setCell ⟨g, 1, none⟩ u) r p g q A c l { a with code := a.code ++ [x] } := by
  have hb : W1.heap[g]? = some (.cells #[.string a.nm, v1, .int .i64 a.dat, v3, v4, v5] 27 (0, 0)) := (k.block g (blk_lt ho.blk) (Kd.R_ne ho.r1 ho.blk (by decide))).trans ho.blk
  have hp := put_set (j := 1) (x := u) hb
  have hrd := h.rd.row ho.r1 (by decide) (by decide) low k
  have hpt : W1.heap[p]? = _ := (k.block p (blk_lt h.ptr) (Kd.R_ne ho.r1 h.ptr (by decide))).trans h.ptr
  have hq : W1.heap[q]? = _ := (k.block q (blk_lt h.res.1) (Kd.R_ne ho.r1 h.res.1 (by decide))).trans h.res.1
  have t1 := Kd.R_typed ho.r1
  have k3 := Kd.R_over' ho.r3 t1 (by decide) k
  have k4 := Kd.R_over' ho.r4 t1 (by decide) k
  have k5 := Kd.R_over' ho.r5 t1 (by decide) k
  have G := put_grownN hp
  exact ⟨hb, hrd.other hb (by decide) (by decide) h.gb G, (G.block p (blk_lt hpt) (fun z => ne_types hpt hb (by decide) (Option.some.inj z))).trans hpt, ⟨(G.block q (blk_lt hq) (fun z => h.res.2 (Option.some.inj z))).trans hq, h.res.2⟩, ⟨u, v3, v4, v5, hp.blk, Kd.R_grown1 hu rfl G (Kd.R_ne hu hb (by decide)), Kd.R_grown1 k3 rfl G (Kd.R_ne k3 hb (by decide)), Kd.R_grown1 k4 rfl G (Kd.R_ne k4 hb (by decide)), Kd.R_grown1 k5 rfl G (Kd.R_ne k5 hb (by decide))⟩, h.gb⟩
theorem RdO.app3 {w0 W W1 : World} {r p g q : Nat} {A : Option Addr} {c : Nat} {l : List Int} {a : RO} {v1 v3 v4 v5 u : Value} {x : Int} (h : RdO w0 W r p g q A c l a) (ho : OB4 W w0.heap.size g a v1 v3 v4 v5) (hu : Kd.R (Kd.int .i64) 2 W1 w0.heap.size (fun _ => True) u (a.data ++ [x])) (low : Below w0.heap.size w0 W1) (k : W.grownBy W1 v3.ownBlock) :
    W1.heap[g]? = some (.cells #[.string a.nm, v1, .int .i64 a.dat, v3, v4, v5] 27 (0, 0)) ∧ RdO w0 (W1.setCell ⟨g, 3, none⟩ u) r p g q A c l { a with data := a.data ++ [x] } := by
  have hb : W1.heap[g]? = some (.cells #[.string a.nm, v1, .int .i64 a.dat, v3, v4, v5] 27 (0, 0)) := (k.block g (blk_lt ho.blk) (Kd.R_ne ho.r3 ho.blk (by decide))).trans ho.blk
  have hp := put_set (j := 3) (x := u) hb
  have hrd := h.rd.row ho.r3 (by decide) (by decide) low k
  have hpt : W1.heap[p]? = _ := (k.block p (blk_lt h.ptr) (Kd.R_ne ho.r3 h.ptr (by decide))).trans h.ptr
  have hq : W1.heap[q]? = _ := (k.block q (blk_lt h.res.1) (Kd.R_ne ho.r3 h.res.1 (by decide))).trans h.res.1
  have t1 := Kd.R_typed ho.r3
  have k1 := Kd.R_over' ho.r1 t1 (by decide) k
  have k4 := Kd.R_over' ho.r4 t1 (by decide) k
  have k5 := Kd.R_over' ho.r5 t1 (by decide) k
  have G := put_grownN hp
  exact ⟨hb, hrd.other hb (by decide) (by decide) h.gb G, (G.block p (blk_lt hpt) (fun z => ne_types hpt hb (by decide) (Option.some.inj z))).trans hpt, ⟨(G.block q (blk_lt hq) (fun z => h.res.2 (Option.some.inj z))).trans hq, h.res.2⟩, ⟨v1, u, v4, v5, hp.blk, Kd.R_grown1 k1 rfl G (Kd.R_ne k1 hb (by decide)), Kd.R_grown1 hu rfl G (Kd.R_ne hu hb (by decide)), Kd.R_grown1 k4 rfl G (Kd.R_ne k4 hb (by decide)), Kd.R_grown1 k5 rfl G (Kd.R_ne k5 hb (by decide))⟩, h.gb⟩
set_option maxHeartbeats 8000000 in
set_option maxRecDepth 100000 in
theorem read1.calls (w0 W : World) (r p g q : Nat) (A : Option Addr) (c : Nat) (l : List Int) (a : RO) (h : RdO w0 W r p g q A c l a) (hC : Kd.C (Kd.int .u8) w0 A l.length l) (hcc : l.length ≤ c) (hl : l.length ≤ 1099511627776) (hby : ∀ x ∈ l, 0 ≤ x ∧ x < 256) (hn : a.code.length ≤ 16384) :
  Calls Tryd.prog 32 #[.pointer (some ⟨g, 0, none⟩), .pointer (some ⟨p, 0, none⟩)] W fun e w' => e = .returned (.tuple #[]) ∧ RdO w0 w' r p g q A c l { a with code := a.code ++ [(numR l 4 a.rs).1], rs := (numR l 4 a.rs).2 } := by
 have hu1 := Tryd.underlying27
 have H := Aside0.mk (h.below (below_drew (Below.refl _ _)))
 have HC := Aside0.mk hC
 have HCC := Aside0.mk hcc
 have HL := Aside0.mk hl
 have HBY := Aside0.mk hby
 have HN := Aside0.mk hn
 obtain ⟨v1, v3, v4, v5, ho⟩ := h.obj
 have HO := Aside0.mk (ho.below (below_drew (Below.refl _ _)))
 have hc1 : W.drew.cell? ⟨g, 1, none⟩ = some v1 := (blk_cell HO.out.blk 1).trans rfl
 have hcp : W.drew.cell? ⟨p, 0, none⟩ = some (.pointer (some ⟨r, 0, none⟩)) := (blk_cell H.out.ptr 0).trans rfl
 clear h hC hcc hl hby ho hn
 go_enter Tryd.func32, Tryd.ntmps32
 refine start_ (n := 8) (S := fun w' => w'.cell? ⟨g, 1, none⟩ = some v1 ∧ w'.cell? ⟨p, 0, none⟩ = some (.pointer (some ⟨r, 0, none⟩))) (ds := [7]) #[false, false, false, false, false, false, false, false] (by kernel_rfl) rfl rfl ⟨hc1, hcp⟩ (fun hHeld => ?_)
 generalize W.drew = wd at H HO hc1 hcp hHeld ⊢
 refine pure_ (i := 0) (N := some 2) (v := ?_) (a' := ?_) #[true, false, false, false, false, false, false, false] rfl rfl (by kernel_rfl) (fun _ _ _ h => h) (Or.inl ⟨by rfl, ?_⟩) ?_ ?_
 rotate_left
 ·
  intro w'
  go_simp
  with_reducible rfl
 rotate_left
 ·
  simp only [Act.put, List.setIfInBounds_toArray, List.set_cons_zero, List.set_cons_succ, i64_w, i32_w]
  rfl
 refine take_ (i := 1) (N := some 3) (v := ?_) (a' := ?_) #[true, true, false, false, false, false, false, false] rfl rfl (by kernel_rfl) (fun _ _ _ h => h) (Or.inl ⟨by rfl, ?_⟩) hHeld ?_ ?_
 rotate_left
 ·
  rintro w' ⟨s0, s1⟩
  go_simp
  with_reducible rfl
 rotate_left
 ·
  simp only [Act.put, List.setIfInBounds_toArray, List.set_cons_zero, List.set_cons_succ, i64_w, i32_w]
  rfl
 refine take_ (i := 2) (N := some 4) (v := ?_) (a' := ?_) #[true, true, true, false, false, false, false, false] rfl rfl (by kernel_rfl) (fun _ _ _ h => h) (Or.inl ⟨by rfl, ?_⟩) hHeld ?_ ?_
 rotate_left
 ·
  rintro w' ⟨s0, s1⟩
  go_simp
  with_reducible rfl
 rotate_left
 ·
  simp only [Act.put, List.setIfInBounds_toArray, List.set_cons_zero, List.set_cons_succ, i64_w, i32_w]
  rfl
 refine one_ (i := 3) (N := some 5) #[true, true, true, true, false, false, false, false] rfl rfl (by kernel_rfl) (by decide) (fun K hK => ?_)
 refine call_ 33 #[.pointer (some ⟨r, 0, none⟩), .int .i64 4] rfl rfl (by first | rfl | (go_simp; done) | (go_simp; rfl)) ?_
 refine (num32.calls w0 _ r A c l a.rs H.out.rd HC.out HCC.out HL.out HBY.out).mono ?_
 rintro e_ w1 ⟨rfl, hr_, hg_⟩
 refine ⟨_, rfl, ?_⟩
 obtain ⟨v, hbr, _⟩ := H.out.rd.blk
 have H1 := Aside0.mk (H.out.step hr_ hg_)
 have HO1 := Aside0.mk (HO.out.grown (s := (numR l 4 a.rs).2) hbr hg_)
 have hd1 : w1.cell? ⟨g, 1, none⟩ = some v1 := (blk_cell HO1.out.blk 1).trans rfl
 have hdp : w1.cell? ⟨p, 0, none⟩ = some (.pointer (some ⟨r, 0, none⟩)) := (blk_cell H1.out.ptr 0).trans rfl
 refine hK.out _ _ ⟨hd1, hdp⟩ (fun hHeld => ?_)
 clear hr_ hg_ hbr H HO hc1 hcp
 clear hK K
 refine norm_ (a' := ?_) ?_ ?_
 rotate_left
 ·
  show Act.put _ (some 5) _ = _
  simp only [Act.put, List.setIfInBounds_toArray, List.set_cons_zero, List.set_cons_succ, i64_w, i32_w]
  rfl
 refine one_ (i := 4) (N := some 6) #[true, true, true, true, true, false, false, false] rfl rfl (by kernel_rfl) (by decide) (fun K hK => ?_)
 refine value_ (w1 := ?_) (v := ?_) (by rfl) rfl ?_ ?_
 rotate_left 2
 ·
  go_simp
  constructor
  ·
   rfl
  ·
   rfl
 refine hK.out _ _ ⟨(World.cell?_alloc_lt _ _ _ (World.block_lt_of_cell? _ _ hd1)).trans hd1, (World.cell?_alloc_lt _ _ _ (World.block_lt_of_cell? _ _ hdp)).trans hdp⟩ (fun hHeld => ?_)
 clear hK K
 refine norm_ (a' := ?_) ?_ ?_
 rotate_left
 ·
  show Act.put _ (some 6) _ = _
  simp only [Act.put, List.setIfInBounds_toArray, List.set_cons_zero, List.set_cons_succ, i64_w, i32_w]
  rfl
 refine one_ (i := 5) (N := some 7) #[true, true, true, true, true, true, false, false] rfl rfl (by kernel_rfl) (by decide) (fun K hK => ?_)
 refine Kd.R_append_step (Kd.int .u32) (w0 := w0) w0.heap.size rfl (.tmp 3) (.tmp 6) 22 63 (.int .u32 0) 4 rfl Tryd.underlying22 info_u32 rfl (by decide) (by decide) v1 a.code ((numR l 4 a.rs).1) [(.int .u32 ((numR l 4 a.rs).1))] (fun _ => True) (fun _ => False) rfl rfl rfl (fun _ hk => hk.elim) (fun _ _ => trivial) HO1.out.r1 H1.out.rd.low H1.out.rd.low.size (by have := HN.out; omega) ?_
 intro u w2 hu2 hlow hgr _
 obtain ⟨Ao, co, eo⟩ := Kd.R_slice hu2
 obtain ⟨nn, hnn⟩ : ∃ nn, nn = (a.code ++ [(numR l 4 a.rs).1]).length := ⟨_, rfl⟩
 rw [← hnn] at eo
 subst eo
 have hx := RdO.app1 H1.out HO1.out hu2 hlow hgr
 have HX := Aside0.mk hx.2
 have hz1 : w2.cell? ⟨g, 1, none⟩ = some v1 := (blk_cell hx.1 1).trans rfl
 have hzf := blk_frozen hx.1 1
 have hpt2 : w2.heap[p]? = _ := (hgr.block p (blk_lt H1.out.ptr) (Kd.R_ne HO1.out.r1 H1.out.ptr (by decide))).trans H1.out.ptr
 have hzp : w2.cell? ⟨p, 0, none⟩ = some (.pointer (some ⟨r, 0, none⟩)) := (blk_cell hpt2 0).trans rfl
 refine hK.out _ _ ⟨hz1, hzp⟩ (fun hHeld => ?_)
 clear hlow hgr hx hd1 hdp hpt2 hu2 hnn
 clear hK K
 refine norm_ (a' := ?_) ?_ ?_
 rotate_left
 ·
  show Act.put _ (some 7) _ = _
  simp only [Act.put, List.setIfInBounds_toArray, List.set_cons_zero, List.set_cons_succ, i64_w, i32_w]
  rfl
 refine pure_ (i := 6) (N := some 8) (v := ?_) (a' := ?_) #[true, true, true, true, true, true, true, false] rfl rfl (by kernel_rfl) (fun _ _ _ h => h) (Or.inl ⟨by rfl, ?_⟩) ?_ ?_
 rotate_left
 ·
  intro w'
  go_simp
  with_reducible rfl
 rotate_left
 ·
  simp only [Act.put, List.setIfInBounds_toArray, List.set_cons_zero, List.set_cons_succ, i64_w, i32_w]
  rfl
 refine last_ (i := 7) (N := none) #[true, true, true, true, true, true, true, true] rfl rfl (by kernel_rfl) (by decide) (fun K hK => ?_)
 refine skip_ (w1 := ?_) (by rfl) rfl ?_ ?_
 rotate_left
 ·
  go_simp
  rfl
 refine hK.out _ _ ?_
 clear hK K
 refine done_ (by kernel_rfl) ?_
 refine Go.Great.bodyPost_end0 rfl rfl ?_
 exact ⟨rfl, HX.out⟩
set_option maxHeartbeats 8000000 in
set_option maxRecDepth 100000 in
theorem read2.calls (w0 W : World) (r p g q : Nat) (A : Option Addr) (c : Nat) (l : List Int) (a : RO) (h : RdO w0 W r p g q A c l a) (hC : Kd.C (Kd.int .u8) w0 A l.length l) (hcc : l.length ≤ c) (hl : l.length ≤ 1099511627776) (hby : ∀ x ∈ l, 0 ≤ x ∧ x < 256) (hn : a.data.length ≤ 16384) :
  Calls Tryd.prog 34 #[.pointer (some ⟨g, 0, none⟩), .pointer (some ⟨p, 0, none⟩)] W fun e w' => e = .returned (.tuple #[]) ∧ RdO w0 w' r p g q A c l { a with data := a.data ++ [wrap64 (numR l 8 a.rs).1], rs := (numR l 8 a.rs).2 } := by
 have hu1 := Tryd.underlying27
 have H := Aside0.mk (h.below (below_drew (Below.refl _ _)))
 have HC := Aside0.mk hC
 have HCC := Aside0.mk hcc
 have HL := Aside0.mk hl
 have HBY := Aside0.mk hby
 have HN := Aside0.mk hn
 obtain ⟨v1, v3, v4, v5, ho⟩ := h.obj
 have HO := Aside0.mk (ho.below (below_drew (Below.refl _ _)))
 have hc1 : W.drew.cell? ⟨g, 3, none⟩ = some v3 := (blk_cell HO.out.blk 3).trans rfl
 have hcp : W.drew.cell? ⟨p, 0, none⟩ = some (.pointer (some ⟨r, 0, none⟩)) := (blk_cell H.out.ptr 0).trans rfl
 clear h hC hcc hl hby ho hn
 go_enter Tryd.func34, Tryd.ntmps34
 refine start_ (n := 8) (S := fun w' => w'.cell? ⟨g, 3, none⟩ = some v3 ∧ w'.cell? ⟨p, 0, none⟩ = some (.pointer (some ⟨r, 0, none⟩))) (ds := [7]) #[false, false, false, false, false, false, false, false] (by kernel_rfl) rfl rfl ⟨hc1, hcp⟩ (fun hHeld => ?_)
 generalize W.drew = wd at H HO hc1 hcp hHeld ⊢
 refine pure_ (i := 0) (N := some 2) (v := ?_) (a' := ?_) #[true, false, false, false, false, false, false, false] rfl rfl (by kernel_rfl) (fun _ _ _ h => h) (Or.inl ⟨by rfl, ?_⟩) ?_ ?_
 rotate_left
 ·
  intro w'
  go_simp
  with_reducible rfl
 rotate_left
 ·
  simp only [Act.put, List.setIfInBounds_toArray, List.set_cons_zero, List.set_cons_succ, i64_w, i32_w]
  rfl
 refine take_ (i := 1) (N := some 3) (v := ?_) (a' := ?_) #[true, true, false, false, false, false, false, false] rfl rfl (by kernel_rfl) (fun _ _ _ h => h) (Or.inl ⟨by rfl, ?_⟩) hHeld ?_ ?_
 rotate_left
 ·
  rintro w' ⟨s0, s1⟩
  go_simp
  with_reducible rfl
 rotate_left
 ·
  simp only [Act.put, List.setIfInBounds_toArray, List.set_cons_zero, List.set_cons_succ, i64_w, i32_w]
  rfl
 refine take_ (i := 2) (N := some 4) (v := ?_) (a' := ?_) #[true, true, true, false, false, false, false, false] rfl rfl (by kernel_rfl) (fun _ _ _ h => h) (Or.inl ⟨by rfl, ?_⟩) hHeld ?_ ?_
 rotate_left
 ·
  rintro w' ⟨s0, s1⟩
  go_simp
  with_reducible rfl
 rotate_left
 ·
  simp only [Act.put, List.setIfInBounds_toArray, List.set_cons_zero, List.set_cons_succ, i64_w, i32_w]
  rfl
 refine one_ (i := 3) (N := some 5) #[true, true, true, true, false, false, false, false] rfl rfl (by kernel_rfl) (by decide) (fun K hK => ?_)
 refine call_ 35 #[.pointer (some ⟨r, 0, none⟩), .int .i64 8] rfl rfl (by first | rfl | (go_simp; done) | (go_simp; rfl)) ?_
 refine (num64.calls w0 _ r A c l a.rs H.out.rd HC.out HCC.out HL.out HBY.out).mono ?_
 rintro e_ w1 ⟨rfl, hr_, hg_⟩
 refine ⟨_, rfl, ?_⟩
 obtain ⟨v, hbr, _⟩ := H.out.rd.blk
 have H1 := Aside0.mk (H.out.step hr_ hg_)
 have HO1 := Aside0.mk (HO.out.grown (s := (numR l 8 a.rs).2) hbr hg_)
 have hd1 : w1.cell? ⟨g, 3, none⟩ = some v3 := (blk_cell HO1.out.blk 3).trans rfl
 have hdp : w1.cell? ⟨p, 0, none⟩ = some (.pointer (some ⟨r, 0, none⟩)) := (blk_cell H1.out.ptr 0).trans rfl
 refine hK.out _ _ ⟨hd1, hdp⟩ (fun hHeld => ?_)
 clear hr_ hg_ hbr H HO hc1 hcp
 clear hK K
 refine norm_ (a' := ?_) ?_ ?_
 rotate_left
 ·
  show Act.put _ (some 5) _ = _
  simp only [Act.put, List.setIfInBounds_toArray, List.set_cons_zero, List.set_cons_succ, i64_w, i32_w]
  rfl
 refine one_ (i := 4) (N := some 6) #[true, true, true, true, true, false, false, false] rfl rfl (by kernel_rfl) (by decide) (fun K hK => ?_)
 refine value_ (w1 := ?_) (v := ?_) (by rfl) rfl ?_ ?_
 rotate_left 2
 ·
  go_simp
  constructor
  ·
   rfl
  ·
   rfl
 refine hK.out _ _ ⟨(World.cell?_alloc_lt _ _ _ (World.block_lt_of_cell? _ _ hd1)).trans hd1, (World.cell?_alloc_lt _ _ _ (World.block_lt_of_cell? _ _ hdp)).trans hdp⟩ (fun hHeld => ?_)
 clear hK K
 refine norm_ (a' := ?_) ?_ ?_
 rotate_left
 ·
  show Act.put _ (some 6) _ = _
  simp only [Act.put, List.setIfInBounds_toArray, List.set_cons_zero, List.set_cons_succ, i64_w, i32_w]
  rfl
 refine one_ (i := 5) (N := some 7) #[true, true, true, true, true, true, false, false] rfl rfl (by kernel_rfl) (by decide) (fun K hK => ?_)
 refine Kd.R_append_step (Kd.int .i64) (w0 := w0) w0.heap.size rfl (.tmp 3) (.tmp 6) 23 2 (.int .i64 0) 8 rfl Tryd.underlying23 info_i64 rfl (by decide) (by decide) v3 a.data (wrap64 (numR l 8 a.rs).1) [(.int .i64 (wrap64 (numR l 8 a.rs).1))] (fun _ => True) (fun _ => False) rfl rfl rfl (fun _ hk => hk.elim) (fun _ _ => trivial) HO1.out.r3 H1.out.rd.low H1.out.rd.low.size (by have := HN.out; omega) ?_
 intro u w2 hu2 hlow hgr _
 obtain ⟨Ao, co, eo⟩ := Kd.R_slice hu2
 obtain ⟨nn, hnn⟩ : ∃ nn, nn = (a.data ++ [wrap64 (numR l 8 a.rs).1]).length := ⟨_, rfl⟩
 rw [← hnn] at eo
 subst eo
 have hx := RdO.app3 H1.out HO1.out hu2 hlow hgr
 have HX := Aside0.mk hx.2
 have hz1 : w2.cell? ⟨g, 3, none⟩ = some v3 := (blk_cell hx.1 3).trans rfl
 have hzf := blk_frozen hx.1 3
 have hpt2 : w2.heap[p]? = _ := (hgr.block p (blk_lt H1.out.ptr) (Kd.R_ne HO1.out.r3 H1.out.ptr (by decide))).trans H1.out.ptr
 have hzp : w2.cell? ⟨p, 0, none⟩ = some (.pointer (some ⟨r, 0, none⟩)) := (blk_cell hpt2 0).trans rfl
 refine hK.out _ _ ⟨hz1, hzp⟩ (fun hHeld => ?_)
 clear hlow hgr hx hd1 hdp hpt2 hu2 hnn
 clear hK K
 refine norm_ (a' := ?_) ?_ ?_
 rotate_left
 ·
  show Act.put _ (some 7) _ = _
  simp only [Act.put, List.setIfInBounds_toArray, List.set_cons_zero, List.set_cons_succ, i64_w, i32_w]
  rfl
 refine pure_ (i := 6) (N := some 8) (v := ?_) (a' := ?_) #[true, true, true, true, true, true, true, false] rfl rfl (by kernel_rfl) (fun _ _ _ h => h) (Or.inl ⟨by rfl, ?_⟩) ?_ ?_
 rotate_left
 ·
  intro w'
  go_simp
  with_reducible rfl
 rotate_left
 ·
  simp only [Act.put, List.setIfInBounds_toArray, List.set_cons_zero, List.set_cons_succ, i64_w, i32_w]
  rfl
 refine last_ (i := 7) (N := none) #[true, true, true, true, true, true, true, true] rfl rfl (by kernel_rfl) (by decide) (fun K hK => ?_)
 refine skip_ (w1 := ?_) (by rfl) rfl ?_ ?_
 rotate_left
 ·
  go_simp
  rfl
 refine hK.out _ _ ?_
 clear hK K
 refine done_ (by kernel_rfl) ?_
 refine Go.Great.bodyPost_end0 rfl rfl ?_
 exact ⟨rfl, HX.out⟩
end Go.Proofs.YtiaohbbafaaibabDoor.P

/- OWN TEXT: what wire's reader calls for a symbol and for a relocation, walked. -/
namespace Go.Proofs.YtiaohbbafaaibabDoor.P
open Go.RowKit Go.Maps Go.Proofs.YtiaohbbafaaibabDoorW.PrintWords Go.Proofs.YtiaohbbafaaibabDoorW.PrintLast Go.Proofs.YtiaohbbafaaibabDoorW.PrintMore Go.Proofs.YtiaohbbafaaibabDoor.Arr Go.Proofs.YtiaohbbafaaibabDoor.MapB
set_option linter.unusedVariables false
set_option linter.unusedSimpArgs false
theorem i8_small {x : Int} (h0 : 0 ≤ x) (h1 : x ≤ 3) : IntKind.i8.wrap x = x := by simp [IntKind.wrap, IntKind.signed, IntKind.bits]; omega
theorem RdO.tmp {w0 W W1 : World} {r p g q k : Nat} {A : Option Addr} {c : Nat} {l : List Int} {a : RO} {v1 v3 v4 v5 : Value} {cs : Array Value} {e : TypeId} (h : RdO w0 W r p g q A c l a) (ho : OB4 W w0.heap.size g a v1 v3 v4 v5) (hb : W.heap[k]? = some (.cells cs e (0, 0)))
  (hne : e ≠ 81 ∧ e ≠ 92 ∧ e ≠ 77 ∧ e ≠ 27 ∧ 63 ≠ e ∧ 2 ≠ e) (h4 : some k ≠ v4.ownBlock) (h5 : some k ≠ v5.ownBlock) (hw : w0.heap.size ≤ k) (G : W.grownBy W1 (some k)) : RdO w0 W1 r p g q A c l a ∧ OB4 W1 w0.heap.size g a v1 v3 v4 v5 := by
 have hO : OB4 W1 w0.heap.size g a v1 v3 v4 v5 := ⟨(G.block g (blk_lt ho.blk) (fun z => ne_types hb ho.blk hne.2.2.2.1 (Option.some.inj z).symm)).trans ho.blk, Kd.R_grown1 ho.r1 rfl G (Kd.R_ne ho.r1 hb hne.2.2.2.2.1), Kd.R_grown1 ho.r3 rfl G (Kd.R_ne ho.r3 hb hne.2.2.2.2.2), Kd.R_grown1 ho.r4 rfl G h4, Kd.R_grown1 ho.r5 rfl G h5⟩
 exact ⟨⟨h.rd.other hb hne.1 hne.2.1 hw G, (G.block p (blk_lt h.ptr) (fun z => ne_types hb h.ptr hne.2.2.1 (Option.some.inj z).symm)).trans h.ptr, ⟨(G.block q (blk_lt h.res.1) (fun z => ne_types hb h.res.1 hne.2.2.2.1 (Option.some.inj z).symm)).trans h.res.1, h.res.2⟩, ⟨v1, v3, v4, v5, hO⟩, h.gb⟩, hO⟩

theorem RdO.app4 {w0 W W1 : World} {r p g q : Nat} {A : Option Addr} {c : Nat} {l : List Int} {a : RO} {v1 v3 v4 v5 u : Value} {x : Sym} (h : RdO w0 W r p g q A c l a) (ho : OB4 W w0.heap.size g a v1 v3 v4 v5) (hu : Kd.R k75 75 W1 w0.heap.size (fun _ => True) u (a.syms ++ [x])) (low : Below w0.heap.size w0 W1) (k : W.grownBy W1 v4.ownBlock) :
    W1.heap[g]? = some (.cells #[.string a.nm, v1, .int .i64 a.dat, v3, v4, v5] 27 (0, 0)) ∧ RdO w0 (W1.setCell ⟨g, 4, none⟩ u) r p g q A c l { a with syms := a.syms ++ [x] } := by
  have hb : W1.heap[g]? = some (.cells #[.string a.nm, v1, .int .i64 a.dat, v3, v4, v5] 27 (0, 0)) := (k.block g (blk_lt ho.blk) (Kd.R_ne ho.r4 ho.blk (by decide))).trans ho.blk
  have hp := put_set (j := 4) (x := u) hb
  have hrd := h.rd.row ho.r4 (by decide) (by decide) low k
  have hpt : W1.heap[p]? = _ := (k.block p (blk_lt h.ptr) (Kd.R_ne ho.r4 h.ptr (by decide))).trans h.ptr
  have hq : W1.heap[q]? = _ := (k.block q (blk_lt h.res.1) (Kd.R_ne ho.r4 h.res.1 (by decide))).trans h.res.1
  have t1 := Kd.R_typed ho.r4
  have k1 := Kd.R_over' ho.r1 t1 (by decide) k
  have k3 := Kd.R_over' ho.r3 t1 (by decide) k
  have k5 := Kd.R_over' ho.r5 t1 (by decide) k
  have G := put_grownN hp
  exact ⟨hb, hrd.other hb (by decide) (by decide) h.gb G, (G.block p (blk_lt hpt) (fun z => ne_types hpt hb (by decide) (Option.some.inj z))).trans hpt, ⟨(G.block q (blk_lt hq) (fun z => h.res.2 (Option.some.inj z))).trans hq, h.res.2⟩, ⟨v1, v3, u, v5, hp.blk, Kd.R_grown1 k1 rfl G (Kd.R_ne k1 hb (by decide)), Kd.R_grown1 k3 rfl G (Kd.R_ne k3 hb (by decide)), Kd.R_grown1 hu rfl G (Kd.R_ne hu hb (by decide)), Kd.R_grown1 k5 rfl G (Kd.R_ne k5 hb (by decide))⟩, h.gb⟩
theorem RdO.app5 {w0 W W1 : World} {r p g q : Nat} {A : Option Addr} {c : Nat} {l : List Int} {a : RO} {v1 v3 v4 v5 u : Value} {x : Rel} (h : RdO w0 W r p g q A c l a) (ho : OB4 W w0.heap.size g a v1 v3 v4 v5) (hu : Kd.R k68 68 W1 w0.heap.size (fun _ => True) u (a.rels ++ [x])) (low : Below w0.heap.size w0 W1) (k : W.grownBy W1 v5.ownBlock) :
    W1.heap[g]? = some (.cells #[.string a.nm, v1, .int .i64 a.dat, v3, v4, v5] 27 (0, 0)) ∧ RdO w0 (W1.setCell ⟨g, 5, none⟩ u) r p g q A c l { a with rels := a.rels ++ [x] } := by
  have hb : W1.heap[g]? = some (.cells #[.string a.nm, v1, .int .i64 a.dat, v3, v4, v5] 27 (0, 0)) := (k.block g (blk_lt ho.blk) (Kd.R_ne ho.r5 ho.blk (by decide))).trans ho.blk
  have hp := put_set (j := 5) (x := u) hb
  have hrd := h.rd.row ho.r5 (by decide) (by decide) low k
  have hpt : W1.heap[p]? = _ := (k.block p (blk_lt h.ptr) (Kd.R_ne ho.r5 h.ptr (by decide))).trans h.ptr
  have hq : W1.heap[q]? = _ := (k.block q (blk_lt h.res.1) (Kd.R_ne ho.r5 h.res.1 (by decide))).trans h.res.1
  have t1 := Kd.R_typed ho.r5
  have k1 := Kd.R_over' ho.r1 t1 (by decide) k
  have k3 := Kd.R_over' ho.r3 t1 (by decide) k
  have k4 := Kd.R_over' ho.r4 t1 (by decide) k
  have G := put_grownN hp
  exact ⟨hb, hrd.other hb (by decide) (by decide) h.gb G, (G.block p (blk_lt hpt) (fun z => ne_types hpt hb (by decide) (Option.some.inj z))).trans hpt, ⟨(G.block q (blk_lt hq) (fun z => h.res.2 (Option.some.inj z))).trans hq, h.res.2⟩, ⟨v1, v3, v4, u, hp.blk, Kd.R_grown1 k1 rfl G (Kd.R_ne k1 hb (by decide)), Kd.R_grown1 k3 rfl G (Kd.R_ne k3 hb (by decide)), Kd.R_grown1 k4 rfl G (Kd.R_ne k4 hb (by decide)), Kd.R_grown1 hu rfl G (Kd.R_ne hu hb (by decide))⟩, h.gb⟩
set_option maxHeartbeats 8000000 in
set_option maxRecDepth 100000 in
theorem read4.calls (w0 W : World) (r p g q : Nat) (A : Option Addr) (c : Nat) (l : List Int) (a : RO) (h : RdO w0 W r p g q A c l a) (hC : Kd.C (Kd.int .u8) w0 A l.length l) (hcc : l.length ≤ c) (hl : l.length ≤ 1099511627776) (hby : ∀ x ∈ l, 0 ≤ x ∧ x < 256) (hn : a.rels.length ≤ 16384) :
  Calls Tryd.prog 37 #[.pointer (some ⟨p, 0, none⟩), .pointer (some ⟨g, 0, none⟩)] W fun e w' => e = .returned (.tuple #[]) ∧ RdO w0 w' r p g q A c l { a with rels := a.rels ++ [⟨(countR l 2147483647 a.rs).1, (countR l 2147483647 (countR l 2147483647 a.rs).2).1⟩], rs := (countR l 2147483647 (countR l 2147483647 a.rs).2).2 } := by
 have hu1 := Tryd.underlying27
 have hu2 := Tryd.underlying75
 have hu3 := Tryd.underlying68
 have H := Aside0.mk h
 have HC := Aside0.mk hC
 have HCC := Aside0.mk hcc
 have HL := Aside0.mk hl
 have HBY := Aside0.mk hby
 have HN := Aside0.mk hn
 have hcp : W.cell? ⟨p, 0, none⟩ = some (.pointer (some ⟨r, 0, none⟩)) := (blk_cell H.out.ptr 0).trans rfl
 clear h hC hcc hl hby hn
 go_enter Tryd.func37, Tryd.ntmps37
 go_wp2_with (first | (go_at_call 31; refine (count.calls w0 _ r A c l a.rs H.out.rd HC.out HCC.out HL.out HBY.out 2147483647).mono ?_; rintro e_ w1 ⟨rfl, hr_, hg_⟩; have H1 := Aside0.mk (H.out.step hr_ hg_); obtain ⟨v1, v3, v4, v5, ho_⟩ := H1.out.obj; have HO1 := Aside0.mk ho_; have F4 := Aside0.mk (Kd.R_ne_new ho_.r4 0); have F5 := Aside0.mk (Kd.R_ne_new ho_.r5 0); have hcp1 : w1.cell? ⟨p, 0, none⟩ = some (.pointer (some ⟨r, 0, none⟩)) := (blk_cell H1.out.ptr 0).trans rfl; have hcpa : (w1.alloc (.cells #[.int .i64 (countR l 2147483647 a.rs).1, .int .i64 0] 68)).cell? ⟨p, 0, none⟩ = some (.pointer (some ⟨r, 0, none⟩)) := (World.cell?_alloc_lt _ _ _ (World.block_lt_of_cell? _ _ hcp1)).trans hcp1; have hplt := World.block_lt_of_cell? _ _ hcp1; clear hr_ hg_ ho_ H hcp) | (go_at_call 31; have H2a := Aside0.mk (H1.out.below (below_alloc (Below.refl w1.heap.size w1) (.cells #[.int .i64 (countR l 2147483647 a.rs).1, .int .i64 0] 68))); have HO2a := Aside0.mk (HO1.out.below (below_alloc (Below.refl w1.heap.size w1) (.cells #[.int .i64 (countR l 2147483647 a.rs).1, .int .i64 0] 68))); have BS := Aside0.mk (MapKept.heap_alloc w1 (.cells #[.int .i64 (countR l 2147483647 a.rs).1, .int .i64 0] 68)).1; refine (count.calls w0 _ r A c l (countR l 2147483647 a.rs).2 H2a.out.rd HC.out HCC.out HL.out HBY.out 2147483647).mono ?_; rintro e_ w2 ⟨rfl, hr_, hg_⟩; obtain ⟨v, hbr, _⟩ := H2a.out.rd.blk; have BS2 := Aside0.mk ((hg_.block _ (blk_lt BS.out) (fun z => ne_types BS.out hbr (by decide) (Option.some.inj z))).trans BS.out); have H2 := Aside0.mk (H2a.out.step hr_ hg_); have HO2 := Aside0.mk (HO2a.out.grown (s := (countR l 2147483647 (countR l 2147483647 a.rs).2).2) hbr hg_); have hs0 := (blk_cell BS2.out 0).trans rfl; have hs1 := (blk_cell BS2.out 1).trans rfl; have HLS := Aside0.mk (show w0.heap.size ≤ w1.heap.size from H1.out.rd.low.size); clear hr_ hg_ hbr hcp1 hcpa hplt H1 HO1 H2a HO2a BS) | ((with_reducible refine gate_store (t := 3) rfl ?_); go_loud (refine wpList_store_arr rfl rfl rfl w1.heap.size 1 _ _ (.int .i64 (countR l 2147483647 (countR l 2147483647 a.rs).2).1) rfl rfl rfl rfl (by kernel_rfl) BS2.out (show 1 < 2 by decide) ?_; intro w3 hp_; have HT := H2.out.tmp HO2.out BS2.out (by decide) F4.out F5.out HLS.out (put_grownN hp_); have H3 := Aside0.mk HT.1; have HO3 := Aside0.mk HT.2; have BS3 := Aside0.mk hp_.blk; clear hp_ HT hs0 hs1 H2 HO2 BS2; have hs0 := (blk_cell BS3.out 0).trans rfl; have hs1 := (blk_cell BS3.out 1).trans rfl; have hg5 := (blk_cell HO3.out.blk 5).trans rfl)) | ((with_reducible refine gate_builtin (b := .append) (xs := #[.tmp 10, .tmp 12]) rfl ?_); at_builtin; go_loud (refine Kd.R_append k68 (w0 := w0) w0.heap.size rfl (.tmp 10) (.tmp 12) 25 68 (.agg #[.int .i64 0, .int .i64 0]) 16 rfl Tryd.underlying25 info68 rfl (by decide) (by decide) v5 a.rels (⟨(countR l 2147483647 a.rs).1, (countR l 2147483647 (countR l 2147483647 a.rs).2).1⟩ : Rel) [.int .i64 ((countR l 2147483647 a.rs).1), .int .i64 ((countR l 2147483647 (countR l 2147483647 a.rs).2).1)] (fun _ => True) (fun _ => False) rfl rfl (k68_mkM _ _ _ (⟨(countR l 2147483647 a.rs).1, (countR l 2147483647 (countR l 2147483647 a.rs).2).1⟩ : Rel)) (fun _ hk => hk.elim) (fun _ _ => trivial) HO3.out.r5 H3.out.rd.low H3.out.rd.low.size (by have := HN.out; omega) ?_; intro u w4 hu2 hlow hgr _; obtain ⟨Ao, co, eo⟩ := Kd.R_slice hu2; obtain ⟨nn, hnn⟩ : ∃ nn, nn = (a.rels ++ [(⟨(countR l 2147483647 a.rs).1, (countR l 2147483647 (countR l 2147483647 a.rs).2).1⟩ : Rel)]).length := ⟨_, rfl⟩; rw [← hnn] at eo; subst eo; have hx := RdO.app5 H3.out HO3.out hu2 hlow hgr; have HX := Aside0.mk hx.2; have hz1 := (blk_cell hx.1 5).trans rfl; have hzf := blk_frozen hx.1 5; clear hx hlow hgr hu2 hnn hs0 hs1 hg5)))
 refine Go.Great.bodyPost_end0 rfl rfl ?_
 exact ⟨rfl, HX.out⟩
set_option maxHeartbeats 8000000 in
set_option maxRecDepth 100000 in
theorem read3.calls (w0 W : World) (r p g q : Nat) (A : Option Addr) (c : Nat) (l : List Int) (a : RO) (h : RdO w0 W r p g q A c l a) (hC : Kd.C (Kd.int .u8) w0 A l.length l) (hcc : l.length ≤ c) (hl : l.length ≤ 1099511627776) (hby : ∀ x ∈ l, 0 ≤ x ∧ x < 256) (hn : a.syms.length ≤ 16384) :
  Calls Tryd.prog 36 #[.pointer (some ⟨p, 0, none⟩), .pointer (some ⟨g, 0, none⟩)] W fun e w' => e = .returned (.tuple #[]) ∧ RdO w0 w' r p g q A c l { a with syms := a.syms ++ [⟨(textR l a.rs).1, (countR l 3 (textR l a.rs).2).1, (countR l 2147483647 (countR l 3 (textR l a.rs).2).2).1⟩], rs := (countR l 2147483647 (countR l 3 (textR l a.rs).2).2).2 } := by
 have hu1 := Tryd.underlying27
 have hu2 := Tryd.underlying75
 have hu3 := Tryd.underlying68
 have H := Aside0.mk h
 have HC := Aside0.mk hC
 have HCC := Aside0.mk hcc
 have HL := Aside0.mk hl
 have HBY := Aside0.mk hby
 have HN := Aside0.mk hn
 have hcp : W.cell? ⟨p, 0, none⟩ = some (.pointer (some ⟨r, 0, none⟩)) := (blk_cell H.out.ptr 0).trans rfl
 clear h hC hcc hl hby hn
 go_enter Tryd.func36, Tryd.ntmps36
 go_upto_region 1 with ((go_at_call 29; refine (rtext.calls w0 _ r A c l a.rs H.out.rd HC.out HCC.out HL.out HBY.out).mono ?_; rintro e_ w1 ⟨rfl, hr_, hg_⟩; have H1 := Aside0.mk (H.out.step hr_ hg_); obtain ⟨v1, v3, v4, v5, ho_⟩ := H1.out.obj; have HO1 := Aside0.mk ho_; have F4 := Aside0.mk (Kd.R_ne_new ho_.r4 0); have F5 := Aside0.mk (Kd.R_ne_new ho_.r5 0); have hcp1 : w1.cell? ⟨p, 0, none⟩ = some (.pointer (some ⟨r, 0, none⟩)) := (blk_cell H1.out.ptr 0).trans rfl; clear hr_ hg_ ho_ H hcp))
 have HRG := Aside0.mk (countR_range l 3 (textR l a.rs).2 HBY.out (by decide))
 have hi8 : IntKind.i8.wrap (countR l 3 (textR l a.rs).2).1 = (countR l 3 (textR l a.rs).2).1 := i8_small HRG.out.1 HRG.out.2
 have H2 := Aside0.mk (H1.out.below (below_drew (below_alloc (Below.refl w1.heap.size w1) (.cells #[.string (textR l a.rs).1, .int .i8 0, .int .i64 0] 75))))
 have HO2 := Aside0.mk (HO1.out.below (below_drew (below_alloc (Below.refl w1.heap.size w1) (.cells #[.string (textR l a.rs).1, .int .i8 0, .int .i64 0] 75))))
 have BS := Aside0.mk (show (w1.alloc (.cells #[.string (textR l a.rs).1, .int .i8 0, .int .i64 0] 75)).drew.heap[w1.heap.size]? = _ from (MapKept.heap_alloc w1 (.cells #[.string (textR l a.rs).1, .int .i8 0, .int .i64 0] 75)).1)
 have HLS := Aside0.mk (show w0.heap.size ≤ w1.heap.size from H1.out.rd.low.size)
 have hcp2 : (w1.alloc (.cells #[.string (textR l a.rs).1, .int .i8 0, .int .i64 0] 75)).drew.cell? ⟨p, 0, none⟩ = some (.pointer (some ⟨r, 0, none⟩)) := (blk_cell H2.out.ptr 0).trans rfl
 clear hcp1 H1 HO1
 refine start_ (n := 9) (S := fun w' => w'.cell? ⟨p, 0, none⟩ = some (.pointer (some ⟨r, 0, none⟩))) (ds := [8]) #[false, false, false, false, false, false, false, false, false] (by kernel_rfl) rfl rfl hcp2 (fun hHeld => ?_)
 generalize (w1.alloc (.cells #[.string (textR l a.rs).1, .int .i8 0, .int .i64 0] 75)).drew = wd at H2 HO2 BS hcp2 hHeld ⊢
 generalize w1.heap.size = k at BS F4 F5 HLS ⊢
 refine take_ (i := 0) (N := some 6) (v := ?_) (a' := ?_) #[true, false, false, false, false, false, false, false, false] rfl rfl (by kernel_rfl) (fun _ _ _ h => h) (Or.inl ⟨by rfl, ?_⟩) hHeld ?_ ?_
 rotate_left
 ·
  rintro w' s0
  go_simp
  with_reducible rfl
 rotate_left
 ·
  simp only [Act.put, List.setIfInBounds_toArray, List.set_cons_zero, List.set_cons_succ, i64_w, i32_w]
  rfl
 refine take_ (i := 3) (N := some 9) (v := ?_) (a' := ?_) #[true, false, false, true, false, false, false, false, false] rfl rfl (by kernel_rfl) (fun _ _ _ h => h) (Or.inl ⟨by rfl, ?_⟩) hHeld ?_ ?_
 rotate_left
 ·
  rintro w' s0
  go_simp
  with_reducible rfl
 rotate_left
 ·
  simp only [Act.put, List.setIfInBounds_toArray, List.set_cons_zero, List.set_cons_succ, i64_w, i32_w]
  rfl
 refine one_ (i := 1) (N := some 7) #[true, true, false, true, false, false, false, false, false] rfl rfl (by kernel_rfl) (by decide) (fun K hK => ?_)
 refine call_ 31 #[.pointer (some ⟨r, 0, none⟩), .int .i64 3] rfl rfl (by first | rfl | (go_simp; done) | (go_simp; rfl)) ?_
 refine (count.calls w0 _ r A c l (textR l a.rs).2 H2.out.rd HC.out HCC.out HL.out HBY.out 3).mono ?_
 rintro e_ w3 ⟨rfl, hr_, hg_⟩
 refine ⟨_, rfl, ?_⟩
 obtain ⟨v, hbr, _⟩ := H2.out.rd.blk
 have BSn := Aside0.mk ((hg_.block _ (blk_lt BS.out) (fun z => ne_types BS.out hbr (by decide) (Option.some.inj z))).trans BS.out)
 clear BS
 have BS := BSn
 clear BSn
 have H3 := Aside0.mk (H2.out.step hr_ hg_)
 have HO3 := Aside0.mk (HO2.out.grown (s := (countR l 3 (textR l a.rs).2).2) hbr hg_)
 have hcp3 : w3.cell? ⟨p, 0, none⟩ = some (.pointer (some ⟨r, 0, none⟩)) := (blk_cell H3.out.ptr 0).trans rfl
 refine hK.out _ _ hcp3 (fun hHeld => ?_)
 clear hr_ hg_ hbr H2 HO2 hcp2
 clear hK K
 refine norm_ (a' := ?_) ?_ ?_
 rotate_left
 ·
  show Act.put _ (some 7) _ = _
  simp only [Act.put, List.setIfInBounds_toArray, List.set_cons_zero, List.set_cons_succ, i64_w, i32_w]
  rfl
 refine pure_ (i := 2) (N := some 8) (v := ?_) (a' := ?_) #[true, true, true, true, false, false, false, false, false] rfl rfl (by kernel_rfl) (fun _ _ _ h => h) (Or.inl ⟨by rfl, ?_⟩) ?_ ?_
 rotate_left
 ·
  intro w'
  go_simp
  first | (with_reducible rfl) | (rw [hi8]; with_reducible rfl)
 rotate_left
 ·
  simp only [Act.put, List.setIfInBounds_toArray, List.set_cons_zero, List.set_cons_succ, i64_w, i32_w]
  rfl
 refine pure_ (i := 5) (N := some 11) (v := ?_) (a' := ?_) #[true, true, true, true, false, true, false, false, false] rfl rfl (by kernel_rfl) (fun _ _ _ h => h) (Or.inl ⟨by rfl, ?_⟩) ?_ ?_
 rotate_left
 ·
  intro w'
  go_simp
  with_reducible rfl
 rotate_left
 ·
  simp only [Act.put, List.setIfInBounds_toArray, List.set_cons_zero, List.set_cons_succ, i64_w, i32_w]
  rfl
 refine one_ (i := 4) (N := some 10) #[true, true, true, true, true, true, false, false, false] rfl rfl (by kernel_rfl) (by decide) (fun K hK => ?_)
 refine call_ 31 #[.pointer (some ⟨r, 0, none⟩), .int .i64 2147483647] rfl rfl (by first | rfl | (go_simp; done) | (go_simp; rfl)) ?_
 refine (count.calls w0 _ r A c l (countR l 3 (textR l a.rs).2).2 H3.out.rd HC.out HCC.out HL.out HBY.out 2147483647).mono ?_
 rintro e_ w4 ⟨rfl, hr_, hg_⟩
 refine ⟨_, rfl, ?_⟩
 obtain ⟨v, hbr, _⟩ := H3.out.rd.blk
 have BSn := Aside0.mk ((hg_.block _ (blk_lt BS.out) (fun z => ne_types BS.out hbr (by decide) (Option.some.inj z))).trans BS.out)
 clear BS
 have BS := BSn
 clear BSn
 have H4 := Aside0.mk (H3.out.step hr_ hg_)
 have HO4 := Aside0.mk (HO3.out.grown (s := (countR l 2147483647 (countR l 3 (textR l a.rs).2).2).2) hbr hg_)
 have hcp4 : w4.cell? ⟨p, 0, none⟩ = some (.pointer (some ⟨r, 0, none⟩)) := (blk_cell H4.out.ptr 0).trans rfl
 refine hK.out _ _ hcp4 (fun hHeld => ?_)
 clear hr_ hg_ hbr H3 HO3 hcp3
 clear hK K
 refine norm_ (a' := ?_) ?_ ?_
 rotate_left
 ·
  show Act.put _ (some 10) _ = _
  simp only [Act.put, List.setIfInBounds_toArray, List.set_cons_zero, List.set_cons_succ, i64_w, i32_w]
  rfl
 refine one_ (i := 6) (N := none) #[true, true, true, true, true, true, true, false, false] rfl rfl (by kernel_rfl) (by decide) (fun K hK => ?_)
 refine skip_ (w1 := ?_) (by rfl) rfl ?_ ?_
 rotate_left
 ·
  have hq0 := (blk_cell BS.out 1).trans rfl
  have hqf := blk_frozen BS.out 1
  go_simp
  rfl
 have hp_ := put_set (j := 1) (x := .int .i8 (countR l 3 (textR l a.rs).2).1) BS.out
 have HT := H4.out.tmp HO4.out BS.out (by decide) F4.out F5.out HLS.out (put_grownN hp_)
 have BSn := Aside0.mk hp_.blk
 clear BS
 have BS := BSn
 have H5 := Aside0.mk HT.1
 have HO5 := Aside0.mk HT.2
 clear BSn hp_ HT H4 HO4
 have hcp5 := (blk_cell H5.out.ptr 0).trans rfl
 refine hK.out _ _ hcp5 (fun hHeld => ?_)
 clear hcp4
 clear hK K
 try clear hHeld
 generalize w4.setCell ⟨k, 1, none⟩ (.int .i8 (countR l 3 (textR l a.rs).2).1) = w5 at BS H5 HO5 hcp5 ⊢
 refine pure_ (i := 7) (N := some 12) (v := ?_) (a' := ?_) #[true, true, true, true, true, true, true, true, false] rfl rfl (by kernel_rfl) (fun _ _ _ h => h) (Or.inl ⟨by rfl, ?_⟩) ?_ ?_
 rotate_left
 ·
  intro w'
  go_simp
  with_reducible rfl
 rotate_left
 ·
  simp only [Act.put, List.setIfInBounds_toArray, List.set_cons_zero, List.set_cons_succ, i64_w, i32_w]
  rfl
 refine last_ (i := 8) (N := none) #[true, true, true, true, true, true, true, true, true] rfl rfl (by kernel_rfl) (by decide) (fun K hK => ?_)
 refine skip_ (w1 := ?_) (by rfl) rfl ?_ ?_
 rotate_left
 ·
  have hq0 := (blk_cell BS.out 2).trans rfl
  have hqf := blk_frozen BS.out 2
  go_simp
  rfl
 have hp_ := put_set (j := 2) (x := .int .i64 (countR l 2147483647 (countR l 3 (textR l a.rs).2).2).1) BS.out
 have HT := H5.out.tmp HO5.out BS.out (by decide) F4.out F5.out HLS.out (put_grownN hp_)
 have BSn := Aside0.mk hp_.blk
 clear BS
 have BS := BSn
 have H6 := Aside0.mk HT.1
 have HO6 := Aside0.mk HT.2
 clear BSn hp_ HT H5 HO5
 have hcp6 := (blk_cell H6.out.ptr 0).trans rfl
 refine hK.out _ _ ?_
 clear hK K hcp5
 try clear hHeld
 generalize w5.setCell ⟨k, 2, none⟩ (.int .i64 (countR l 2147483647 (countR l 3 (textR l a.rs).2).2).1) = w6 at BS H6 HO6 ⊢
 refine done_ (by kernel_rfl) ?_
 clear hi8
 have hs0 := (blk_cell BS.out 0).trans rfl
 have hs1 := (blk_cell BS.out 1).trans rfl
 have hs2 := (blk_cell BS.out 2).trans rfl
 have hg4 := (blk_cell HO6.out.blk 4).trans rfl
 go_wp2_with (first | ((with_reducible refine gate_builtin (b := .append) (xs := #[.tmp 14, .tmp 16]) rfl ?_); at_builtin; go_loud (refine Kd.R_append k75 (w0 := w0) w0.heap.size rfl (.tmp 14) (.tmp 16) 24 75 (.agg #[.string ⟨#[]⟩, .int .i8 0, .int .i64 0]) 32 rfl Tryd.underlying24 info75 rfl (by decide) (by decide) v4 a.syms (⟨(textR l a.rs).1, (countR l 3 (textR l a.rs).2).1, (countR l 2147483647 (countR l 3 (textR l a.rs).2).2).1⟩ : Sym) [.string ((textR l a.rs).1), .int .i8 ((countR l 3 (textR l a.rs).2).1), .int .i64 ((countR l 2147483647 (countR l 3 (textR l a.rs).2).2).1)] (fun _ => True) (fun _ => False) rfl rfl (k75_mkM _ _ _ (⟨(textR l a.rs).1, (countR l 3 (textR l a.rs).2).1, (countR l 2147483647 (countR l 3 (textR l a.rs).2).2).1⟩ : Sym)) (fun _ hk => hk.elim) (fun _ _ => trivial) HO6.out.r4 H6.out.rd.low H6.out.rd.low.size (by have := HN.out; omega) ?_; intro u w7 hu2 hlow hgr _; obtain ⟨Ao, co, eo⟩ := Kd.R_slice hu2; obtain ⟨nn, hnn⟩ : ∃ nn, nn = (a.syms ++ [(⟨(textR l a.rs).1, (countR l 3 (textR l a.rs).2).1, (countR l 2147483647 (countR l 3 (textR l a.rs).2).2).1⟩ : Sym)]).length := ⟨_, rfl⟩; rw [← hnn] at eo; subst eo; have hx := RdO.app4 H6.out HO6.out hu2 hlow hgr; have HX := Aside0.mk hx.2; have hz1 := (blk_cell hx.1 4).trans rfl; have hzf := blk_frozen hx.1 4; clear hx hlow hgr hu2 hnn hs0 hs1 hs2 hg4)))
 refine Go.Great.bodyPost_end0 rfl rfl ?_
 exact ⟨rfl, HX.out⟩
end Go.Proofs.YtiaohbbafaaibabDoor.P

/- OWN TEXT: what writes numbers and texts as bytes behind a pointer, walked: which bytes, and that nothing else is turned. -/
namespace Go.Proofs.YtiaohbbafaaibabDoor.P
open Go.RowKit Go.Proofs.YtiaohbbafaaibabDoorW.PrintWords Go.Proofs.YtiaohbbafaaibabDoorW.PrintLast Go.Proofs.YtiaohbbafaaibabDoorW.PrintMore Go.Proofs.YtiaohbbafaaibabDoor.Arr
set_option linter.unusedVariables false
set_option linter.unusedSimpArgs false
def beN (v : Int) : Nat → List Int
 | 0 => []
 | n + 1 => (v / 256 ^ n) % 256 :: beN v n
theorem beN_length (v : Int) : ∀ n, (beN v n).length = n
 | 0 => rfl
 | n + 1 => by show (beN v n).length + 1 = n + 1; rw [beN_length v n]
structure OnlyP (g : Nat) (W W1 : World) : Prop where
  size : W.heap.size ≤ W1.heap.size
  far : ∀ k, k < W.heap.size → k ≠ g → (∀ cs, W.heap[k]? ≠ some (.cells cs 5 (0, 0))) → W1.heap[k]? = W.heap[k]?
theorem OnlyP.refl (g : Nat) (W : World) : OnlyP g W W := ⟨Nat.le_refl _, fun _ _ _ _ => rfl⟩
theorem OnlyP.trans {g : Nat} {W W1 W2 : World} (h : OnlyP g W W1) (k : OnlyP g W1 W2) : OnlyP g W W2 :=
 ⟨Nat.le_trans h.size k.size, fun q hq hn ht => by
  have h1 := h.far q hq hn ht
  rw [k.far q (Nat.lt_of_lt_of_le hq h.size) hn (fun cs => by rw [h1]; exact ht cs), h1]⟩
theorem OnlyP.of_below {g : Nat} {W W1 : World} (h : Below W.heap.size W W1) : OnlyP g W W1 := ⟨h.size, fun q hq _ _ => h.block q hq⟩
theorem OnlyP.blk {g k : Nat} {W W1 : World} {o : Obj} (h : OnlyP g W W1) (hb : W.heap[k]? = some o) (hk : k ≠ g) (ht : ∀ cs, o ≠ .cells cs 5 (0, 0)) : W1.heap[k]? = some o := by
 rw [h.far k (blk_lt hb) hk (fun cs e => ht cs (Option.some.inj (hb.symm.trans e))), hb]
def PR (W : World) (base : Nat) (v : Value) (l : List Int) : Prop := Kd.R (Kd.int .u8) 5 W base (fun _ => True) v l ∨ (∃ gl, v = .slice (some ⟨gl, 0, none⟩) 4 4 ∧ base ≤ gl ∧ W.heap[gl]? = some (.cells #[.int .u8 80, .int .u8 76, .int .u8 79, .int .u8 49] 5 (4, 5))) ∧ l = [80, 76, 79, 49]
theorem PR.R {W : World} {base : Nat} {v : Value} {l : List Int} (h : PR W base v l) (hl : 4 < l.length) : Kd.R (Kd.int .u8) 5 W base (fun _ => True) v l := by
 rcases h with h | ⟨_, rfl⟩
 ·
  exact h
 ·
  simp at hl
theorem PR.move {W W1 : World} {base : Nat} {v : Value} {l : List Int} (h : PR W base v l) (hg : ∀ k, v.ownBlock = some k → W1.heap[k]? = W.heap[k]?) (hR : Kd.R (Kd.int .u8) 5 W base (fun _ => True) v l → Kd.R (Kd.int .u8) 5 W1 base (fun _ => True) v l) : PR W1 base v l := by
 rcases h with h | ⟨⟨gl, rfl, h1, h2⟩, h3⟩
 ·
  exact .inl (hR h)
 ·
  exact .inr ⟨⟨gl, rfl, h1, by rw [hg gl rfl]; exact h2⟩, h3⟩
theorem PR.lt {W : World} {base : Nat} {v : Value} {l : List Int} (h : PR W base v l) : ∀ k, v.ownBlock = some k → k < W.heap.size ∧ ∃ cs fz, W.heap[k]? = some (.cells cs 5 fz) := by
 intro k hk
 rcases h with h | ⟨⟨gl, rfl, h1, h2⟩, h3⟩
 ·
  obtain ⟨cs, hc⟩ := Kd.R_typed h k hk
  exact ⟨blk_lt hc, cs, _, hc⟩
 ·
  obtain rfl : gl = k := Option.some.inj hk
  exact ⟨blk_lt h2, _, _, h2⟩
theorem PR.below {W W1 : World} {base : Nat} {v : Value} {l : List Int} (h : PR W base v l) (hb : Below W.heap.size W W1) : PR W1 base v l := h.move (fun k hk => hb.block k (h.lt k hk).1) (fun hr => Kd.R_below hr hb)
structure Pen (w0 W : World) (g : Nat) (v : Value) (l : List Int) : Prop where
  low : Below w0.heap.size w0 W
  blk : W.heap[g]? = some (.cells #[v] 96 (0, 0))
  own : PR W w0.heap.size v l
  base : w0.heap.size ≤ g
def PenIs (w0 W : World) (g : Nat) (l : List Int) : Prop := ∃ v, Pen w0 W g v l
theorem Pen.below {w0 W W1 : World} {g : Nat} {v : Value} {l : List Int} (h : Pen w0 W g v l) (hb : Below W.heap.size W W1) : Pen w0 W1 g v l := ⟨below_then h.low h.low.size hb, blk_below h.blk hb, h.own.below hb, h.base⟩
theorem PenIs.below {w0 W W1 : World} {g : Nat} {l : List Int} (h : PenIs w0 W g l) (hb : Below W.heap.size W W1) : PenIs w0 W1 g l := by
 obtain ⟨v, hv⟩ := h
 exact ⟨v, hv.below hb⟩
theorem PR.ne {W : World} {base g : Nat} {v : Value} {l : List Int} {cs : Array Value} {e : TypeId} {fz : Nat × Nat} (h : PR W base v l) (hb : W.heap[g]? = some (.cells cs e fz)) (he : 5 ≠ e) : some g ≠ v.ownBlock := by
 intro hk
 obtain ⟨_, c1, f1, h1⟩ := h.lt g hk.symm
 rw [hb] at h1
 injection h1 with h1
 injection h1 with _ h1 _
 exact he h1.symm
theorem PR.put {W W1 : World} {base k : Nat} {v : Value} {l : List Int} {cs c1 : Array Value} {e e1 : TypeId} (h : PR W base v l) (hb : W.heap[k]? = some (.cells cs e (0, 0))) (he : 5 ≠ e) (hp : Put W W1 k c1 e1) : PR W1 base v l :=
 h.move (fun q hq => hp.far q (fun e_ => h.ne hb he (by rw [← e_]; exact hq.symm))) (fun hr => Kd.R_grown1 hr rfl (put_grownN hp) (Kd.R_ne hr hb he))
def FarB (W W1 : World) : Prop := W.heap.size ≤ W1.heap.size ∧ ∀ k, k < W.heap.size → (∀ cs, W.heap[k]? ≠ some (.cells cs 5 (0, 0))) → W1.heap[k]? = W.heap[k]?
theorem FarB.of_R {W W1 : World} {base : Nat} {v : Value} {l : List Int} (h : Kd.R (Kd.int .u8) 5 W base (fun _ => True) v l) (hg : W.grownBy W1 v.ownBlock) : FarB W W1 := ⟨hg.size, fun k hk ht => hg.block k hk (fun e => by
 obtain ⟨cs, hcs⟩ := Kd.R_typed h k e.symm
 exact ht cs hcs)⟩
theorem Pen.store {w0 W W1 : World} {g : Nat} {v v1 : Value} {l l1 : List Int} (h : Pen w0 W g v l) (hr : Kd.R (Kd.int .u8) 5 W1 w0.heap.size (fun _ => True) v1 l1) (hb : Below w0.heap.size w0 W1) (hg : FarB W W1) : W1.cell? ⟨g, 0, none⟩ = some v ∧ W1.frozen? ⟨g, 0, none⟩ = false ∧ PenIs w0 (W1.setCell ⟨g, 0, none⟩ v1) g l1 ∧ OnlyP g W (W1.setCell ⟨g, 0, none⟩ v1) := by
 have hb1 : W1.heap[g]? = some (.cells #[v] 96 (0, 0)) := by
  rw [hg.2 g (blk_lt h.blk) (fun cs e => by rw [h.blk] at e; injection e with e; injection e with _ e _; exact absurd e (by decide))]
  exact h.blk
 have hp := put_set (j := 0) (x := v1) hb1
 refine ⟨blk_cell hb1 0, blk_frozen hb1 0, ⟨v1, hp.below hb h.base, hp.blk, .inl (Kd.R_grown1 hr rfl (put_grownN hp) (Kd.R_ne hr hb1 (by decide))), h.base⟩, ⟨Nat.le_trans hg.1 (by rw [hp.size]; exact Nat.le_refl _), fun k hk hkg ht => ?_⟩⟩
 rw [hp.far k hkg]
 exact hg.2 k hk ht
theorem info_byte : (Tryd.prog.info? 5).map (fun i => (i.zero, i.size, i.bytes)) = some (some (.int .u8 0), 1, 1) := by kernel_rfl
theorem u8_wrap (y : Int) : IntKind.u8.wrap y = y % 256 := by simp [IntKind.wrap, IntKind.signed, IntKind.bits]
theorem shr_be {x : Int} {k : Nat} (h0 : 0 ≤ x) : x / 2 ^ (8 * (k : Int)).toNat % 256 = x / 256 ^ k % 256 := by
 rw [show (8 * (k : Int)).toNat = 8 * k by omega, Int.pow_mul]
 rfl
theorem beN_step {x : Int} {k : Nat} {pre r : List Int} (h : pre ++ beN x (k + 1) = r) : (pre ++ [x / 256 ^ k % 256]) ++ beN x k = r := by
 rw [← h, List.append_assoc]
 rfl
theorem own_nums {W : World} {base : Nat} {ok : Nat → Prop} {v : Value} {l : List Int} (h : Kd.R (Kd.int .u8) 5 W base ok v l) : W.ownsRow base 5 1 v l.length (nums .u8 l) := Kd.own_of_R h
theorem R_of_nums {W : World} {base : Nat} {v : Value} {l : List Int} (h : W.ownsRow base 5 1 v l.length (nums .u8 l)) : Kd.R (Kd.int .u8) 5 W base (fun _ => True) v l := Kd.R_of_own h (fun _ _ => trivial)
theorem PR.append_step {ops : Array Oper} {o : Oper} {a : Act} {Q : Exit → Act → World → Prop} {Kc : Act → World → Prop} {w0 W : World} (hg : o.guard = none) (s x : Operand)
  (ho : o.op = .call { callee := .builtin .append, args := #[s, x], argTypes := #[28, 28] }) (v : Value) (l : List Int) (p : Int) (hs : a.eval s = v) (hx : a.eval x = .slice (some ⟨W.heap.size, 0, none⟩) 1 1)
  (HO : PR W w0.heap.size v l) (HB : Below w0.heap.size w0 W) (hl : l.length + 1 ≤ 140737488355328)
  (h : ∀ v1 w1, Kd.R (Kd.int .u8) 5 w1 w0.heap.size (fun _ => True) v1 (l ++ [p]) → Below w0.heap.size w0 w1 → FarB W w1 → Kc (a.put o.dst v1) w1) :
  if Region.wanted o (yielded ops a.tmps) = true then Oper.wp Tryd.prog o a (W.alloc (.cells #[.int .u8 p] 5)) Kc Q else Kc (a.put o.dst undef) (W.alloc (.cells #[.int .u8 p] 5)) := by
 have hw : Region.wanted o (yielded ops a.tmps) = true := by simp [Region.wanted, hg]
 rcases HO with HO | ⟨⟨gl, hv, h1, h2⟩, h3⟩
 ·
  refine Kd.R_append_step (Kd.int .u8) (w0 := w0) w0.heap.size hw s x 28 5 (.int .u8 0) 1 ho Tryd.underlying28 info_byte rfl (by decide) (by omega) v l p [.int .u8 p] (fun _ => True) (fun _ => False) hs hx rfl (fun _ hk => hk.elim) (fun _ _ => trivial) HO HB HB.size (by omega) ?_
  intro v1 w1 hr hb hg1 _
  exact h v1 w1 hr hb (FarB.of_R HO hg1)
 ·
  subst hv h3
  obtain ⟨i0, hi, hz⟩ := Option.map_eq_some_iff.1 info_byte
  simp only [Prod.mk.injEq] at hz
  have hnew : (W.alloc (.cells #[.int .u8 p] 5)).heap[W.heap.size]? = some (.cells #[.int .u8 p] 5 (0, 0)) := blk_new W _
  have hal : Below w0.heap.size w0 (W.alloc (.cells #[.int .u8 p] 5)) := HB.alloc HB.size _
  refine step_append_grows (E := Kc (a.put o.dst undef) (W.alloc (.cells #[.int .u8 p] 5))) hg s x 28 ho 5 i0 (.int .u8 0) 1 1 Tryd.underlying28 hi hz.1 hz.2.1 hz.2.2 rfl (by decide) (some ⟨gl, 0, none⟩) 4 4 [.int .u8 80, .int .u8 76, .int .u8 79, .int .u8 49] hs (fun e => by cases e) rfl ?_ ⟨W.heap.size, 0, none⟩ 1 1 [.int .u8 p] hx rfl ?_ (by intro u hu; rw [List.mem_singleton.1 hu]; rfl) (by omega) (by decide) (by decide) ?_
  ·
   intro b hb j u hu
   obtain rfl : (⟨gl, 0, none⟩ : Addr) = b := Option.some.inj hb
   have h4 : (W.alloc (.cells #[.int .u8 p] 5)).heap[gl]? = some (.cells #[.int .u8 80, .int .u8 76, .int .u8 79, .int .u8 49] 5 (4, 5)) := by rw [(Below.refl W.heap.size W).alloc (Nat.le_refl _) _ |>.block gl (blk_lt h2)]; exact h2
   rw [add_plain, cell_of_row _ gl j _ _ _ h4]
   rw [← Array.getElem?_toList]
   exact hu
  ·
   intro j u hu
   rw [add_plain, cell_of_row _ _ j _ _ _ hnew]
   rw [← Array.getElem?_toList]
   exact hu
  ·
   intro v1 w1 hown hgr
   refine h v1 w1 (R_of_nums (l := [80, 76, 79, 49] ++ [p]) (own_less hown (Nat.le_trans HB.size (by show W.heap.size ≤ (W.heap.push _).size; simp)))) (hal.grown hgr hal.size (fun k hk => by cases hk)) ⟨?_, fun k hk _ => ?_⟩
   ·
    have := hgr.size
    have h5 : (W.alloc (.cells #[.int .u8 p] 5)).heap.size = W.heap.size + 1 := by show (W.heap.push _).size = _; simp
    omega
   ·
    rw [hgr.block k (by show k < (W.heap.push _).size; simp; omega) (by simp)]
    exact (Below.refl W.heap.size W).alloc (Nat.le_refl _) _ |>.block k hk
set_option maxHeartbeats 8000000 in
set_option maxRecDepth 100000 in
theorem number.calls (w0 W : World) (g : Nat) (l : List Int) (hp : PenIs w0 W g l) (x : Int) (h0 : 0 ≤ x) (h1 : x < 18446744073709551616) (n : Nat) (hn : n ≤ 8) (hl : l.length + n ≤ 140737488355328) :
  Calls Tryd.prog 42 #[.pointer (some ⟨g, 0, none⟩), .int .u64 x, .int .i64 (n : Int)] W fun e w' => e = .returned (.tuple #[]) ∧ PenIs w0 w' g (l ++ beN x n) ∧ OnlyP g W w' := by
 have hu1 := Tryd.underlying96
 have HP := Aside0.mk (And.intro hp (OnlyP.refl g W))
 have HX0 := Aside0.mk h0
 have HX1 := Aside0.mk h1
 have HL := Aside0.mk hl
 have HN := Aside0.mk hn
 have p0 : (0 : Int) ≤ (n : Int) := by omega
 have p1 : (n : Int) ≤ 8 := by omega
 clear hp h0 h1 hl hn
 go_enter Tryd.func42, Tryd.ntmps42
 go_wp2
 go_loopw [6] (fun u6 wr => ∃ (m : Nat) (pre : List Int), u6 = .int .i64 ((m : Int) - 1) ∧ m ≤ n ∧ Aside0 (pre ++ beN x m = l ++ beN x n ∧ pre.length + m = l.length + n) ∧ Aside0 (PenIs w0 wr g pre ∧ OnlyP g W wr)) (fun u6 _ => (intOf u6 + 1).toNat)
 case atStart => exact ⟨n, l, by first | rfl | (simp; done), Nat.le_refl _, ⟨rfl, rfl⟩, HP⟩
 case round =>
  clear HP
  obtain ⟨m, pre, hu6, hmn, HE, HP⟩ := hrel
  cases m with
  | zero =>
   obtain rfl : u6 = .int .i64 (-1) := hu6
   clear hmn
   go_wp2
   refine Go.Great.bodyPost_end0 rfl rfl ?_
   have he := HE.out.1
   rw [show beN x 0 = [] from rfl, List.append_nil] at he
   subst he
   exact ⟨rfl, HP.out⟩
  | succ k =>
   obtain rfl : u6 = .int .i64 (k : Int) := by rw [hu6]; congr 1; omega
   clear hu6
   have hkb : decide ((k : Int) ≥ 0) = true := decide_eq_true (by omega)
   have q0 : (0 : Int) ≤ (k : Int) := by omega
   have q1 : (k : Int) ≤ 7 := by omega
   have HM := Aside0.mk hmn
   clear hmn
   obtain ⟨⟨v, hv⟩, hon⟩ := HP.out
   have HV := Aside0.mk (hv.below (below_drew (Below.refl _ _)))
   have HON := Aside0.mk (hon.trans (OnlyP.of_below (below_drew (Below.refl _ _))))
   clear HP hv hon
   have hc0 := (blk_cell HV.out.blk 0).trans rfl
   go_wp2
   refine start_ (n := 15) (S := fun w' => w'.cell? ⟨g, 0, none⟩ = some v) (ds := [14]) #[false, false, false, false, false, false, false, false, false, false, false, false, false, false, false] (by kernel_rfl) rfl rfl hc0 (fun hHeld => ?_)
   generalize wr.drew = wd at HV HON hc0 hHeld ⊢
   refine pure_ (i := 0) (N := some 13) (v := ?_) (a' := ?_) #[true, false, false, false, false, false, false, false, false, false, false, false, false, false, false] rfl rfl (by kernel_rfl) (fun _ _ _ h => h) (Or.inl ⟨by rfl, ?_⟩) ?_ ?_
   rotate_left
   ·
    intro w'
    go_simp
    with_reducible rfl
   rotate_left
   ·
    simp only [Act.put, List.setIfInBounds_toArray, List.set_cons_zero, List.set_cons_succ, i64_w, i32_w]
    rfl
   refine pure_ (i := 1) (N := some 14) (v := ?_) (a' := ?_) #[true, true, false, false, false, false, false, false, false, false, false, false, false, false, false] rfl rfl (by kernel_rfl) (fun _ _ _ h => h) (Or.inl ⟨by rfl, ?_⟩) ?_ ?_
   rotate_left
   ·
    intro w'
    go_simp
    with_reducible rfl
   rotate_left
   ·
    simp only [Act.put, List.setIfInBounds_toArray, List.set_cons_zero, List.set_cons_succ, i64_w, i32_w]
    rfl
   refine pure_ (i := 2) (N := some 15) (v := ?_) (a' := ?_) #[true, true, true, false, false, false, false, false, false, false, false, false, false, false, false] rfl rfl (by kernel_rfl) (fun _ _ _ h => h) (Or.inl ⟨by rfl, ?_⟩) ?_ ?_
   rotate_left
   ·
    intro w'
    go_simp
    with_reducible rfl
   rotate_left
   ·
    simp only [Act.put, List.setIfInBounds_toArray, List.set_cons_zero, List.set_cons_succ, i64_w, i32_w]
    rfl
   refine pure_ (i := 3) (N := some 16) (v := ?_) (a' := ?_) #[true, true, true, true, false, false, false, false, false, false, false, false, false, false, false] rfl rfl (by kernel_rfl) (fun _ _ _ h => h) (Or.inl ⟨by rfl, ?_⟩) ?_ ?_
   rotate_left
   ·
    intro w'
    go_simp
    with_reducible rfl
   rotate_left
   ·
    simp only [Act.put, List.setIfInBounds_toArray, List.set_cons_zero, List.set_cons_succ, i64_w, i32_w]
    rfl
   refine take_ (i := 4) (N := some 17) (v := ?_) (a' := ?_) #[true, true, true, true, true, false, false, false, false, false, false, false, false, false, false] rfl rfl (by kernel_rfl) (fun _ _ _ h => h) (Or.inl ⟨by rfl, ?_⟩) hHeld ?_ ?_
   rotate_left
   ·
    rintro w' s0
    go_simp
    with_reducible rfl
   rotate_left
   ·
    simp only [Act.put, List.setIfInBounds_toArray, List.set_cons_zero, List.set_cons_succ, i64_w, i32_w]
    rfl
   refine pure_ (i := 5) (N := some 18) (v := ?_) (a' := ?_) #[true, true, true, true, true, true, false, false, false, false, false, false, false, false, false] rfl rfl (by kernel_rfl) (fun _ _ _ h => h) (Or.inl ⟨by rfl, ?_⟩) ?_ ?_
   rotate_left
   ·
    intro w'
    go_simp
    with_reducible rfl
   rotate_left
   ·
    simp only [Act.put, List.setIfInBounds_toArray, List.set_cons_zero, List.set_cons_succ, i64_w, i32_w]
    rfl
   refine pure_ (i := 6) (N := some 19) (v := ?_) (a' := ?_) #[true, true, true, true, true, true, true, false, false, false, false, false, false, false, false] rfl rfl (by kernel_rfl) (fun _ _ _ h => h) (Or.inl ⟨by rfl, ?_⟩) ?_ ?_
   rotate_left
   ·
    intro w'
    go_simp
    with_reducible rfl
   rotate_left
   ·
    simp only [Act.put, List.setIfInBounds_toArray, List.set_cons_zero, List.set_cons_succ, i64_w, i32_w]
    rfl
   refine pure_ (i := 7) (N := some 20) (v := ?_) (a' := ?_) #[true, true, true, true, true, true, true, true, false, false, false, false, false, false, false] rfl rfl (by kernel_rfl) (fun _ _ _ h => h) (Or.inl ⟨by rfl, ?_⟩) ?_ ?_
   rotate_left
   ·
    intro w'
    go_simp
    rw [i64_w, wrap64_id (x := 8 * (k : Int)) (by omega) (by omega)]
   rotate_left
   ·
    simp only [Act.put, List.setIfInBounds_toArray, List.set_cons_zero, List.set_cons_succ, i64_w, i32_w]
    rfl
   refine pure_ (i := 8) (N := some 21) (v := ?_) (a' := ?_) #[true, true, true, true, true, true, true, true, true, false, false, false, false, false, false] rfl rfl (by kernel_rfl) (fun _ _ _ h => h) (Or.inl ⟨by rfl, ?_⟩) ?_ ?_
   rotate_left
   ·
    intro w'
    go_simp
    with_reducible rfl
   rotate_left
   ·
    simp only [Act.put, List.setIfInBounds_toArray, List.set_cons_zero, List.set_cons_succ, i64_w, i32_w]
    rfl
   refine pure_ (i := 9) (N := some 22) (v := ?_) (a' := ?_) #[true, true, true, true, true, true, true, true, true, true, false, false, false, false, false] rfl rfl (by kernel_rfl) (fun _ _ _ h => h) (Or.inl ⟨by rfl, ?_⟩) ?_ ?_
   rotate_left
   ·
    intro w'
    go_simp
    with_reducible rfl
   rotate_left
   ·
    simp only [Act.put, List.setIfInBounds_toArray, List.set_cons_zero, List.set_cons_succ, i64_w, i32_w]
    rfl
   refine one_ (i := 10) (N := some 23) #[true, true, true, true, true, true, true, true, true, true, true, false, false, false, false] rfl rfl (by kernel_rfl) (by decide) (fun K hK => ?_)
   refine value_ (w1 := ?_) (v := ?_) (by rfl) rfl ?_ ?_
   rotate_left 2
   ·
    go_simp
    constructor
    ·
     rfl
    ·
     rfl
   refine hK.out _ _ ((World.cell?_alloc_lt _ _ _ (World.block_lt_of_cell? _ _ hc0)).trans hc0) (fun hHeld => ?_)
   clear hK K
   refine norm_ (a' := ?_) ?_ ?_
   rotate_left
   ·
    show Act.put _ (some 23) _ = _
    simp only [Act.put, List.setIfInBounds_toArray, List.set_cons_zero, List.set_cons_succ, i64_w, i32_w]
    rfl
   refine one_ (i := 11) (N := some 24) #[true, true, true, true, true, true, true, true, true, true, true, true, false, false, false] rfl rfl (by kernel_rfl) (by decide) (fun K hK => ?_)
   refine PR.append_step (w0 := w0) (by rfl) (.tmp 17) (.tmp 23) rfl v pre (IntKind.u8.wrap (x / 2 ^ (8 * (k : Int)).toNat)) rfl rfl ?aO ?aB ?aL ?_
   (case aB => exact HV.out.low)
   (case aO => exact HV.out.own)
   (case aL => have := HE.out.2; have := HL.out; omega)
   intro v1 w1 ho1 hb1 hg1
   rw [u8_wrap, shr_be HX0.out] at ho1
   obtain ⟨hc1, hf1, hr1, hon1⟩ := HV.out.store ho1 hb1 hg1
   have HR1 := Aside0.mk (And.intro hr1 (HON.out.trans hon1))
   obtain ⟨Ao, co, eo⟩ := Kd.R_slice ho1
   subst eo
   refine hK.out _ _ hc1 (fun hHeld => ?_)
   clear hr1 hon1 hc0
   clear hK K
   refine norm_ (a' := ?_) ?_ ?_
   rotate_left
   ·
    show Act.put _ (some 24) _ = _
    simp only [Act.put, List.setIfInBounds_toArray, List.set_cons_zero, List.set_cons_succ, i64_w, i32_w]
    rfl
   refine pure_ (i := 12) (N := some 25) (v := ?_) (a' := ?_) #[true, true, true, true, true, true, true, true, true, true, true, true, true, false, false] rfl rfl (by kernel_rfl) (fun _ _ _ h => h) (Or.inl ⟨by rfl, ?_⟩) ?_ ?_
   rotate_left
   ·
    intro w'
    go_simp
    with_reducible rfl
   rotate_left
   ·
    simp only [Act.put, List.setIfInBounds_toArray, List.set_cons_zero, List.set_cons_succ, i64_w, i32_w]
    rfl
   refine pure_ (i := 13) (N := some 26) (v := ?_) (a' := ?_) #[true, true, true, true, true, true, true, true, true, true, true, true, true, true, false] rfl rfl (by kernel_rfl) (fun _ _ _ h => h) (Or.inl ⟨by rfl, ?_⟩) ?_ ?_
   rotate_left
   ·
    intro w'
    go_simp
    with_reducible rfl
   rotate_left
   ·
    simp only [Act.put, List.setIfInBounds_toArray, List.set_cons_zero, List.set_cons_succ, i64_w, i32_w]
    rfl
   refine last_ (i := 14) (N := none) #[true, true, true, true, true, true, true, true, true, true, true, true, true, true, true] rfl rfl (by kernel_rfl) (by decide) (fun K hK => ?_)
   refine skip_ (w1 := ?_) (by rfl) rfl ?_ ?_
   rotate_left
   ·
    go_simp
    rfl
   refine hK.out _ _ ?_
   clear hK K
   refine done_ (by kernel_rfl) ?_
   clear HV HON ho1 hb1 hg1 hHeld hc1 hf1
   go_wp2
   go_roundw
   case measure => simp only [intOf]; omega
   case rel => exact ⟨k, _, by first | rfl | (simp; done), by have := HM.out; omega, ⟨beN_step HE.out.1, by rw [List.length_append]; have := HE.out.2; simp only [List.length_cons, List.length_nil]; omega⟩, by have h2 := HR1.out; rw [show (pre ++ [x / 256 ^ k % 256]).length = pre.length + 1 from by simp] at h2; exact ⟨h2⟩⟩
set_option maxHeartbeats 8000000 in
set_option maxRecDepth 100000 in
theorem four.calls (w0 W : World) (g : Nat) (l : List Int) (hp : PenIs w0 W g l) (x : Int) (h0 : 0 ≤ x) (h1 : x ≤ 9223372036854775807) (hl : l.length + 4 ≤ 140737488355328) :
  Calls Tryd.prog 40 #[.pointer (some ⟨g, 0, none⟩), .int .i64 x] W fun e w' => e = .returned (.tuple #[]) ∧ PenIs w0 w' g (l ++ beN x 4) ∧ OnlyP g W w' := by
 have HP := Aside0.mk hp
 have HL := Aside0.mk hl
 have HX := Aside0.mk (And.intro h0 (show x < 18446744073709551616 by omega))
 have HW := Aside0.mk (show IntKind.u64.wrap x = x by rw [IntKind.wrap_u64]; omega)
 clear hp hl h0 h1
 go_enter Tryd.func40, Tryd.ntmps40
 go_wp2_with (go_at_call 42; (try rw [HW.out]); refine (number.calls w0 _ g l HP.out x HX.out.1 HX.out.2 4 (by decide) HL.out).mono ?_; rintro e w1 ⟨rfl, hp, ho⟩; have HQ := Aside0.mk (And.intro hp ho); clear hp ho)
 refine Go.Great.bodyPost_end0 rfl rfl ?_
 exact ⟨rfl, HQ.out⟩
set_option maxHeartbeats 8000000 in
set_option maxRecDepth 100000 in
theorem text.calls (w0 W : World) (g : Nat) (l : List Int) (hp : PenIs w0 W g l) (s : ByteArray) (h4 : 4 ≤ l.length) (hl : l.length + 4 + s.size ≤ 140737488355328) :
  Calls Tryd.prog 41 #[.pointer (some ⟨g, 0, none⟩), .string s] W fun e w' => e = .returned (.tuple #[]) ∧ PenIs w0 w' g (l ++ beN (s.size : Int) 4 ++ bytesOf s) ∧ OnlyP g W w' := by
 have hu1 := Tryd.underlying96
 have HP := Aside0.mk hp
 have HL := Aside0.mk hl
 have H4 := Aside0.mk h4
 clear hp hl h4
 go_enter Tryd.func41, Tryd.ntmps41
 go_upto_region 1 with (go_at_call 40; refine (four.calls w0 _ g l HP.out (s.size : Int) (by omega) (by have := HL.out; omega) (by have := HL.out; omega)).mono ?_; rintro e w1 ⟨rfl, hp, ho⟩; have HQ := Aside0.mk (And.intro hp ho); clear hp ho HP)
 obtain ⟨⟨v, hv⟩, ho⟩ := HQ.out
 have HV := Aside0.mk hv
 have HO := Aside0.mk ho
 have HLN := Aside0.mk (show (l ++ beN (s.size : Int) 4).length = l.length + 4 by rw [List.length_append, beN_length])
 clear HQ hv ho
 have HRW := Aside0.mk (HV.out.own.R (by rw [HLN.out]; have := H4.out; omega))
 have hc0 := (blk_cell HV.out.blk 0).trans rfl
 go_wp2_with ((with_reducible refine gate_builtin (b := .append) (xs := #[.tmp 12, .tmp 13]) rfl ?_); at_builtin; refine print_append_str (w0 := w0) w0.heap.size rfl (.tmp 12) (.tmp 13) 28 9 5 rfl Tryd.underlying28 Tryd.underlying9 info_byte v (l ++ beN (s.size : Int) 4) s rfl rfl ?aO ?aB ?aS ?aL ?_; (case aO => exact own_nums HRW.out); (case aB => exact HV.out.low); (case aS => exact HV.out.low.size); (case aL => (rw [HLN.out]; exact HL.out)); intro v1 w2 hown hb hg; have hr := R_of_nums hown; obtain ⟨hc1, hf1, hr1, hon1⟩ := HV.out.store hr hb (FarB.of_R HRW.out hg); have HR1 := Aside0.mk (And.intro hr1 (HO.out.trans hon1)); obtain ⟨Ao, co, eo⟩ := Kd.R_slice hr; obtain ⟨nn, hnn⟩ : ∃ nn, nn = (l ++ beN (s.size : Int) 4 ++ bytesOf s).length := ⟨_, rfl⟩; rw [← hnn] at eo; subst eo; clear hnn hown hb hg hr hr1 hon1 hc0)
 refine Go.Great.bodyPost_end0 rfl rfl ?_
 exact ⟨rfl, HR1.out⟩
end Go.Proofs.YtiaohbbafaaibabDoor.P

/- OWN TEXT: wire.sum and wire.Write, walked: an object's bytes. -/
namespace Go.Proofs.YtiaohbbafaaibabDoor.P
open Go.RowKit Go.Maps Go.Proofs.YtiaohbbafaaibabDoorW.PrintWords Go.Proofs.YtiaohbbafaaibabDoorW.PrintLast Go.Proofs.YtiaohbbafaaibabDoorW.PrintMore Go.Proofs.YtiaohbbafaaibabDoor.Arr Go.Proofs.YtiaohbbafaaibabDoor.MapB
set_option linter.unusedVariables false
set_option linter.unusedSimpArgs false
def sumF (s : Int) (l : List Int) : Int := l.foldl (fun s c => (s * 31 + c) % 4294967296) s
def sumN (l : List Int) : Int := sumF 0 l
theorem sumF_range {s : Int} (h : 0 ≤ s ∧ s < 4294967296) (l : List Int) : 0 ≤ sumF s l ∧ sumF s l < 4294967296 := by
 induction l generalizing s with
 | nil => exact h
 | cons c l ih => exact ih (show 0 ≤ (s * 31 + c) % 4294967296 ∧ (s * 31 + c) % 4294967296 < 4294967296 from by omega)
theorem sumN_range (l : List Int) : 0 ≤ sumN l ∧ sumN l < 4294967296 := sumF_range (by omega) l
theorem sumN_take (l : List Int) (i : Nat) (h : i < l.length) : sumN (l.take (i + 1)) = (sumN (l.take i) * 31 + rd l (i : Int)) % 4294967296 := by
 unfold sumN sumF
 rw [List.take_succ_eq_append_getElem h, List.foldl_append]
 simp only [List.foldl_cons, List.foldl_nil]
 unfold rd
 rw [Int.toNat_natCast, List.getD_eq_getElem?_getD, List.getElem?_eq_getElem h]
 rfl
theorem sum_step {s c : Int} : IntKind.u32.wrap (IntKind.u32.wrap (s * 31) + IntKind.u32.wrap c) = (s * 31 + c) % 4294967296 := by
 rw [IntKind.wrap_u32, IntKind.wrap_u32, IntKind.wrap_u32]
 omega
set_option maxHeartbeats 8000000 in
set_option maxRecDepth 100000 in
theorem sum.calls (A0 : Option Addr) (c0 : Nat) (l : List Int) (w : World) (hr : Kd.C (Kd.int .u8) w A0 l.length l) (hl : l.length ≤ 9223372036854775806) :
  Calls Tryd.prog 39 #[.slice A0 l.length c0] w fun e w' => e = .returned (.int .u32 (sumN l)) ∧ Below w.heap.size w w' := by
 have HR := Aside0.mk hr
 have HL := Aside0.mk hl
 have HB := Aside0.mk (Below.refl w.heap.size w)
 clear hr hl
 go_enter Tryd.func39, Tryd.ntmps39
 go_wp2
 go_loopw [3, 8] (fun u3 u8 wr => ∃ i : Nat, u8 = .int .i64 (i : Int) ∧ i ≤ l.length ∧ u3 = .int .u32 (sumN (l.take i)) ∧ Aside0 (Below w.heap.size w wr)) (fun _ u8 _ => l.length - (intOf u8).toNat)
 case atStart => exact ⟨0, rfl, Nat.zero_le _, rfl, HB⟩
 case round =>
  clear HB
  obtain ⟨i, rfl, hile, rfl, HB⟩ := hrel
  by_cases hlt : i < l.length
  ·
   have p0 : (0 : Int) ≤ (i : Int) := by omega
   have q0 : (i : Int) < (l.length : Int) := by omega
   obtain ⟨ad, e0, h0⟩ := Kd.at_int HR.out (i : Int) p0 q0
   subst e0
   rw [show ((i : Int)).toNat = i by omega] at h0
   replace h0 := pw_cell_below HB.out h0
   have HS := Aside0.mk (sumN_take l i hlt)
   obtain ⟨c, hc⟩ : ∃ c, c = rd l (i : Int) := ⟨_, rfl⟩
   obtain ⟨s, hs⟩ : ∃ s, s = sumN (l.take i) := ⟨_, rfl⟩
   rw [← hc] at h0
   rw [← hs]
   have HSC := Aside0.mk (And.intro hc hs)
   clear hc hs
   have hltb : decide ((i : Int) < (l.length : Int)) = true := decide_eq_true q0
   have HLT := Aside0.mk hlt
   have HWR := Aside0.mk (show wrap64 ((i : Int) + 1) = ((i + 1 : Nat) : Int) by rw [wrap64_id (by have := HL.out; omega) (by have := HL.out; omega)]; rfl)
   replace p0 := eq_true p0
   replace q0 := eq_true q0
   clear hlt hile
   go_wp2
   go_roundw
   case measure => have hq := HLT.out; (try rw [HWR.out]); simp only [intOf]; omega
   case rel => exact ⟨i + 1, by first | rfl | (rw [HWR.out]; done), by have := HLT.out; omega, by rw [HS.out, ← HSC.out.1, ← HSC.out.2]; first | (rw [sum_step]; done) | (simp only [IntKind.wrap_u32]; congr 1; omega) | (congr 1; omega), HB⟩
  ·
   have hi0 : i = l.length := by omega
   subst hi0
   have hltb : decide ((l.length : Int) < (l.length : Int)) = false := by simp
   clear hlt hile
   rw [List.take_length]
   go_wp2
   go_ret
   exact ⟨rfl, HB.out⟩
def mU (x : Int) : Int := x % 18446744073709551616
theorem u64_w (x : Int) : IntKind.u64.wrap x = mU x := IntKind.wrap_u64 x
theorem u64_range (x : Int) : 0 ≤ mU x ∧ mU x < 18446744073709551616 := by unfold mU; omega
def symB (s : Sym) : List Int := beN (s.f0.size : Int) 4 ++ bytesOf s.f0 ++ beN s.f1 4 ++ beN s.f2 4
def relB (r : Rel) : List Int := beN r.f0 4 ++ beN r.f1 4
def headB (nm : ByteArray) (code : List Int) (dat : Int) (data : List Int) (syms : List Sym) (rels : List Rel) : List Int :=
 ((((((((([80, 76, 79, 49] ++ beN (nm.size : Int) 4 ++ bytesOf nm) ++ beN (code.length : Int) 4) ++ code.flatMap fun x => beN x 4) ++ beN dat 4) ++ beN (data.length : Int) 4) ++ data.flatMap fun x => beN (mU x) 8) ++ beN (syms.length : Int) 4) ++ syms.flatMap symB) ++ beN (rels.length : Int) 4) ++ rels.flatMap relB
def writeB (nm : ByteArray) (code : List Int) (dat : Int) (data : List Int) (syms : List Sym) (rels : List Rel) : List Int := headB nm code dat data syms rels ++ beN (sumN (headB nm code dat data syms rels)) 4
theorem headB_long (nm : ByteArray) (code : List Int) (dat : Int) (data : List Int) (syms : List Sym) (rels : List Rel) : 4 < (headB nm code dat data syms rels).length := by
 unfold headB
 simp only [List.length_append, beN_length, List.length_cons, List.length_nil]
 omega
theorem flat_step {α : Type} (f : α → List Int) (P : List Int) (xs : List α) (i : Nat) (h : i < xs.length) : P ++ (xs.take (i + 1)).flatMap f = P ++ (xs.take i).flatMap f ++ f xs[i] := by
 rw [List.take_succ_eq_append_getElem h, List.flatMap_append, List.append_assoc]
 simp
theorem rd_get {l : List Int} {i : Nat} (h : i < l.length) : rd l (i : Int) = l[i] := by
 unfold rd
 rw [Int.toNat_natCast, List.getD_eq_getElem?_getD, List.getElem?_eq_getElem h]
 rfl
theorem sy_getW {l : List Sym} {i : Nat} (h : i < l.length) : rd_T75 l (i : Int) = l[i] := by
 unfold rd_T75
 rw [Int.toNat_natCast, List.getD_eq_getElem?_getD, List.getElem?_eq_getElem h]
 rfl
theorem rl_getW {l : List Rel} {i : Nat} (h : i < l.length) : rd_T68 l (i : Int) = l[i] := by
 unfold rd_T68
 rw [Int.toNat_natCast, List.getD_eq_getElem?_getD, List.getElem?_eq_getElem h]
 rfl
structure WS (w W : World) (g gb : Nat) (ob : Obj) (l : List Int) (N : Nat) : Prop where
  pen : PenIs w W g l
  box : W.heap[gb]? = some ob
  len : l.length ≤ N
  ne : gb ≠ g
  ty : ∀ cs, ob ≠ .cells cs 5 (0, 0)
  lo : 4 ≤ l.length
theorem PenIs.low {w W : World} {g : Nat} {l : List Int} (h : PenIs w W g l) : Below w.heap.size w W := by obtain ⟨v, hv⟩ := h; exact hv.low
theorem WS.below {w W W1 : World} {g gb : Nat} {ob : Obj} {l : List Int} {N : Nat} (h : WS w W g gb ob l N) (hb : Below W.heap.size W W1) : WS w W1 g gb ob l N := ⟨h.pen.below hb, blk_below h.box hb, h.len, h.ne, h.ty, h.lo⟩
theorem WS.step {w W W1 : World} {g gb : Nat} {ob : Obj} {l l1 : List Int} {N N1 : Nat} (h : WS w W g gb ob l N) (hp : PenIs w W1 g l1) (ho : OnlyP g W W1) (hl : l1.length ≤ N1) (h4 : 4 ≤ l1.length) : WS w W1 g gb ob l1 N1 := ⟨hp, ho.blk h.box h.ne h.ty, hl, h.ne, h.ty, h4⟩
theorem WS.four {w W W1 : World} {g gb : Nat} {ob : Obj} {l : List Int} {N : Nat} {x : Int} (h : WS w W g gb ob l N) (hp : PenIs w W1 g (l ++ beN x 4)) (ho : OnlyP g W W1) : WS w W1 g gb ob (l ++ beN x 4) (N + 4) := h.step hp ho (by rw [List.length_append, beN_length]; have := h.len; omega) (by rw [List.length_append]; have := h.lo; omega)
theorem WS.eight {w W W1 : World} {g gb : Nat} {ob : Obj} {l : List Int} {N : Nat} {x : Int} (h : WS w W g gb ob l N) (hp : PenIs w W1 g (l ++ beN x 8)) (ho : OnlyP g W W1) : WS w W1 g gb ob (l ++ beN x 8) (N + 8) := h.step hp ho (by rw [List.length_append, beN_length]; have := h.len; omega) (by rw [List.length_append]; have := h.lo; omega)
theorem WS.text {w W W1 : World} {g gb : Nat} {ob : Obj} {l : List Int} {N : Nat} {s : ByteArray} (h : WS w W g gb ob l N) (hs : s.size ≤ 24) (hp : PenIs w W1 g (l ++ beN (s.size : Int) 4 ++ bytesOf s)) (ho : OnlyP g W W1) : WS w W1 g gb ob (l ++ beN (s.size : Int) 4 ++ bytesOf s) (N + 28) := h.step hp ho (by rw [List.length_append, List.length_append, beN_length, bytesOf_length]; have := h.len; omega) (by rw [List.length_append, List.length_append]; have := h.lo; omega)
theorem PenIs.put {w0 W W1 : World} {g k : Nat} {l : List Int} {cs c1 : Array Value} {e e1 : TypeId} (h : PenIs w0 W g l) (hb : W.heap[k]? = some (.cells cs e (0, 0))) (he : 5 ≠ e) (hp : Put W W1 k c1 e1) (hk : g ≠ k) (hw : w0.heap.size ≤ k) : PenIs w0 W1 g l := by
 obtain ⟨v, hv⟩ := h
 exact ⟨v, hp.below hv.low hw, blk_grown hv.blk (put_grownN hp) (fun e => hk (Option.some.inj e)), hv.own.put hb he hp, hv.base⟩
theorem WS.put {w W W1 : World} {g gb k : Nat} {ob : Obj} {l : List Int} {N : Nat} {cs c1 : Array Value} {e e1 : TypeId} (h : WS w W g gb ob l N) (hb : W.heap[k]? = some (.cells cs e (0, 0))) (he : 5 ≠ e) (hp : Put W W1 k c1 e1) (hk : g < k) (hk2 : gb < k) (hw : w.heap.size ≤ k) : WS w W1 g gb ob l N :=
 ⟨h.pen.put hb he hp (Nat.ne_of_lt hk) hw, blk_grown h.box (put_grownN hp) (fun e => by have := Option.some.inj e; omega), h.len, h.ne, h.ty, h.lo⟩
theorem WS.lt {w W : World} {g gb : Nat} {ob : Obj} {l : List Int} {N : Nat} (h : WS w W g gb ob l N) : g < W.heap.size ∧ gb < W.heap.size ∧ w.heap.size ≤ W.heap.size := by
 obtain ⟨v, hv⟩ := h.pen
 exact ⟨blk_lt hv.blk, blk_lt h.box, hv.low.size⟩
theorem conv_lit (W : World) : (convert 28 28 (.slice (some ⟨W.heap.size, 0, none⟩) 4 4)).run Tryd.prog (W.alloc (.cells #[.int .u8 80, .int .u8 76, .int .u8 79, .int .u8 49] 5)) = .ok (.slice (some ⟨W.heap.size, 0, none⟩) 4 4) (W.alloc (.cells #[.int .u8 80, .int .u8 76, .int .u8 79, .int .u8 49] 5 (4, 5))) := Lib.run_convert_bytes_const W 28 5 #[.int .u8 80, .int .u8 76, .int .u8 79, .int .u8 49] 4 4 Tryd.underlying28 Tryd.underlying5
structure WOk (nm : ByteArray) (code : List Int) (dat : Int) (data : List Int) (syms : List Sym) (rels : List Rel) : Prop where
  hnm : nm.size ≤ 24
  hcode : code.length ≤ 16384
  hwords : ∀ i, i < code.length → 0 ≤ rd code (i : Int) ∧ rd code (i : Int) < 4294967296
  hdat : 0 ≤ dat ∧ dat ≤ 2147483647
  hdata : data.length ≤ 4096
  hsyms : syms.length ≤ 256
  hsym : ∀ i, i < syms.length → (rd_T75 syms (i : Int)).f0.size ≤ 24 ∧ (0 ≤ (rd_T75 syms (i : Int)).f1 ∧ (rd_T75 syms (i : Int)).f1 ≤ 3) ∧ 0 ≤ (rd_T75 syms (i : Int)).f2 ∧ (rd_T75 syms (i : Int)).f2 ≤ 2147483647
  hrels : rels.length ≤ 16384
  hrel : ∀ i, i < rels.length → (0 ≤ (rd_T68 rels (i : Int)).f0 ∧ (rd_T68 rels (i : Int)).f0 ≤ 2147483647) ∧ 0 ≤ (rd_T68 rels (i : Int)).f1 ∧ (rd_T68 rels (i : Int)).f1 ≤ 2147483647
set_option maxHeartbeats 8000000 in
set_option maxRecDepth 100000 in
theorem write_bad.calls (a0_0 : ByteArray) (A0_1 : Option Addr) (c0_1 : Nat) (l0_1 : List Int) (a0_2 : Int) (A0_3 : Option Addr) (c0_3 : Nat) (l0_3 : List Int) (A0_4 : Option Addr) (c0_4 : Nat) (l0_4 : List (S75)) (A0_5 : Option Addr) (c0_5 : Nat) (l0_5 : List (S68)) (w : World) (e n : Int) (hr0_1 : Kd.C (Kd.int .u32) w A0_1 l0_1.length l0_1) (hc0_1 : l0_1.length ≤ c0_1) (hr0_3 : Kd.C (Kd.int .i64) w A0_3 l0_3.length l0_3) (hc0_3 : l0_3.length ≤ c0_3) (hr0_4 : Kd.C k75 w A0_4 l0_4.length l0_4) (hc0_4 : l0_4.length ≤ c0_4) (hr0_5 : Kd.C k68 w A0_5 l0_5.length l0_5) (hc0_5 : l0_5.length ≤ c0_5) (h : object_Check.f a0_0 l0_1 a0_2 l0_3 l0_4 l0_5 = some (e, n)) (he : e ≠ 0) :
  Calls Tryd.prog 9 #[.agg #[.string a0_0, .slice A0_1 l0_1.length c0_1, .int .i64 a0_2, .slice A0_3 l0_3.length c0_3, .slice A0_4 l0_4.length c0_4, .slice A0_5 l0_5.length c0_5]] w fun e_ w' => e_ = .returned (.tuple #[.slice none 0 0, .int .i64 e]) ∧ Below w.heap.size w w' := by
 have hu1 := Tryd.underlying27
 have H := Aside0.mk h
 have HB := Aside0.mk (Below.refl w.heap.size w)
 have hne : (e != 0) = true := bne_iff_ne.mpr he
 have R1 := Aside0.mk (And.intro hr0_1 hc0_1)
 have R3 := Aside0.mk (And.intro hr0_3 hc0_3)
 have R4 := Aside0.mk (And.intro hr0_4 hc0_4)
 have R5 := Aside0.mk (And.intro hr0_5 hc0_5)
 clear h he hr0_1 hc0_1 hr0_3 hc0_3 hr0_4 hc0_4 hr0_5 hc0_5
 go_enter Tryd.func9, Tryd.ntmps9
 go_wp2_with (first | ((with_reducible refine gate_dst (N := 1) rfl ?_); refine box_event ?hg (N := 1) ?hd (cs := #[.string a0_0, .slice A0_1 l0_1.length c0_1, .int .i64 a0_2, .slice A0_3 l0_3.length c0_3, .slice A0_4 l0_4.length c0_4, .slice A0_5 l0_5.length c0_5]) (t := 27) ?hr ?_; (case hd => rfl); (case hg => rfl); (case hr => first | (go_simp; done) | (go_simp; rfl)); intro gb hg_ w1 BK_ hb_; have BO := Aside0.mk (show w1.heap[gb]? = some (objCell a0_0 A0_1 l0_1.length c0_1 a0_2 A0_3 l0_3.length c0_3 A0_4 l0_4.length c0_4 A0_5 l0_5.length c0_5) from BK_); have HBn := Aside0.mk (bsQ hb_ HB.out); have GB := Aside0.mk (gwQ hg_ HB.out); clear HB BK_ hb_ hg_; have HB := HBn; clear HBn; have ha0 := blk_cell BO.out 0; have ha1 := blk_cell BO.out 1; have ha2 := blk_cell BO.out 2; have ha3 := blk_cell BO.out 3; have ha4 := blk_cell BO.out 4; have ha5 := blk_cell BO.out 5) | (go_at_call 11; refine (object_Check.calls _ _ _ _ _ _ _ _ _ _ _ _ _ _ e n _ (Kd.C_below R1.out.1 HB.out) R1.out.2 (Kd.C_below R3.out.1 HB.out) R3.out.2 (Kd.C_below R4.out.1 HB.out) R4.out.2 (Kd.C_below R5.out.1 HB.out) R5.out.2 H.out).mono ?_; rintro e_ w2 ⟨rfl, hb_⟩; replace HB := Aside0.mk (bsQ hb_ HB.out); replace BO := Aside0.mk (blk_below BO.out hb_); clear hb_ ha0 ha1 ha2 ha3 ha4 ha5; have ha0 := blk_cell BO.out 0; have ha1 := blk_cell BO.out 1; have ha2 := blk_cell BO.out 2; have ha3 := blk_cell BO.out 3; have ha4 := blk_cell BO.out 4; have ha5 := blk_cell BO.out 5))
 go_ret2
 exact ⟨rfl, HB.out⟩
set_option maxHeartbeats 60000000 in
set_option maxRecDepth 100000 in
theorem write_ok.calls (a0_0 : ByteArray) (A0_1 : Option Addr) (c0_1 : Nat) (l0_1 : List Int) (a0_2 : Int) (A0_3 : Option Addr) (c0_3 : Nat) (l0_3 : List Int) (A0_4 : Option Addr) (c0_4 : Nat) (l0_4 : List (S75)) (A0_5 : Option Addr) (c0_5 : Nat) (l0_5 : List (S68)) (w : World) (n : Int) (hr0_1 : Kd.C (Kd.int .u32) w A0_1 l0_1.length l0_1) (hc0_1 : l0_1.length ≤ c0_1) (hr0_3 : Kd.C (Kd.int .i64) w A0_3 l0_3.length l0_3) (hc0_3 : l0_3.length ≤ c0_3) (hr0_4 : Kd.C k75 w A0_4 l0_4.length l0_4) (hc0_4 : l0_4.length ≤ c0_4) (hr0_5 : Kd.C k68 w A0_5 l0_5.length l0_5) (hc0_5 : l0_5.length ≤ c0_5) (h : object_Check.f a0_0 l0_1 a0_2 l0_3 l0_4 l0_5 = some (0, n)) (hk : WOk a0_0 l0_1 a0_2 l0_3 l0_4 l0_5) :
  Calls Tryd.prog 9 #[.agg #[.string a0_0, .slice A0_1 l0_1.length c0_1, .int .i64 a0_2, .slice A0_3 l0_3.length c0_3, .slice A0_4 l0_4.length c0_4, .slice A0_5 l0_5.length c0_5]] w fun e_ w' => ∃ v, e_ = .returned (.tuple #[v, .int .i64 0]) ∧ Kd.R (Kd.int .u8) 5 w' w.heap.size (fun _ => True) v (writeB a0_0 l0_1 a0_2 l0_3 l0_4 l0_5) ∧ Below w.heap.size w w' := by
 have hu1 := Tryd.underlying27
 have hu2 := Tryd.underlying96
 have hu3 := Tryd.underlying75
 have hu4 := Tryd.underlying68
 have hcv := conv_lit
 have H := Aside0.mk h
 have K := Aside0.mk hk
 have HB := Aside0.mk (Below.refl w.heap.size w)
 have R1 := Aside0.mk (And.intro hr0_1 hc0_1)
 have R3 := Aside0.mk (And.intro hr0_3 hc0_3)
 have R4 := Aside0.mk (And.intro hr0_4 hc0_4)
 have R5 := Aside0.mk (And.intro hr0_5 hc0_5)
 have KL := Aside0.mk (And.intro hk.hnm (And.intro hk.hcode (And.intro hk.hdata (And.intro hk.hsyms hk.hrels))))
 clear h hk hr0_1 hc0_1 hr0_3 hc0_3 hr0_4 hc0_4 hr0_5 hc0_5
 go_enter Tryd.func9, Tryd.ntmps9
 go_wp2_with (first | ((with_reducible refine gate_dst (N := 1) rfl ?_); refine box_event ?hg (N := 1) ?hd (cs := #[.string a0_0, .slice A0_1 l0_1.length c0_1, .int .i64 a0_2, .slice A0_3 l0_3.length c0_3, .slice A0_4 l0_4.length c0_4, .slice A0_5 l0_5.length c0_5]) (t := 27) ?hr ?_; (case hd => rfl); (case hg => rfl); (case hr => first | (go_simp; done) | (go_simp; rfl)); intro gb hg_ w1 BK_ hb_; have BO := Aside0.mk (show w1.heap[gb]? = some (objCell a0_0 A0_1 l0_1.length c0_1 a0_2 A0_3 l0_3.length c0_3 A0_4 l0_4.length c0_4 A0_5 l0_5.length c0_5) from BK_); have HBn := Aside0.mk (bsQ hb_ HB.out); have GB := Aside0.mk (gwQ hg_ HB.out); clear HB BK_ hb_ hg_; have HB := HBn; clear HBn; have ha0 := blk_cell BO.out 0; have ha1 := blk_cell BO.out 1; have ha2 := blk_cell BO.out 2; have ha3 := blk_cell BO.out 3; have ha4 := blk_cell BO.out 4; have ha5 := blk_cell BO.out 5) | (go_at_call 11; refine (object_Check.calls _ _ _ _ _ _ _ _ _ _ _ _ _ _ 0 n _ (Kd.C_below R1.out.1 HB.out) R1.out.2 (Kd.C_below R3.out.1 HB.out) R3.out.2 (Kd.C_below R4.out.1 HB.out) R4.out.2 (Kd.C_below R5.out.1 HB.out) R5.out.2 H.out).mono ?_; rintro e_ w2 ⟨rfl, hb_⟩; replace HB := Aside0.mk (bsQ hb_ HB.out); replace BO := Aside0.mk (blk_below BO.out hb_); clear hb_ ha0 ha1 ha2 ha3 ha4 ha5; have ha0 := blk_cell BO.out 0; have ha1 := blk_cell BO.out 1; have ha2 := blk_cell BO.out 2; have ha3 := blk_cell BO.out 3; have ha4 := blk_cell BO.out 4; have ha5 := blk_cell BO.out 5) | ((with_reducible refine gate_dst (N := 27) rfl ?_); refine box_event ?hg (N := 27) ?hd (cs := #[.slice (some ⟨w2.heap.size, 0, none⟩) 4 4]) (t := 96) ?hr ?_; (case hd => rfl); (case hg => rfl); (case hr => first | (go_simp; done) | (go_simp; rfl)); intro g hg_ w4 BK_ hb_; have HW := Aside0.mk (show WS w w4 g gb (objCell a0_0 A0_1 l0_1.length c0_1 a0_2 A0_3 l0_3.length c0_3 A0_4 l0_4.length c0_4 A0_5 l0_5.length c0_5) [80, 76, 79, 49] 4 from ⟨⟨_, bs1Q hb_ (below_alloc HB.out _), BK_, .inr ⟨⟨w2.heap.size, rfl, HB.out.size, blk_below (MapKept.heap_alloc w2 _).1 hb_⟩, rfl⟩, gw1Q hg_ (below_alloc HB.out _)⟩, blk_below (blk_below BO.out (below_alloc (Below.refl _ _) _)) hb_, Nat.le_refl _, by rw [hg_]; exact Nat.ne_of_lt (blk_lt (blk_below BO.out (below_alloc (Below.refl _ _) _))), fun cs e_ => (by injection e_ with _ e_ _; exact absurd e_ (by decide)), Nat.le_refl _⟩); clear HB BO BK_ hb_ hg_ ha0 ha1 ha2 ha3 ha4 ha5; have ha0 := blk_cell HW.out.box 0; have ha1 := blk_cell HW.out.box 1; have ha2 := blk_cell HW.out.box 2; have ha3 := blk_cell HW.out.box 3; have ha4 := blk_cell HW.out.box 4; have ha5 := blk_cell HW.out.box 5) | (go_at_call 41; refine (text.calls w _ g _ HW.out.pen a0_0 HW.out.lo (by have := HW.out.len; have := KL.out; (try have hq_ := HLT.out); have := KL.out.1; omega)).mono ?_; rintro e_ w9 ⟨rfl, hp_, ho_⟩; replace HW := Aside0.mk (HW.out.text KL.out.1 hp_ ho_); clear hp_ ho_ ha0 ha1 ha2 ha3 ha4 ha5; have ha0 := blk_cell HW.out.box 0; have ha1 := blk_cell HW.out.box 1; have ha2 := blk_cell HW.out.box 2; have ha3 := blk_cell HW.out.box 3; have ha4 := blk_cell HW.out.box 4; have ha5 := blk_cell HW.out.box 5) | (go_at_call 40; refine (four.calls w _ g _ HW.out.pen (l0_1.length : Int) (by omega) (by have := KL.out; omega) (by have := HW.out.len; have := KL.out; (try have hq_ := HLT.out); omega)).mono ?_; rintro e_ w9 ⟨rfl, hp_, ho_⟩; replace HW := Aside0.mk (HW.out.four hp_ ho_); clear hp_ ho_ ha0 ha1 ha2 ha3 ha4 ha5; have ha0 := blk_cell HW.out.box 0; have ha1 := blk_cell HW.out.box 1; have ha2 := blk_cell HW.out.box 2; have ha3 := blk_cell HW.out.box 3; have ha4 := blk_cell HW.out.box 4; have ha5 := blk_cell HW.out.box 5))
 have HW2 := HW.out
 generalize hP_ : ([80, 76, 79, 49] ++ beN (a0_0.size : Int) 4 ++ bytesOf a0_0 ++ beN (l0_1.length : Int) 4 : List Int) = P1 at HW2
 clear HW ha0 ha1 ha2 ha3 ha4 ha5
 have HW := Aside0.mk HW2
 have HP1 := Aside0.mk hP_
 clear HW2 hP_
 have ha0 := blk_cell HW.out.box 0
 have ha1 := blk_cell HW.out.box 1
 have ha2 := blk_cell HW.out.box 2
 have ha3 := blk_cell HW.out.box 3
 have ha4 := blk_cell HW.out.box 4
 have ha5 := blk_cell HW.out.box 5
 go_loopw [42] (fun u wr => ∃ i : Nat, u = .int .i64 (i : Int) ∧ i ≤ l0_1.length ∧ Aside0 (WS w wr g gb (objCell a0_0 A0_1 l0_1.length c0_1 a0_2 A0_3 l0_3.length c0_3 A0_4 l0_4.length c0_4 A0_5 l0_5.length c0_5) (P1 ++ (l0_1.take i).flatMap (fun x => beN x 4)) (36 + 4 * i))) (fun u _ => l0_1.length - (intOf u).toNat)
 case atStart => exact ⟨0, rfl, Nat.zero_le _, ⟨by simpa using HW.out⟩⟩
 case round =>
  clear HW
  obtain ⟨i, rfl, hile, HW⟩ := hrel
  by_cases hlt : i < l0_1.length
  ·
   have p0 : (0 : Int) ≤ (i : Int) := by omega
   have q0 : (i : Int) < (l0_1.length : Int) := by omega
   obtain ⟨ad, e0, h0⟩ := Kd.at_int R1.out.1 (i : Int) p0 q0
   subst e0
   rw [show ((i : Int)).toNat = i by omega] at h0
   replace h0 := pw_cell_below HW.out.pen.low h0
   have hwd := K.out.hwords i hlt
   rw [rd_get hlt] at h0 hwd
   obtain ⟨x, hx⟩ : ∃ x, ∀ h : i < l0_1.length, x = l0_1[i] := ⟨l0_1[i], fun _ => rfl⟩
   rw [← hx hlt] at h0 hwd
   have HX := Aside0.mk hx
   have HXW := Aside0.mk hwd
   have HI := Aside0.mk (show wrap64 x = x by rw [wrap64_id (by omega) (by omega)])
   clear hx hwd
   have hltb : decide ((i : Int) < (l0_1.length : Int)) = true := decide_eq_true q0
   have HLT := Aside0.mk hlt
   have HWR := Aside0.mk (show wrap64 ((i : Int) + 1) = ((i + 1 : Nat) : Int) by rw [wrap64_id (by have := KL.out; omega) (by have := KL.out; omega)]; rfl)
   replace p0 := eq_true p0
   replace q0 := eq_true q0
   clear hlt hile
   have ha0 := blk_cell HW.out.box 0
   have ha1 := blk_cell HW.out.box 1
   have ha2 := blk_cell HW.out.box 2
   have ha3 := blk_cell HW.out.box 3
   have ha4 := blk_cell HW.out.box 4
   have ha5 := blk_cell HW.out.box 5
   go_wp2_with (first | (go_at_call 40; (try rw [HI.out]); refine (four.calls w _ g _ HW.out.pen x HXW.out.1 (by have := HXW.out; omega) (by have := HW.out.len; have := KL.out; (try have hq_ := HLT.out); omega)).mono ?_; rintro e_ w9 ⟨rfl, hp_, ho_⟩; replace HW := Aside0.mk (HW.out.four hp_ ho_); clear hp_ ho_ ha0 ha1 ha2 ha3 ha4 ha5; have ha0 := blk_cell HW.out.box 0; have ha1 := blk_cell HW.out.box 1; have ha2 := blk_cell HW.out.box 2; have ha3 := blk_cell HW.out.box 3; have ha4 := blk_cell HW.out.box 4; have ha5 := blk_cell HW.out.box 5))
   go_roundw
   case measure => have hq := HLT.out; (try rw [HWR.out]); simp only [intOf]; omega
   case rel => exact ⟨i + 1, by first | rfl | (rw [HWR.out]; done), by have := HLT.out; omega, ⟨by rw [flat_step _ _ _ _ HLT.out]; exact (by rw [← HX.out HLT.out]; exact (show WS _ _ _ _ _ _ _ from ⟨HW.out.pen, HW.out.box, by have := HW.out.len; omega, HW.out.ne, HW.out.ty, HW.out.lo⟩))⟩⟩
  ·
   have hi0 : i = l0_1.length := by omega
   subst hi0
   have hltb : decide ((l0_1.length : Int) < (l0_1.length : Int)) = false := by simp
   clear hlt hile
   have HW2 := HW.out
   rw [List.take_length] at HW2
   clear HW
   have HW := Aside0.mk HW2
   clear HW2
   have ha0 := blk_cell HW.out.box 0
   have ha1 := blk_cell HW.out.box 1
   have ha2 := blk_cell HW.out.box 2
   have ha3 := blk_cell HW.out.box 3
   have ha4 := blk_cell HW.out.box 4
   have ha5 := blk_cell HW.out.box 5
   go_upto_region 14 with ((go_at_call 40; refine (four.calls w _ g _ HW.out.pen a0_2 K.out.hdat.1 (by have := K.out.hdat; omega) (by have := HW.out.len; have := KL.out; (try have hq_ := HLT.out); omega)).mono ?_; rintro e_ w9 ⟨rfl, hp_, ho_⟩; replace HW := Aside0.mk (HW.out.four hp_ ho_); clear hp_ ho_ ha0 ha1 ha2 ha3 ha4 ha5; have ha0 := blk_cell HW.out.box 0; have ha1 := blk_cell HW.out.box 1; have ha2 := blk_cell HW.out.box 2; have ha3 := blk_cell HW.out.box 3; have ha4 := blk_cell HW.out.box 4; have ha5 := blk_cell HW.out.box 5))
   go_wp2_with (first | (go_at_call 40; refine (four.calls w _ g _ HW.out.pen (l0_3.length : Int) (by omega) (by have := KL.out; omega) (by have := HW.out.len; have := KL.out; (try have hq_ := HLT.out); omega)).mono ?_; rintro e_ w9 ⟨rfl, hp_, ho_⟩; replace HW := Aside0.mk (HW.out.four hp_ ho_); clear hp_ ho_ ha0 ha1 ha2 ha3 ha4 ha5; have ha0 := blk_cell HW.out.box 0; have ha1 := blk_cell HW.out.box 1; have ha2 := blk_cell HW.out.box 2; have ha3 := blk_cell HW.out.box 3; have ha4 := blk_cell HW.out.box 4; have ha5 := blk_cell HW.out.box 5))
   have HW2 := HW.out
   generalize hP_ : (P1 ++ (l0_1.flatMap fun x => beN x 4) ++ beN a0_2 4 ++ beN (l0_3.length : Int) 4 : List Int) = P2 at HW2
   clear HW ha0 ha1 ha2 ha3 ha4 ha5
   have HW := Aside0.mk HW2
   have HP2 := Aside0.mk hP_
   clear HW2 hP_
   have HK2 := Aside0.mk (show (36 + 4 * l0_1.length + 4 + 4 : Nat) ≤ 65580 by have := KL.out; omega)
   have HW2 := HW.out
   have HW := Aside0.mk (show WS w _ g gb _ P2 65580 from ⟨HW2.pen, HW2.box, by have := HW2.len; have := HK2.out; omega, HW2.ne, HW2.ty, HW2.lo⟩)
   clear HW2 HK2
   have ha0 := blk_cell HW.out.box 0
   have ha1 := blk_cell HW.out.box 1
   have ha2 := blk_cell HW.out.box 2
   have ha3 := blk_cell HW.out.box 3
   have ha4 := blk_cell HW.out.box 4
   have ha5 := blk_cell HW.out.box 5
   go_loopw [63] (fun u wr => ∃ i : Nat, u = .int .i64 (i : Int) ∧ i ≤ l0_3.length ∧ Aside0 (WS w wr g gb (objCell a0_0 A0_1 l0_1.length c0_1 a0_2 A0_3 l0_3.length c0_3 A0_4 l0_4.length c0_4 A0_5 l0_5.length c0_5) (P2 ++ (l0_3.take i).flatMap (fun x => beN (mU x) 8)) (65580 + 8 * i))) (fun u _ => l0_3.length - (intOf u).toNat)
   case atStart => exact ⟨0, rfl, Nat.zero_le _, ⟨by simpa using HW.out⟩⟩
   case round =>
    clear HW
    obtain ⟨i, rfl, hile, HW⟩ := hrel
    by_cases hlt : i < l0_3.length
    ·
     have p0 : (0 : Int) ≤ (i : Int) := by omega
     have q0 : (i : Int) < (l0_3.length : Int) := by omega
     obtain ⟨ad, e0, h0⟩ := Kd.at_int R3.out.1 (i : Int) p0 q0
     subst e0
     rw [show ((i : Int)).toNat = i by omega] at h0
     replace h0 := pw_cell_below HW.out.pen.low h0
     rw [rd_get hlt] at h0
     obtain ⟨x, hx⟩ : ∃ x, ∀ h : i < l0_3.length, x = l0_3[i] := ⟨l0_3[i], fun _ => rfl⟩
     rw [← hx hlt] at h0
     have HX := Aside0.mk hx
     clear hx
     have hltb : decide ((i : Int) < (l0_3.length : Int)) = true := decide_eq_true q0
     have HLT := Aside0.mk hlt
     have HWR := Aside0.mk (show wrap64 ((i : Int) + 1) = ((i + 1 : Nat) : Int) by rw [wrap64_id (by have := KL.out; omega) (by have := KL.out; omega)]; rfl)
     replace p0 := eq_true p0
     replace q0 := eq_true q0
     clear hlt hile
     have ha0 := blk_cell HW.out.box 0
     have ha1 := blk_cell HW.out.box 1
     have ha2 := blk_cell HW.out.box 2
     have ha3 := blk_cell HW.out.box 3
     have ha4 := blk_cell HW.out.box 4
     have ha5 := blk_cell HW.out.box 5
     go_wp2_with (first | (go_at_call 42; (try rw [u64_w]); refine (number.calls w _ g _ HW.out.pen (mU x) (u64_range x).1 (u64_range x).2 8 (by decide) (by have := HW.out.len; have := KL.out; (try have hq_ := HLT.out); omega)).mono ?_; rintro e_ w9 ⟨rfl, hp_, ho_⟩; replace HW := Aside0.mk (HW.out.eight hp_ ho_); clear hp_ ho_ ha0 ha1 ha2 ha3 ha4 ha5; have ha0 := blk_cell HW.out.box 0; have ha1 := blk_cell HW.out.box 1; have ha2 := blk_cell HW.out.box 2; have ha3 := blk_cell HW.out.box 3; have ha4 := blk_cell HW.out.box 4; have ha5 := blk_cell HW.out.box 5))
     go_roundw
     case measure => have hq := HLT.out; (try rw [HWR.out]); simp only [intOf]; omega
     case rel => exact ⟨i + 1, by first | rfl | (rw [HWR.out]; done), by have := HLT.out; omega, ⟨by rw [flat_step _ _ _ _ HLT.out]; exact (by rw [← HX.out HLT.out]; exact (show WS _ _ _ _ _ _ _ from ⟨HW.out.pen, HW.out.box, by have := HW.out.len; omega, HW.out.ne, HW.out.ty, HW.out.lo⟩))⟩⟩
    ·
     have hi0 : i = l0_3.length := by omega
     subst hi0
     have hltb : decide ((l0_3.length : Int) < (l0_3.length : Int)) = false := by simp
     clear hlt hile
     have HW2 := HW.out
     rw [List.take_length] at HW2
     clear HW
     have HW := Aside0.mk HW2
     clear HW2
     have ha0 := blk_cell HW.out.box 0
     have ha1 := blk_cell HW.out.box 1
     have ha2 := blk_cell HW.out.box 2
     have ha3 := blk_cell HW.out.box 3
     have ha4 := blk_cell HW.out.box 4
     have ha5 := blk_cell HW.out.box 5
     go_wp2_with (first | (go_at_call 40; refine (four.calls w _ g _ HW.out.pen (l0_4.length : Int) (by omega) (by have := KL.out; omega) (by have := HW.out.len; have := KL.out; (try have hq_ := HLT.out); omega)).mono ?_; rintro e_ w9 ⟨rfl, hp_, ho_⟩; replace HW := Aside0.mk (HW.out.four hp_ ho_); clear hp_ ho_ ha0 ha1 ha2 ha3 ha4 ha5; have ha0 := blk_cell HW.out.box 0; have ha1 := blk_cell HW.out.box 1; have ha2 := blk_cell HW.out.box 2; have ha3 := blk_cell HW.out.box 3; have ha4 := blk_cell HW.out.box 4; have ha5 := blk_cell HW.out.box 5))
     have HW2 := HW.out
     generalize hP_ : (P2 ++ (l0_3.flatMap fun x => beN (mU x) 8) ++ beN (l0_4.length : Int) 4 : List Int) = P3 at HW2
     clear HW ha0 ha1 ha2 ha3 ha4 ha5
     have HW := Aside0.mk HW2
     have HP3 := Aside0.mk hP_
     clear HW2 hP_
     have HK2 := Aside0.mk (show (65580 + 8 * l0_3.length + 4 : Nat) ≤ 98400 by have := KL.out; omega)
     have HW2 := HW.out
     have HW := Aside0.mk (show WS w _ g gb _ P3 98400 from ⟨HW2.pen, HW2.box, by have := HW2.len; have := HK2.out; omega, HW2.ne, HW2.ty, HW2.lo⟩)
     clear HW2 HK2
     have ha0 := blk_cell HW.out.box 0
     have ha1 := blk_cell HW.out.box 1
     have ha2 := blk_cell HW.out.box 2
     have ha3 := blk_cell HW.out.box 3
     have ha4 := blk_cell HW.out.box 4
     have ha5 := blk_cell HW.out.box 5
     go_loopw [80] (fun u wr => ∃ i : Nat, u = .int .i64 (i : Int) ∧ i ≤ l0_4.length ∧ Aside0 (WS w wr g gb (objCell a0_0 A0_1 l0_1.length c0_1 a0_2 A0_3 l0_3.length c0_3 A0_4 l0_4.length c0_4 A0_5 l0_5.length c0_5) (P3 ++ (l0_4.take i).flatMap symB) (98400 + 36 * i))) (fun u _ => l0_4.length - (intOf u).toNat)
     case atStart => exact ⟨0, rfl, Nat.zero_le _, ⟨by simpa using HW.out⟩⟩
     case round =>
      clear HW
      obtain ⟨i, rfl, hile, HW⟩ := hrel
      by_cases hlt : i < l0_4.length
      ·
       have p0 : (0 : Int) ≤ (i : Int) := by omega
       have q0 : (i : Int) < (l0_4.length : Int) := by omega
       obtain ⟨ad, e0, h0, h1, h2⟩ := at_T75 R4.out.1 (i : Int) p0 q0
       subst e0
       rw [show ((i : Int)).toNat = i by omega] at h0 h1 h2
       replace h0 := pw_cell_below HW.out.pen.low h0
       replace h1 := pw_cell_below HW.out.pen.low h1
       replace h2 := pw_cell_below HW.out.pen.low h2
       have hsy := K.out.hsym i hlt
       rw [sy_getW hlt] at h0 h1 h2 hsy
       obtain ⟨x, hx⟩ : ∃ x, ∀ h : i < l0_4.length, x = l0_4[i] := ⟨l0_4[i], fun _ => rfl⟩
       rw [← hx hlt] at h0 h1 h2 hsy
       have HX := Aside0.mk hx
       have HXW := Aside0.mk hsy
       clear hx hsy
       obtain ⟨xn, xk, xa⟩ := x
       simp only at h0 h1 h2
       have hxw := HXW.out
       simp only at hxw
       clear HXW
       have HXW := Aside0.mk hxw
       have HI := Aside0.mk (show wrap64 xk = xk by rw [wrap64_id (by omega) (by omega)])
       clear hxw
       have HLG := Aside0.mk HW.out.lt
       have hltb : decide ((i : Int) < (l0_4.length : Int)) = true := decide_eq_true q0
       have HLT := Aside0.mk hlt
       have HWR := Aside0.mk (show wrap64 ((i : Int) + 1) = ((i + 1 : Nat) : Int) by rw [wrap64_id (by have := KL.out; omega) (by have := KL.out; omega)]; rfl)
       replace p0 := eq_true p0
       replace q0 := eq_true q0
       clear hlt hile
       have ha0 := blk_cell HW.out.box 0
       have ha1 := blk_cell HW.out.box 1
       have ha2 := blk_cell HW.out.box 2
       have ha3 := blk_cell HW.out.box 3
       have ha4 := blk_cell HW.out.box 4
       have ha5 := blk_cell HW.out.box 5
       go_wp2_with (first | (go_at_call 41; have HWa := Aside0.mk (HW.out.below (below_alloc (Below.refl wr.heap.size wr) (.cells #[.string xn, .int .i8 xk, .int .i64 xa] 75))); have BS := Aside0.mk (MapKept.heap_alloc wr (.cells #[.string xn, .int .i8 xk, .int .i64 xa] 75)).1; refine (text.calls w _ g _ HWa.out.pen xn HWa.out.lo (by have := HW.out.len; have := KL.out; have := HLT.out; have := HXW.out.1; omega)).mono ?_; rintro e_ w9 ⟨rfl, hp_, ho_⟩; replace HW := Aside0.mk (HWa.out.text HXW.out.1 hp_ ho_); replace BS := Aside0.mk (ho_.blk BS.out (by have := HLG.out; omega) (fun cs e_ => (by injection e_ with _ e_ _; exact absurd e_ (by decide)))); have hs0 := blk_cell BS.out 0; have hs1 := blk_cell BS.out 1; have hs2 := blk_cell BS.out 2; clear HWa hp_ ho_ ha0 ha1 ha2 ha3 ha4 ha5; have ha0 := blk_cell HW.out.box 0; have ha1 := blk_cell HW.out.box 1; have ha2 := blk_cell HW.out.box 2; have ha3 := blk_cell HW.out.box 3; have ha4 := blk_cell HW.out.box 4; have ha5 := blk_cell HW.out.box 5) | (go_at_call 40; (try rw [HI.out]); refine (four.calls w _ g _ HW.out.pen xk HXW.out.2.1.1 (by have := HXW.out.2.1; omega) (by have := HW.out.len; have := KL.out; (try have hq_ := HLT.out); omega)).mono ?_; rintro e_ w9 ⟨rfl, hp_, ho_⟩; replace HW := Aside0.mk (HW.out.four hp_ ho_); clear hs0 hs1 hs2; replace BS := Aside0.mk (ho_.blk BS.out (by have := HLG.out; omega) (fun cs e_ => (by injection e_ with _ e_ _; exact absurd e_ (by decide)))); have hs0 := blk_cell BS.out 0; have hs1 := blk_cell BS.out 1; have hs2 := blk_cell BS.out 2; clear hp_ ho_ ha0 ha1 ha2 ha3 ha4 ha5; have ha0 := blk_cell HW.out.box 0; have ha1 := blk_cell HW.out.box 1; have ha2 := blk_cell HW.out.box 2; have ha3 := blk_cell HW.out.box 3; have ha4 := blk_cell HW.out.box 4; have ha5 := blk_cell HW.out.box 5) | (go_at_call 40; refine (four.calls w _ g _ HW.out.pen xa HXW.out.2.2.1 (by have := HXW.out.2.2; omega) (by have := HW.out.len; have := KL.out; (try have hq_ := HLT.out); omega)).mono ?_; rintro e_ w9 ⟨rfl, hp_, ho_⟩; replace HW := Aside0.mk (HW.out.four hp_ ho_); clear hs0 hs1 hs2; replace BS := Aside0.mk (ho_.blk BS.out (by have := HLG.out; omega) (fun cs e_ => (by injection e_ with _ e_ _; exact absurd e_ (by decide)))); have hs0 := blk_cell BS.out 0; have hs1 := blk_cell BS.out 1; have hs2 := blk_cell BS.out 2; clear hp_ ho_ ha0 ha1 ha2 ha3 ha4 ha5; have ha0 := blk_cell HW.out.box 0; have ha1 := blk_cell HW.out.box 1; have ha2 := blk_cell HW.out.box 2; have ha3 := blk_cell HW.out.box 3; have ha4 := blk_cell HW.out.box 4; have ha5 := blk_cell HW.out.box 5))
       go_roundw
       case measure => have hq := HLT.out; (try rw [HWR.out]); simp only [intOf]; omega
       case rel => exact ⟨i + 1, by first | rfl | (rw [HWR.out]; done), by have := HLT.out; omega, ⟨by rw [flat_step _ _ _ _ HLT.out]; exact (by rw [← HX.out HLT.out]; have h_ := HW.out; simp only [symB, ← List.append_assoc]; exact (show WS _ _ _ _ _ _ _ from ⟨h_.pen, h_.box, by have := h_.len; omega, h_.ne, h_.ty, h_.lo⟩))⟩⟩
      ·
       have hi0 : i = l0_4.length := by omega
       subst hi0
       have hltb : decide ((l0_4.length : Int) < (l0_4.length : Int)) = false := by simp
       clear hlt hile
       have HW2 := HW.out
       rw [List.take_length] at HW2
       clear HW
       have HW := Aside0.mk HW2
       clear HW2
       have ha0 := blk_cell HW.out.box 0
       have ha1 := blk_cell HW.out.box 1
       have ha2 := blk_cell HW.out.box 2
       have ha3 := blk_cell HW.out.box 3
       have ha4 := blk_cell HW.out.box 4
       have ha5 := blk_cell HW.out.box 5
       go_wp2_with (first | (go_at_call 40; refine (four.calls w _ g _ HW.out.pen (l0_5.length : Int) (by omega) (by have := KL.out; omega) (by have := HW.out.len; have := KL.out; (try have hq_ := HLT.out); omega)).mono ?_; rintro e_ w9 ⟨rfl, hp_, ho_⟩; replace HW := Aside0.mk (HW.out.four hp_ ho_); clear hp_ ho_ ha0 ha1 ha2 ha3 ha4 ha5; have ha0 := blk_cell HW.out.box 0; have ha1 := blk_cell HW.out.box 1; have ha2 := blk_cell HW.out.box 2; have ha3 := blk_cell HW.out.box 3; have ha4 := blk_cell HW.out.box 4; have ha5 := blk_cell HW.out.box 5))
       have HW2 := HW.out
       generalize hP_ : (P3 ++ (l0_4.flatMap symB) ++ beN (l0_5.length : Int) 4 : List Int) = P4 at HW2
       clear HW ha0 ha1 ha2 ha3 ha4 ha5
       have HW := Aside0.mk HW2
       have HP4 := Aside0.mk hP_
       clear HW2 hP_
       have HK2 := Aside0.mk (show (98400 + 36 * l0_4.length + 4 : Nat) ≤ 107620 by have := KL.out; omega)
       have HW2 := HW.out
       have HW := Aside0.mk (show WS w _ g gb _ P4 107620 from ⟨HW2.pen, HW2.box, by have := HW2.len; have := HK2.out; omega, HW2.ne, HW2.ty, HW2.lo⟩)
       clear HW2 HK2
       have ha0 := blk_cell HW.out.box 0
       have ha1 := blk_cell HW.out.box 1
       have ha2 := blk_cell HW.out.box 2
       have ha3 := blk_cell HW.out.box 3
       have ha4 := blk_cell HW.out.box 4
       have ha5 := blk_cell HW.out.box 5
       go_loopw [106] (fun u wr => ∃ i : Nat, u = .int .i64 (i : Int) ∧ i ≤ l0_5.length ∧ Aside0 (WS w wr g gb (objCell a0_0 A0_1 l0_1.length c0_1 a0_2 A0_3 l0_3.length c0_3 A0_4 l0_4.length c0_4 A0_5 l0_5.length c0_5) (P4 ++ (l0_5.take i).flatMap relB) (107620 + 8 * i))) (fun u _ => l0_5.length - (intOf u).toNat)
       case atStart => exact ⟨0, rfl, Nat.zero_le _, ⟨by simpa using HW.out⟩⟩
       case round =>
        clear HW
        obtain ⟨i, rfl, hile, HW⟩ := hrel
        by_cases hlt : i < l0_5.length
        ·
         have p0 : (0 : Int) ≤ (i : Int) := by omega
         have q0 : (i : Int) < (l0_5.length : Int) := by omega
         obtain ⟨ad, e0, h0, h1⟩ := at_T68 R5.out.1 (i : Int) p0 q0
         subst e0
         rw [show ((i : Int)).toNat = i by omega] at h0 h1
         replace h0 := pw_cell_below HW.out.pen.low h0
         replace h1 := pw_cell_below HW.out.pen.low h1
         have hsy := K.out.hrel i hlt
         rw [rl_getW hlt] at h0 h1 hsy
         obtain ⟨x, hx⟩ : ∃ x, ∀ h : i < l0_5.length, x = l0_5[i] := ⟨l0_5[i], fun _ => rfl⟩
         rw [← hx hlt] at h0 h1 hsy
         have HX := Aside0.mk hx
         obtain ⟨xo, xs⟩ := x
         simp only at h0 h1 hsy
         have HXW := Aside0.mk hsy
         clear hsy hx
         have HLG := Aside0.mk HW.out.lt
         have hltb : decide ((i : Int) < (l0_5.length : Int)) = true := decide_eq_true q0
         have HLT := Aside0.mk hlt
         have HWR := Aside0.mk (show wrap64 ((i : Int) + 1) = ((i + 1 : Nat) : Int) by rw [wrap64_id (by have := KL.out; omega) (by have := KL.out; omega)]; rfl)
         replace p0 := eq_true p0
         replace q0 := eq_true q0
         clear hlt hile
         have ha0 := blk_cell HW.out.box 0
         have ha1 := blk_cell HW.out.box 1
         have ha2 := blk_cell HW.out.box 2
         have ha3 := blk_cell HW.out.box 3
         have ha4 := blk_cell HW.out.box 4
         have ha5 := blk_cell HW.out.box 5
         go_wp2_with (first | (go_at_call 40; have HWa := Aside0.mk (HW.out.below (below_alloc (Below.refl wr.heap.size wr) (.cells #[.int .i64 xo, .int .i64 xs] 68))); have BS := Aside0.mk (MapKept.heap_alloc wr (.cells #[.int .i64 xo, .int .i64 xs] 68)).1; refine (four.calls w _ g _ HWa.out.pen xo HXW.out.1.1 (by have := HXW.out.1; omega) (by have := HW.out.len; have := KL.out; have := HLT.out; omega)).mono ?_; rintro e_ w9 ⟨rfl, hp_, ho_⟩; replace HW := Aside0.mk (HWa.out.four hp_ ho_); replace BS := Aside0.mk (ho_.blk BS.out (by have := HLG.out; omega) (fun cs e_ => (by injection e_ with _ e_ _; exact absurd e_ (by decide)))); have hs0 := blk_cell BS.out 0; have hs1 := blk_cell BS.out 1; clear HWa hp_ ho_ ha0 ha1 ha2 ha3 ha4 ha5; have ha0 := blk_cell HW.out.box 0; have ha1 := blk_cell HW.out.box 1; have ha2 := blk_cell HW.out.box 2; have ha3 := blk_cell HW.out.box 3; have ha4 := blk_cell HW.out.box 4; have ha5 := blk_cell HW.out.box 5) | (go_at_call 40; refine (four.calls w _ g _ HW.out.pen xs HXW.out.2.1 (by have := HXW.out.2; omega) (by have := HW.out.len; have := KL.out; (try have hq_ := HLT.out); omega)).mono ?_; rintro e_ w9 ⟨rfl, hp_, ho_⟩; replace HW := Aside0.mk (HW.out.four hp_ ho_); clear hs0 hs1; replace BS := Aside0.mk (ho_.blk BS.out (by have := HLG.out; omega) (fun cs e_ => (by injection e_ with _ e_ _; exact absurd e_ (by decide)))); have hs0 := blk_cell BS.out 0; have hs1 := blk_cell BS.out 1; clear hp_ ho_ ha0 ha1 ha2 ha3 ha4 ha5; have ha0 := blk_cell HW.out.box 0; have ha1 := blk_cell HW.out.box 1; have ha2 := blk_cell HW.out.box 2; have ha3 := blk_cell HW.out.box 3; have ha4 := blk_cell HW.out.box 4; have ha5 := blk_cell HW.out.box 5))
         go_roundw
         case measure => have hq := HLT.out; (try rw [HWR.out]); simp only [intOf]; omega
         case rel => exact ⟨i + 1, by first | rfl | (rw [HWR.out]; done), by have := HLT.out; omega, ⟨by rw [flat_step _ _ _ _ HLT.out]; exact (by rw [← HX.out HLT.out]; have h_ := HW.out; simp only [relB, ← List.append_assoc]; exact (show WS _ _ _ _ _ _ _ from ⟨h_.pen, h_.box, by have := h_.len; omega, h_.ne, h_.ty, h_.lo⟩))⟩⟩
        ·
         have hi0 : i = l0_5.length := by omega
         subst hi0
         have hltb : decide ((l0_5.length : Int) < (l0_5.length : Int)) = false := by simp
         clear hlt hile
         have HW2 := HW.out
         rw [List.take_length] at HW2
         clear HW
         have HW := Aside0.mk HW2
         clear HW2
         have ha0 := blk_cell HW.out.box 0
         have ha1 := blk_cell HW.out.box 1
         have ha2 := blk_cell HW.out.box 2
         have ha3 := blk_cell HW.out.box 3
         have ha4 := blk_cell HW.out.box 4
         have ha5 := blk_cell HW.out.box 5
         have HW2 := HW.out
         generalize hP_ : (P4 ++ l0_5.flatMap relB : List Int) = P5 at HW2
         clear HW ha0 ha1 ha2 ha3 ha4 ha5
         have HW := Aside0.mk HW2
         have HP5 := Aside0.mk hP_
         clear HW2 hP_
         have HP := Aside0.mk (show headB a0_0 l0_1 a0_2 l0_3 l0_4 l0_5 = P5 by rw [← HP5.out, ← HP4.out, ← HP3.out, ← HP2.out, ← HP1.out]; unfold headB; simp only [List.append_assoc])
         obtain ⟨⟨v, hv⟩, hbx, hln, hne, hty, hlo⟩ := HW.out
         have HV := Aside0.mk hv
         have HLO := Aside0.mk (show 4 < P5.length by rw [← HP.out]; exact headB_long _ _ _ _ _ _)
         have HRW := Aside0.mk (HV.out.own.R HLO.out)
         have HLN := Aside0.mk (show P5.length ≤ 238692 by have := KL.out; omega)
         obtain ⟨Ao, co, eo⟩ := Kd.R_slice HRW.out
         have HEO := Aside0.mk eo
         clear hv hbx hln hne hty hlo HW
         have hc0 : _ = some (Value.slice Ao P5.length co) := ((blk_cell HV.out.blk 0).trans rfl).trans (by rw [HEO.out]; rfl)
         have HSR := Aside0.mk (sumN_range P5)
         have HSRD : Aside0 (Kd.C (Kd.int .u8) _ Ao P5.length P5) := ⟨by have h := HRW.out; rw [HEO.out] at h; exact (Kd.R_reads' h).2.2⟩
         go_wp2_with (first | (go_at_call 39; refine (sum.calls Ao co P5 _ HSRD.out (by have := HLN.out; omega)).mono ?_; rintro e_ w9 ⟨rfl, hb_⟩; have HV9 := Aside0.mk (HV.out.below hb_); clear hb_) | (go_at_call 40; (try rw [wrap64_id (x := sumN P5) (by have := HSR.out; omega) (by have := HSR.out; omega)]); refine (four.calls w _ g _ ⟨v, HV9.out⟩ (sumN P5) HSR.out.1 (by have := HSR.out; omega) (by have := HLN.out; omega)).mono ?_; rintro e_ w9 ⟨rfl, ⟨v9, hv9⟩, ho_⟩; have HZ := Aside0.mk hv9; have HZR := Aside0.mk (hv9.own.R (by rw [List.length_append]; have := HLO.out; omega)); have hz0 := (blk_cell hv9.blk 0).trans rfl; clear hc0 hv9 ho_))
         try go_ret2
         refine ⟨_, rfl, ?_, HZ.out.low⟩
         unfold writeB
         rw [HP.out]
         exact HZR.out
end Go.Proofs.YtiaohbbafaaibabDoor.P

/- OWN TEXT: the plain reader: what wire.Read answers, over lists. -/
namespace Go.Proofs.YtiaohbbafaaibabDoor.P
open Go.RowKit Go.Maps Go.Proofs.YtiaohbbafaaibabDoorW.PrintWords Go.Proofs.YtiaohbbafaaibabDoorW.PrintLast Go.Proofs.YtiaohbbafaaibabDoorW.PrintMore Go.Proofs.YtiaohbbafaaibabDoor.Arr Go.Proofs.YtiaohbbafaaibabDoor.MapB
set_option linter.unusedVariables false
set_option linter.unusedSimpArgs false
def mag : List Int := [80, 76, 79, 49]
def magicE (l : List Int) : Nat → Option Int
  | 0 => none
  | i + 1 => match magicE l i with
    | some q => some q
    | none => if (i : Int) ≥ (l.length : Int) ∨ rd l (i : Int) ≠ rd mag (i : Int) then some (i : Int) else none
def f1 (l : List Int) (a : RO) : RO := { a with code := a.code ++ [(numR l 4 a.rs).1], rs := (numR l 4 a.rs).2 }
def f2 (l : List Int) (a : RO) : RO := { a with data := a.data ++ [wrap64 (numR l 8 a.rs).1], rs := (numR l 8 a.rs).2 }
def f3 (l : List Int) (a : RO) : RO := { a with syms := a.syms ++ [⟨(textR l a.rs).1, (countR l 3 (textR l a.rs).2).1, (countR l 2147483647 (countR l 3 (textR l a.rs).2).2).1⟩], rs := (countR l 2147483647 (countR l 3 (textR l a.rs).2).2).2 }
def f4 (l : List Int) (a : RO) : RO := { a with rels := a.rels ++ [⟨(countR l 2147483647 a.rs).1, (countR l 2147483647 (countR l 2147483647 a.rs).2).1⟩], rs := (countR l 2147483647 (countR l 2147483647 a.rs).2).2 }
def cntR (l : List Int) (lim : Int) (a : RO) : RO := { a with rs := (countR l lim a.rs).2 }
def ra0 (l : List Int) : RO := ⟨(textR l ⟨4, magicE l 4⟩).1, [], 0, [], [], [], (textR l ⟨4, magicE l 4⟩).2⟩
def ra1 (l : List Int) : RO := eachR (f1 l) RO.rs (countR l 16384 (ra0 l).rs).1.toNat (cntR l 16384 (ra0 l))
def ra2 (l : List Int) : RO := { cntR l 2147483647 (ra1 l) with dat := (countR l 2147483647 (ra1 l).rs).1 }
def ra3 (l : List Int) : RO := eachR (f2 l) RO.rs (countR l 4096 (ra2 l).rs).1.toNat (cntR l 4096 (ra2 l))
def ra4 (l : List Int) : RO := eachR (f3 l) RO.rs (countR l 256 (ra3 l).rs).1.toNat (cntR l 256 (ra3 l))
def ra5 (l : List Int) : RO := eachR (f4 l) RO.rs (countR l ((ra4 l).code.length : Int) (ra4 l).rs).1.toNat (cntR l ((ra4 l).code.length : Int) (ra4 l))
def a6 (l : List Int) : RO := { ra5 l with rs := (numR l 4 (ra5 l).rs).2 }
def endS (l : List Int) : RS := match (a6 l).rs.er with
 | some _ => (a6 l).rs
 | none => if (a6 l).rs.at_ < (l.length : Int) then failsR (a6 l).rs.at_ (a6 l).rs else (a6 l).rs
def chkR (l : List Int) : Int × Int := if (chkO (ra5 l).nm (ra5 l).code (ra5 l).dat (ra5 l).data (ra5 l).syms (ra5 l).rels).1 = 0 then (0, 0) else chkO (ra5 l).nm (ra5 l).code (ra5 l).dat (ra5 l).data (ra5 l).syms (ra5 l).rels
def readC (l : List Int) : Int × Int := match (endS l).er with
 | some x => (27, x)
 | none => if (numR l 4 (ra5 l).rs).1 = sumN (l.take (ra5 l).rs.at_.toNat) then chkR l else (28, (ra5 l).rs.at_)
theorem numR_none {l : List Int} {n : Nat} {s : RS} (h : (numR l n s).2.er = none) : s.er = none ∧ s.at_ + n ≤ (l.length : Int) ∧ (numR l n s).2.at_ = s.at_ + n := by
 unfold numR at h ⊢
 cases hs : s.er with
 | some q => rw [hs] at h; simp only [] at h; rw [hs] at h; cases h
 | none =>
  rw [hs] at h
  simp only [] at h ⊢
  by_cases hlt : (l.length : Int) - s.at_ < n
  ·
   rw [if_pos hlt] at h; cases h
  ·
   rw [if_neg hlt]
   exact ⟨trivial, by omega, rfl⟩
theorem eachR_keep {β : Type} (h : RO → β) (f : RO → RO) (hf : ∀ a, h (f a) = h a) (rs : RO → RS) : ∀ (n : Nat) (a : RO), h (eachR f rs n a) = h a
  | 0, _ => rfl
  | n + 1, a => by
    show h (if (rs a).er.isNone = true then eachR f rs n (f a) else a) = h a
    by_cases hb : (rs a).er.isNone = true
    · rw [if_pos hb, eachR_keep h f hf rs n, hf]
    · rw [if_neg hb]
theorem eachR_len (h : RO → Nat) (f : RO → RO) (hf : ∀ a, h (f a) = h a + 1) (rs : RO → RS) : ∀ (n : Nat) (a : RO), h (eachR f rs n a) ≤ h a + n
  | 0, _ => Nat.le_refl _
  | n + 1, a => by
    show h (if (rs a).er.isNone = true then eachR f rs n (f a) else a) ≤ _
    by_cases hb : (rs a).er.isNone = true
    · rw [if_pos hb]
      have := eachR_len h f hf rs n (f a)
      rw [hf] at this
      omega
    · rw [if_neg hb]
      omega
theorem ra2_data (l : List Int) : (ra2 l).data = [] := by
 show (ra1 l).data = []
 unfold ra1
 rw [eachR_keep RO.data (f1 l) (fun _ => rfl)]
 rfl
theorem ra3_syms (l : List Int) : (ra3 l).syms = [] := by
 unfold ra3
 rw [eachR_keep RO.syms (f2 l) (fun _ => rfl)]
 show (ra1 l).syms = []
 unfold ra1
 rw [eachR_keep RO.syms (f1 l) (fun _ => rfl)]
 rfl
theorem ra4_rels (l : List Int) : (ra4 l).rels = [] := by
 unfold ra4
 rw [eachR_keep RO.rels (f3 l) (fun _ => rfl)]
 show (ra3 l).rels = []
 unfold ra3
 rw [eachR_keep RO.rels (f2 l) (fun _ => rfl)]
 show (ra1 l).rels = []
 unfold ra1
 rw [eachR_keep RO.rels (f1 l) (fun _ => rfl)]
 rfl
theorem ra4_code (l : List Int) (hby : ∀ x ∈ l, 0 ≤ x ∧ x < 256) : (ra4 l).code.length ≤ 16384 := by
 unfold ra4
 rw [eachR_keep RO.code (f3 l) (fun _ => rfl)]
 show (ra3 l).code.length ≤ _
 unfold ra3
 rw [eachR_keep RO.code (f2 l) (fun _ => rfl)]
 show (ra1 l).code.length ≤ _
 have h1 := eachR_len (fun a => a.code.length) (f1 l) (fun a => by show (a.code ++ [_]).length = _; rw [List.length_append]; rfl) RO.rs (countR l 16384 (ra0 l).rs).1.toNat (cntR l 16384 (ra0 l))
 have h2 := countR_range l 16384 (ra0 l).rs hby (by decide)
 have h3 : (cntR l 16384 (ra0 l)).code.length = 0 := rfl
 show (eachR (f1 l) RO.rs (countR l 16384 (ra0 l).rs).1.toNat (cntR l 16384 (ra0 l))).code.length ≤ _
 omega
theorem eachR_all (P : RO → Prop) (f : RO → RO) (hf : ∀ a, P a → P (f a)) (rs : RO → RS) : ∀ (n : Nat) (a : RO), P a → P (eachR f rs n a)
  | 0, _, h => h
  | n + 1, a, h => by
    show P (if (rs a).er.isNone = true then eachR f rs n (f a) else a)
    by_cases hb : (rs a).er.isNone = true
    · rw [if_pos hb]; exact eachR_all P f hf rs n _ (hf a h)
    · rw [if_neg hb]; exact h
theorem ra5_words (l : List Int) (hby : ∀ x ∈ l, 0 ≤ x ∧ x < 256) : wordsO (ra5 l).code = true := by
 unfold ra5
 rw [eachR_keep RO.code (f4 l) (fun _ => rfl)]
 show wordsO (ra4 l).code = true
 unfold ra4
 rw [eachR_keep RO.code (f3 l) (fun _ => rfl)]
 show wordsO (ra3 l).code = true
 unfold ra3
 rw [eachR_keep RO.code (f2 l) (fun _ => rfl)]
 show wordsO (ra1 l).code = true
 unfold ra1
 refine eachR_all (fun a => wordsO a.code = true) (f1 l) (fun a h => ?_) RO.rs _ _ rfl
 show wordsO (a.code ++ [(numR l 4 a.rs).1]) = true
 have h1 := numR_range l 4 a.rs hby
 have h256 : (256 : Int) ^ 4 = 4294967296 := by decide
 rw [h256] at h1
 unfold wordsO at h ⊢
 rw [List.all_append, h, Bool.true_and, List.all_cons, List.all_nil, Bool.and_true, Bool.and_eq_true, decide_eq_true_eq, decide_eq_true_eq]
 omega
end Go.Proofs.YtiaohbbafaaibabDoor.P
