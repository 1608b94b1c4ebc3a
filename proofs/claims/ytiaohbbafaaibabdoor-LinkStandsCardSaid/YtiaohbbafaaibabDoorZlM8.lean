/- OWN TEXT and printed parts of this claim, laid together: HLnk. -/
import Derived.Test.YtiaohbbafaaibabDoorZlM1
import Derived.Test.YtiaohbbafaaibabDoorZlM3
import Derived.Test.YtiaohbbafaaibabDoorZlM4
import Derived.Test.YtiaohbbafaaibabDoorZlM5
import Derived.Test.YtiaohbbafaaibabDoorZlM7
import Derived.Test.YtiaohbbafaaibabDoorZlM2
import Derived.Great.BuildSlice
/- OWN TEXT: link.Link, walked. -/
namespace Go.Proofs.YtiaohbbafaaibabDoor.P
open Go.RowKit Go.Shelf Go.Maps Go.Proofs.YtiaohbbafaaibabDoorW.PrintWords Go.Proofs.YtiaohbbafaaibabDoorW.PrintLast Go.Proofs.YtiaohbbafaaibabDoorW.PrintMore Go.Proofs.YtiaohbbafaaibabDoor.Arr Go.Proofs.YtiaohbbafaaibabDoor.MapB Go.Proofs.YtiaohbbafaaibabDoor.SymM
set_option linter.unusedVariables false
set_option linter.unusedSimpArgs false
attribute [local go_sem] Oper.semAt_some
theorem wide_fn (f : FuncId) : Fence.wide.fn f = True := rfl
attribute [local go_sem] wide_fn
theorem results_link {tmps : Array Value} {w : World} {g6 g7 g8 g9 : Nat} {a b c v1 v2 v3 : Value} (h6 : tmps.getD 6 undef = .pointer (some ⟨g6, 0, none⟩)) (h7 : tmps.getD 7 undef = .pointer (some ⟨g7, 0, none⟩)) (h8 : tmps.getD 8 undef = .pointer (some ⟨g8, 0, none⟩)) (h9 : tmps.getD 9 undef = .pointer (some ⟨g9, 0, none⟩))
  (b6 : w.heap[g6]? = some (.cells #[a, b, c] 46 (0, 0))) (c7 : w.cell? ⟨g7, 0, none⟩ = some v1) (c8 : w.cell? ⟨g8, 0, none⟩ = some v2) (c9 : w.cell? ⟨g9, 0, none⟩ = some v3) :
  (results Tryd.f16 tmps).run Tryd.prog w = .ok (.tuple #[.agg #[a, b, c], v1, v2, v3]) w := by
 have h : Tryd.f16.results = #[.cell 6 46, .cell 7 31, .cell 8 3, .cell 9 3] := by kernel_rfl
 have h6' : tmps[6]?.getD undef = .pointer (some ⟨g6, 0, none⟩) := by simpa using h6
 have h7' : tmps[7]?.getD undef = .pointer (some ⟨g7, 0, none⟩) := by simpa using h7
 have h8' : tmps[8]?.getD undef = .pointer (some ⟨g8, 0, none⟩) := by simpa using h8
 have h9' : tmps[9]?.getD undef = .pointer (some ⟨g9, 0, none⟩) := by simpa using h9
 simp [results, h, h6', h7', h8', h9', asAddr, run_loadVar_row w g6 46 46 #[a, b, c] (0, 0) _ b6 Tryd.underlying46 rfl (by kernel_rfl), run_loadVar_one w g7 31 v1 _ c7 Tryd.underlying31 rfl, run_loadVar_one w g8 3 v2 _ c8 Tryd.underlying3 rfl, run_loadVar_one w g9 3 v3 _ c9 Tryd.underlying3 rfl, Sem.run_bind, Result.andThen]

theorem img_one (A : Option Addr) (n c : Nat) (en : Int) (A2 : Option Addr) (n2 c2 : Nat) : ((#[.slice A n c, .int .i64 en, .slice A2 n2 c2] : Array Value).all fun v => v.oneCell') = true := by kernel_rfl
theorem wpList_store_cell {P : Program} {ops : Array Oper} {rest : List Oper} {o : Oper} {a : Act} {W : World} {Q : Exit → Act → World → Prop} (hgd : o.guard = none) (hN : o.dst = none) {t : TypeId} {p v : Operand} (ho : o.op = .store t p v) (g : Nat) (old x : Value) (e : TypeId) (hp : a.eval p = .pointer (some ⟨g, 0, none⟩)) (hv : a.eval v = x)
  (hb : W.heap[g]? = some (.cells #[old] e (0, 0))) (hi : (P.info? t).map (·.size) = some 1) (h1 : x.oneCell' = true) (h : ∀ w1, Put W w1 g #[x] e → wpList P ops Q rest a w1) : wpList P ops Q (o :: rest) a W :=
 Go.wpList_store_oneTo hgd t p v ho hN g x hp hv h1 e old hb hi (h _ (put_row hb))
theorem step_whole {P : Program} {ops : Array Oper} {oi : Oper} {a : Act} {W : World} {K : Act → World → Prop} {Q : Exit → Act → World → Prop} (hw : Region.wanted oi (yielded ops a.tmps) = true) (hN : oi.dst = none) {t : TypeId} {p v : Operand} (ho : oi.op = .store t p v) (g : Nat) (old cs : Array Value) (e : TypeId) (hp : a.eval p = .pointer (some ⟨g, 0, none⟩)) (hv : a.eval v = .agg cs)
  (hb : W.heap[g]? = some (.cells old e (0, 0))) (hi : (P.info? t).map (·.size) = some cs.size) (hsz : old.size = cs.size) (h1 : cs.all (·.oneCell') = true) (h : ∀ w1, Put W w1 g cs e → K a w1) :
  if Region.wanted oi (yielded ops a.tmps) = true then Oper.wp P oi a W K Q else K (a.put none undef) W := by
 have hrun : (execOp a.eval oi).run P W = .ok .skip (W.setRow g cs) := by
  unfold execOp
  have := run_storeVar_row (P := P) W g e t old cs hb hi hsz h1
  simp only [ho, hp, hv, Instr.storeAt, Instr.sureAddr, Sem.run_bind, Sem.run_pure, this, Result.andThen_ok]
 exact skip_ hw hN hrun (h _ (put_row hb))
abbrev zImg : Array Value := #[.slice none 0 0, .int .i64 0, .slice none 0 0]
structure LB (w W : World) (e i n : Int) : Prop where
  low : Below w.heap.size w W
  b6 : W.heap[w.heap.size]? = some (.cells zImg 46 (0, 0))
  b7 : Boxed W (w.heap.size + 1) 31 (.int .i64 e)
  b8 : Boxed W (w.heap.size + 1 + 1) 3 (.int .i64 i)
  b9 : Boxed W (w.heap.size + 1 + 1 + 1) 3 (.int .i64 n)
section
variable {w W W1 : World} {e i n : Int}
theorem LB.below (h : LB w W e i n) (hb : Below W.heap.size W W1) : LB w W1 e i n := ⟨below_then h.low h.low.size hb, blk_below h.b6 hb, blk_below h.b7 hb, blk_below h.b8 hb, blk_below h.b9 hb⟩
theorem LB.lt (h : LB w W e i n) : w.heap.size + 4 ≤ W.heap.size := by have := blk_lt h.b9; omega
theorem LB.set7 (h : LB w W e i n) (x : Int) : LB w (W.setCell ⟨w.heap.size + 1, 0, none⟩ (.int .i64 x)) x i n :=
 ⟨h.low.setCell (p := ⟨w.heap.size + 1, 0, none⟩) (Nat.le_succ _) _, (Below.heap_setCell _ _ _ _ (by show w.heap.size ≠ w.heap.size + 1; omega)).trans h.b6, h.b7.set _, h.b8.other (by omega) _, h.b9.other (by omega) _⟩
theorem LB.set8 (h : LB w W e i n) (x : Int) : LB w (W.setCell ⟨w.heap.size + 1 + 1, 0, none⟩ (.int .i64 x)) e x n :=
 ⟨h.low.setCell (p := ⟨w.heap.size + 1 + 1, 0, none⟩) (by show w.heap.size ≤ w.heap.size + 1 + 1; omega) _, (Below.heap_setCell _ _ _ _ (by show w.heap.size ≠ w.heap.size + 1 + 1; omega)).trans h.b6, h.b7.other (by omega) _, h.b8.set _, h.b9.other (by omega) _⟩
theorem LB.set9 (h : LB w W e i n) (x : Int) : LB w (W.setCell ⟨w.heap.size + 1 + 1 + 1, 0, none⟩ (.int .i64 x)) e i x :=
 ⟨h.low.setCell (p := ⟨w.heap.size + 1 + 1 + 1, 0, none⟩) (by show w.heap.size ≤ w.heap.size + 1 + 1 + 1; omega) _, (Below.heap_setCell _ _ _ _ (by show w.heap.size ≠ w.heap.size + 1 + 1 + 1; omega)).trans h.b6, h.b7.other (by omega) _, h.b8.other (by omega) _, h.b9.set _⟩
theorem LB.put {g : Nat} {cs : Array Value} {t : TypeId} (h : LB w W e i n) (hp : Put W W1 g cs t) (hg : w.heap.size + 4 ≤ g) : LB w W1 e i n :=
 have k := put_grownN hp; ⟨hp.below h.low (by omega), blk_grown h.b6 k (fun z => by have := Option.some.inj z; omega), blk_grown h.b7 k (fun z => by have := Option.some.inj z; omega), blk_grown h.b8 k (fun z => by have := Option.some.inj z; omega), blk_grown h.b9 k (fun z => by have := Option.some.inj z; omega)⟩
theorem LB.grown {r : Option Nat} (h : LB w W e i n) (k : W.grownBy W1 r) (hr : ∀ g, r = some g → w.heap.size + 4 ≤ g) : LB w W1 e i n :=
 ⟨pw_below_grown h.low r h.low.size k (fun g z => by have := hr g z; omega), blk_grown h.b6 k (fun z => by have := hr _ z.symm; omega), blk_grown h.b7 k (fun z => by have := hr _ z.symm; omega), blk_grown h.b8 k (fun z => by have := hr _ z.symm; omega), blk_grown h.b9 k (fun z => by have := hr _ z.symm; omega)⟩
theorem LB.same (h : LB w W e i n) (hp : Put W W1 w.heap.size zImg 46) : LB w W1 e i n :=
 have k := put_grownN hp; ⟨hp.below h.low (Nat.le_refl _), hp.blk, blk_grown h.b7 k (fun z => by have := Option.some.inj z; omega), blk_grown h.b8 k (fun z => by have := Option.some.inj z; omega), blk_grown h.b9 k (fun z => by have := Option.some.inj z; omega)⟩
end
theorem LB.start (w : World) : LB w ((((w.alloc (.cells zImg 46)).alloc (.cells #[.int .i64 0] 31)).alloc (.cells #[.int .i64 0] 3)).alloc (.cells #[.int .i64 0] 3)) 0 0 0 := by
 have a7 := Boxed.new (w.alloc (.cells zImg 46)) 31 (.int .i64 0)
 have a8 := Boxed.new ((w.alloc (.cells zImg 46)).alloc (.cells #[.int .i64 0] 31)) 3 (.int .i64 0)
 have a9 := Boxed.new (((w.alloc (.cells zImg 46)).alloc (.cells #[.int .i64 0] 31)).alloc (.cells #[.int .i64 0] 3)) 3 (.int .i64 0)
 simp only [World.size_alloc] at a7 a8 a9
 refine ⟨((((Below.refl _ w).alloc (Nat.le_refl _) _).alloc (by simp) _).alloc (by simp; omega) _).alloc (by simp; omega) _, ?_, (a7.alloc _).alloc _, a8.alloc _, a9⟩
 refine (Below.heap_alloc _ _ _ (by simp; omega)).trans ((Below.heap_alloc _ _ _ (by simp; omega)).trans ((Below.heap_alloc _ _ _ (by simp)).trans ?_))
 exact World.alloc_heap_new w _
theorem zImg_one : (zImg.all fun v => v.oneCell') = true := by kernel_rfl
def LinkR (l : List ObjT) (d : List (List DefT)) (entry : ByteArray) (mem r2 r3 r4 : Int) (w : World) (e : Ending) (w' : World) : Prop :=
 ∃ vT vM i n, e = .returned (.tuple #[.agg #[vT, .int .i64 (entL l entry mem r2), vM], .int .i64 (errL l entry mem r2), .int .i64 i, .int .i64 n]) ∧ Kd.R (Kd.int .u32) 63 w' w.heap.size (fun _ => True) vT (txtL l d entry mem r2) ∧ Kd.R (Kd.int .i64) 2 w' w.heap.size (fun _ => True) vM (memL l entry mem r2) ∧ Below w.heap.size w w' ∧ (0 ≤ mem → mem ≤ 4096 → r2 ≠ 0 → i = r3 ∧ n = r4)
theorem LinkR.err {l : List ObjT} {d : List (List DefT)} {entry : ByteArray} {mem r2 r3 r4 : Int} {w W : World} {e i n : Int} (h : LB w W e i n) (he : errL l entry mem r2 = e) (h0 : e ≠ 0) (hin : 0 ≤ mem → mem ≤ 4096 → r2 ≠ 0 → i = r3 ∧ n = r4) : LinkR l d entry mem r2 r3 r4 w (.returned (.tuple #[.agg zImg, .int .i64 e, .int .i64 i, .int .i64 n])) W := by
 refine ⟨.slice none 0 0, .slice none 0 0, i, n, ?_, ?_, ?_, h.low, hin⟩
 ·
  unfold entL
  rw [he, if_pos h0]
 ·
  unfold txtL
  rw [he, if_pos h0]
  exact Kd.R_nil _ _ _ _ _
 ·
  unfold memL
  rw [he, if_pos h0]
  exact Kd.R_nil _ _ _ _ _
def S21 (N gb n cv : Nat) (f0 f1 bb : Int) (W : World) : Prop := W.cell? ⟨N + 1 + 1, 0, none⟩ = some (.slice (some ⟨gb, 0, none⟩) n cv) ∧ W.cell? ⟨N, 0, none⟩ = some (.int .i64 f0) ∧ W.cell? ⟨N, 1, none⟩ = some (.int .i64 f1) ∧ W.cell? ⟨gb, f0.toNat, none⟩ = some (.int .i64 bb)
theorem cell_al {W : World} {a : Addr} {v : Value} (h : W.cell? a = some v) (o : Obj) : (W.alloc o).cell? a = some v := (World.cell?_alloc_lt _ _ _ (World.block_lt_of_cell? _ _ h)).trans h
theorem S21.alloc {N gb n cv : Nat} {f0 f1 bb : Int} {W : World} (h : S21 N gb n cv f0 f1 bb W) (o : Obj) : S21 N gb n cv f0 f1 bb (W.alloc o) := ⟨cell_al h.1 o, cell_al h.2.1 o, cell_al h.2.2.1 o, cell_al h.2.2.2 o⟩
def onlyN (J : Act → World → Prop) : Exit → Act → World → Prop
 | .normal, a, w => J a w
 | _, _, _ => False
def calmQ (Q : Exit → Act → World → Prop) : Exit → Act → World → Prop
 | .panic _, _, _ => False
 | .outgrown, _, _ => False
 | e, a, w => Q e a w
theorem calmQ_of {Q : Exit → Act → World → Prop} : ∀ (e : Exit) (a : Act) (w : World), calmQ Q e a w → Q e a w
 | .normal, _, _, h => h
 | .exit _, _, _, h => h
 | .goto _, _, _, h => h
 | .ret, _, _, h => h
 | .panic _, _, _, h => h.elim
 | .outgrown, _, _, h => h.elim
theorem row_ge {W : World} {base e s n : Nat} {v : Value} {xs : List Value} (h : W.ownsRow base e s v n xs) : ∀ g, v.ownBlock = some g → base ≤ g := fun g z => by
 rcases h.2 with ⟨rfl, rfl⟩ | ⟨g', cap, cur, rfl, hb, _⟩
 ·
  cases z
 ·
  obtain rfl : g' = g := by simpa [Value.ownBlock] using z
  exact hb
theorem blk_kept_ {W w1 : World} {k : Nat} {o tmp : Obj} {r : Option Nat} (h : W.heap[k]? = some o) (B1 B2 : Nat) (x1 x2 : Value) (hg : (W.alloc tmp).grownBy w1 r) (hr : some k ≠ r) (h1 : k ≠ B1) (h2 : k ≠ B2) : ((w1.setCell ⟨B2, 0, none⟩ x2).setCell ⟨B1, 0, none⟩ x1).heap[k]? = some o := by
 have hl := (Array.getElem?_eq_some_iff.1 h).1
 refine (Below.heap_setCell _ _ _ _ h1).trans ((Below.heap_setCell _ _ _ _ h2).trans ((hg.block k (by rw [World.size_alloc]; omega) hr).trans ?_))
 exact (Below.heap_alloc W _ k hl).trans h
theorem LB.own {B : Nat} {w : World} (hB : w.heap.size + 4 ≤ B) {e : Int} {W W1 : World} {i n : Int} {row : Option Nat} (h : LB w W e i n) (hg : W.grownBy W1 row) (hr : ∀ r, row = some r → B ≤ r ∧ ∃ o : Obj, W.heap[r]? = some o ∧ o.isCells = false) : LB w W1 e i n :=
 h.grown hg (fun g z => by have := (hr g z).1; omega)
theorem leaf_err {l : List ObjT} {d : List (List DefT)} {entry : ByteArray} {mem r2 r3 r4 : Int} {w W : World} {e i n : Int} {tmps : Array Value} (h6 : tmps.getD 6 undef = .pointer (some ⟨w.heap.size, 0, none⟩)) (h7 : tmps.getD 7 undef = .pointer (some ⟨w.heap.size + 1, 0, none⟩)) (h8 : tmps.getD 8 undef = .pointer (some ⟨w.heap.size + 1 + 1, 0, none⟩)) (h9 : tmps.getD 9 undef = .pointer (some ⟨w.heap.size + 1 + 1 + 1, 0, none⟩))
  (h : LB w W e i n) (he : errL l entry mem r2 = e) (h0 : e ≠ 0) (hin : 0 ≤ mem → mem ≤ 4096 → r2 ≠ 0 → i = r3 ∧ n = r4) : calmQ (bodyPostM Fence.wide 6 Tryd.prog Tryd.f16 (LinkR l d entry mem r2 r3 r4 w)) .ret { tmps := tmps, defers := [] } W :=
 ⟨_, results_link h6 h7 h8 h9 h.b6 h.b7.cell h.b8.cell h.b9.cell, LinkR.err h he h0 hin⟩
theorem leaf_err2 {l : List ObjT} {d : List (List DefT)} {entry : ByteArray} {mem r2 r3 r4 : Int} {w W : World} {e i n : Int} {tmps : Array Value} {D : Nat} (hK : W.heap[D]? = some (.deferred (some []))) (hD : w.heap.size + 4 ≤ D) (h6 : tmps.getD 6 undef = .pointer (some ⟨w.heap.size, 0, none⟩)) (h7 : tmps.getD 7 undef = .pointer (some ⟨w.heap.size + 1, 0, none⟩)) (h8 : tmps.getD 8 undef = .pointer (some ⟨w.heap.size + 1 + 1, 0, none⟩)) (h9 : tmps.getD 9 undef = .pointer (some ⟨w.heap.size + 1 + 1 + 1, 0, none⟩))
  (h : LB w W e i n) (he : errL l entry mem r2 = e) (h0 : e ≠ 0) (hin : 0 ≤ mem → mem ≤ 4096 → r2 ≠ 0 → i = r3 ∧ n = r4) : calmQ (bodyPostM Fence.wide 6 Tryd.prog Tryd.f16 (LinkR l d entry mem r2 r3 r4 w)) .ret { tmps := tmps, defers := [{ target := .collected D, args := #[] }] } W := by
 have h' := h.grown (grownBy_putObj' W D (.deferred none)) (fun g z => by have := Option.some.inj z; omega)
 exact ⟨by simp, .inl ⟨_, _, rfl, run_takeDeferred hK, ⟨_, results_link h6 h7 h8 h9 h'.b6 h'.b7.cell h'.b8.cell h'.b9.cell, LinkR.err h' he h0 hin⟩⟩⟩
structure LF (w W : World) (vT mv : Value) (en : Int) (T M : List Int) : Prop where
  low : Below w.heap.size w W
  b6 : W.heap[w.heap.size]? = some (.cells #[vT, .int .i64 en, mv] 46 (0, 0))
  b7 : Boxed W (w.heap.size + 1) 31 (.int .i64 0)
  b8 : Boxed W (w.heap.size + 1 + 1) 3 (.int .i64 0)
  b9 : Boxed W (w.heap.size + 1 + 1 + 1) 3 (.int .i64 0)
  t : Kd.R (Kd.int .u32) 63 W w.heap.size (fun _ => True) vT T
  m : Kd.R (Kd.int .i64) 2 W w.heap.size (fun _ => True) mv M
section
variable {w W W1 : World} {vT mv : Value} {en : Int} {T M : List Int}
theorem LF.set7 (h : LF w W vT mv en T M) : LF w (W.setCell ⟨w.heap.size + 1, 0, none⟩ (.int .i64 0)) vT mv en T M :=
 ⟨h.low.setCell (p := ⟨w.heap.size + 1, 0, none⟩) (Nat.le_succ _) _, (Below.heap_setCell _ _ _ _ (by show w.heap.size ≠ w.heap.size + 1; omega)).trans h.b6, h.b7.set _, h.b8.other (by omega) _, h.b9.other (by omega) _, Kd.R_grown1 h.t rfl (grownBy_setCell' _ _ _) (Kd.R_ne h.t h.b7 (by decide)), Kd.R_grown1 h.m rfl (grownBy_setCell' _ _ _) (Kd.R_ne h.m h.b7 (by decide))⟩
theorem LF.set8 (h : LF w W vT mv en T M) : LF w (W.setCell ⟨w.heap.size + 1 + 1, 0, none⟩ (.int .i64 0)) vT mv en T M :=
 ⟨h.low.setCell (p := ⟨w.heap.size + 1 + 1, 0, none⟩) (by show w.heap.size ≤ w.heap.size + 1 + 1; omega) _, (Below.heap_setCell _ _ _ _ (by show w.heap.size ≠ w.heap.size + 1 + 1; omega)).trans h.b6, h.b7.other (by omega) _, h.b8.set _, h.b9.other (by omega) _, Kd.R_grown1 h.t rfl (grownBy_setCell' _ _ _) (Kd.R_ne h.t h.b8 (by decide)), Kd.R_grown1 h.m rfl (grownBy_setCell' _ _ _) (Kd.R_ne h.m h.b8 (by decide))⟩
theorem LF.set9 (h : LF w W vT mv en T M) : LF w (W.setCell ⟨w.heap.size + 1 + 1 + 1, 0, none⟩ (.int .i64 0)) vT mv en T M :=
 ⟨h.low.setCell (p := ⟨w.heap.size + 1 + 1 + 1, 0, none⟩) (by show w.heap.size ≤ w.heap.size + 1 + 1 + 1; omega) _, (Below.heap_setCell _ _ _ _ (by show w.heap.size ≠ w.heap.size + 1 + 1 + 1; omega)).trans h.b6, h.b7.other (by omega) _, h.b8.other (by omega) _, h.b9.set _, Kd.R_grown1 h.t rfl (grownBy_setCell' _ _ _) (Kd.R_ne h.t h.b9 (by decide)), Kd.R_grown1 h.m rfl (grownBy_setCell' _ _ _) (Kd.R_ne h.m h.b9 (by decide))⟩
theorem df_ne {D g : Nat} {x : Option (List Deferred)} {cs : Array Value} {t : TypeId} (h : W.heap[D]? = some (.deferred x)) (hb : W.heap[g]? = some (.cells cs t (0, 0))) : some g ≠ some D := fun z => by
 obtain rfl := Option.some.inj z
 rw [h] at hb
 cases hb
theorem LF.taken {D : Nat} {x : Option (List Deferred)} (h : LF w W vT mv en T M) (hd : W.heap[D]? = some (.deferred x)) (hD : w.heap.size ≤ D) : LF w (W.putObj D (.deferred none)) vT mv en T M := by
 have k := grownBy_putObj' W D (.deferred none)
 have hr : ∀ r, some D = some r → ∃ o : Obj, W.heap[r]? = some o ∧ o.isCells = false := fun r z => by
  obtain rfl := Option.some.inj z
  exact ⟨_, hd, rfl⟩
 exact ⟨pw_below_grown h.low (some D) h.low.size k (fun g z => by have := Option.some.inj z; omega), blk_grown h.b6 k (df_ne hd h.b6), blk_grown h.b7 k (df_ne hd h.b7), blk_grown h.b8 k (df_ne hd h.b8), blk_grown h.b9 k (df_ne hd h.b9), R_turned h.t k hr, R_turned h.m k hr⟩
end
theorem leaf_ok {l : List ObjT} {d : List (List DefT)} {entry : ByteArray} {mem r3 r4 : Int} {w W : World} {vT mv : Value} {tmps : Array Value} {D D2 : Nat} {ds : List Deferred} (hds : ds = [{ target := .collected D2, args := #[] }, { target := .collected D, args := #[] }]) (hK : W.heap[D]? = some (.deferred (some []))) (hK2 : W.heap[D2]? = some (.deferred (some []))) (hD : w.heap.size ≤ D) (hD2 : w.heap.size ≤ D2) (hne : D ≠ D2) (h6 : tmps.getD 6 undef = .pointer (some ⟨w.heap.size, 0, none⟩)) (h7 : tmps.getD 7 undef = .pointer (some ⟨w.heap.size + 1, 0, none⟩)) (h8 : tmps.getD 8 undef = .pointer (some ⟨w.heap.size + 1 + 1, 0, none⟩)) (h9 : tmps.getD 9 undef = .pointer (some ⟨w.heap.size + 1 + 1 + 1, 0, none⟩))
  (h : LF w W vT mv (entL l entry mem 0) (txtL l d entry mem 0) (memL l entry mem 0)) (he : errL l entry mem 0 = 0) : calmQ (bodyPostM Fence.wide 6 Tryd.prog Tryd.f16 (LinkR l d entry mem 0 r3 r4 w)) .ret { tmps := tmps, defers := ds } W := by
 subst hds
 have hK' := (World.putObj_heap_other (w := W) (o := .deferred none) hne).trans hK
 have h' := (h.taken hK2 hD2).taken hK' hD
 exact ⟨by simp, .inl ⟨_, _, rfl, run_takeDeferred hK2, ⟨by simp, .inl ⟨_, _, rfl, run_takeDeferred hK', ⟨_, results_link h6 h7 h8 h9 h'.b6 h'.b7.cell h'.b8.cell h'.b9.cell, ⟨_, _, _, _, by rw [he], h'.t, h'.m, h'.low, fun _ _ h => absurd rfl h⟩⟩⟩⟩⟩⟩
def IL (w2 : World) (l : List ObjT) (f0 f1 : Int) (pre : List Nat) (W : World) : Prop :=
 (((∃ v, Boxed W (w2.heap.size + 1 + 1) 52 v ∧ W.ownsRow (w2.heap.size + 1 + 1) 3 1 v pre.length (pre.map fun i => .int .i64 (bsL l i : Int)) ∧ (v = .slice none 0 0 ↔ pre = [])) ∧ okB l pre) ∧ (Boxed W (w2.heap.size + 1) 3 (.int .i64 (pre.length : Int)) ∧ W.heap[w2.heap.size]? = some (.cells #[.int .i64 f0, .int .i64 f1] 59 (0, 0)))) ∧ Below w2.heap.size w2 W
def IxL (w : World) (l : List ObjT) (c : Code) (pre : List Nat) (W : World) : Prop := (c = .ret ∧ ¬ okB l pre) ∧ ∃ i n, LB w W 42 i n
theorem IL_own {B : Nat} {w2 : World} {l : List ObjT} {f0 f1 : Int} (hB : w2.heap.size ≤ B) : OwnFrom B (IL w2 l f0 f1) :=
 OwnFrom.and (OwnFrom.and (OwnFrom.and (Own.from (holdsRow_own (w2.heap.size + 1 + 1) (w2.heap.size + 1 + 1) 52 3 1 (fun pre : List Nat => pre.length) (fun pre => pre.map fun i => Value.int .i64 (bsL l i : Int)) (fun pre v => v = .slice none 0 0 ↔ pre = [])) _) (ownFrom_pure _ _)) (OwnFrom.and (Own.from (boxed_own _ _ (fun pre : List Nat => .int .i64 (pre.length : Int))) _) (fun s A B row hs hg hr => blk_own hs rfl hg hr))) (ownFrom_below (Nat.le_refl _) hB)
theorem IxL_own {B : Nat} {w : World} {l : List ObjT} (hB : w.heap.size + 4 ≤ B) (c : Code) : OwnFrom B (IxL w l c) :=
 OwnFrom.and (ownFrom_pure _ (fun pre => c = .ret ∧ ¬ okB l pre)) (fun s A B row hs hg hr => by obtain ⟨i, n, h⟩ := hs; exact ⟨i, n, h.own hB hg hr⟩)

set_option maxRecDepth 100000 in
set_option maxHeartbeats 60000000 in
theorem link.calls (A0 : Option Addr) (c0 : Nat) (l : List ObjT) (entry : ByteArray) (mem : Int) (d : List (List DefT)) (r2 r3 r4 : Int) (w : World) (hC : Kd.C k27 w A0 l.length l) (hlc : l.length ≤ c0) (hlen : l.length ≤ 1000000) (hsy : ∀ i, i < l.length → (ob l i).f4.length ≤ 1000000000) (hcl : ∀ i, i < l.length → (ob l i).f1.length ≤ 1000000000) (hrln : ∀ i, i < l.length → (ob l i).f5.length ≤ 1000000000) (hres : resolveR l = some (d, r2, r3, r4)) (hok : r2 = 0 → LOK l d) (hfo : r2 = 0 → (findR (gObj l l.length) entry).2.2 = true → 0 ≤ (findR (gObj l l.length) entry).1 ∧ (findR (gObj l l.length) entry).1 < l.length ∧ 0 ≤ (findR (gObj l l.length) entry).2.1 ∧ (findR (gObj l l.length) entry).2.1 ≤ 1000000) :
  Calls Tryd.prog 16 #[.slice A0 l.length c0, .string entry, .int .i64 mem] w (LinkR l d entry mem r2 r3 r4 w) := by
 refine (callsIn_wide (n := 6)).1 ?_
 refine callsIn_of_wp_marks Tryd.func16 rfl trivial ?_ rfl
 simp only [Tryd.ntmps16, List.size_toArray, List.length_cons, List.length_nil, Nat.reduceAdd, Nat.reduceSub, Array.replicate_succ, Array.replicate_zero, List.push_toArray, List.append_toArray, List.nil_append, List.cons_append]
 refine wpIn_wide.2 (wp_mono ?_ calmQ_of)
 go_upto_region 1 with (fail)
 have HL := Aside0.mk (LB.start w)
 obtain ⟨W0, hW0⟩ : ∃ W0, ((((w.alloc (.cells zImg 46)).alloc (.cells #[.int .i64 0] 31)).alloc (.cells #[.int .i64 0] 3)).alloc (.cells #[.int .i64 0] 3)) = W0 := ⟨_, rfl⟩
 rw [hW0] at HL ⊢
 clear hW0
 have c7 := HL.out.b7.cell
 have f7 := HL.out.b7.frozen
 have c8 := HL.out.b8.cell
 have f8 := HL.out.b8.frozen
 have c9 := HL.out.b9.cell
 have f9 := HL.out.b9.frozen
 have HC := Aside0.mk hC
 have HSY := Aside0.mk hsy
 have HCL := Aside0.mk hcl
 have HRS := Aside0.mk hres
 have HOK := Aside0.mk hok
 have HFO := Aside0.mk hfo
 have HLN := Aside0.mk hlen
 have HRLN := Aside0.mk hrln
 clear hC hlc hsy hcl hres hok hfo hlen hrln
 by_cases hm : mem < 0
 ·
  have hd : decide (mem < 0) = true := decide_eq_true hm
  have HM := Aside0.mk hm
  clear hm
  go_wp2_with (first | ((with_reducible refine gate_store (t := 46) rfl ?_); refine wpList_store_whole rfl rfl rfl w.heap.size _ zImg _ rfl rfl HL.out.b6 (by kernel_rfl) rfl (zImg_one) ?_; intro w_ hp_; replace HL := Aside0.mk (HL.out.same hp_); clear hp_ c7 f7 c8 f8 c9 f9; have c7 := HL.out.b7.cell; have f7 := HL.out.b7.frozen; have c8 := HL.out.b8.cell; have f8 := HL.out.b8.frozen; have c9 := HL.out.b9.cell; have f9 := HL.out.b9.frozen))
  refine leaf_err rfl rfl rfl rfl (((HL.out.set7 1).set8 0).set9 0) ?_ (by decide) (fun h1 h2 _ => by have := HM.out; omega)
  unfold errL
  rw [if_pos HM.out]
 by_cases hm2 : mem > 4096
 ·
  have hd : decide (mem < 0) = false := decide_eq_false hm
  have hd2 : decide (mem > 4096) = true := decide_eq_true hm2
  have HM := Aside0.mk (And.intro hm hm2)
  clear hm hm2
  go_wp2_with (first | ((with_reducible refine gate_store (t := 46) rfl ?_); refine wpList_store_whole rfl rfl rfl w.heap.size _ zImg _ rfl rfl HL.out.b6 (by kernel_rfl) rfl (zImg_one) ?_; intro w_ hp_; replace HL := Aside0.mk (HL.out.same hp_); clear hp_ c7 f7 c8 f8 c9 f9; have c7 := HL.out.b7.cell; have f7 := HL.out.b7.frozen; have c8 := HL.out.b8.cell; have f8 := HL.out.b8.frozen; have c9 := HL.out.b9.cell; have f9 := HL.out.b9.frozen))
  refine leaf_err rfl rfl rfl rfl (((HL.out.set7 1).set8 0).set9 0) ?_ (by decide) (fun h1 h2 _ => by have := HM.out; omega)
  unfold errL
  rw [if_neg (show ¬ mem < 0 by have := HM.out.1; omega), if_pos HM.out.2]
 have hd : decide (mem < 0) = false := decide_eq_false hm
 have hd2 : decide (mem > 4096) = false := decide_eq_false hm2
 have HM := Aside0.mk (And.intro hm hm2)
 clear hm hm2
 by_cases h2 : r2 = 0
 case neg =>
  have hd3 : (r2 != 0) = true := bne_iff_ne.mpr h2
  have H2 := Aside0.mk h2
  clear h2
  go_wp2_with (first | ((with_reducible refine gate_store (t := 46) rfl ?_); refine wpList_store_whole rfl rfl rfl w.heap.size _ zImg _ rfl rfl HL.out.b6 (by kernel_rfl) rfl (zImg_one) ?_; intro w_ hp_; replace HL := Aside0.mk (HL.out.same hp_); clear hp_ c7 f7 c8 f8 c9 f9; have c7 := HL.out.b7.cell; have f7 := HL.out.b7.frozen; have c8 := HL.out.b8.cell; have f8 := HL.out.b8.frozen; have c9 := HL.out.b9.cell; have f9 := HL.out.b9.frozen) | (go_at_call 21; refine (symRes.calls A0 c0 l _ d r2 r3 r4 (Kd.C_below HC.out HL.out.low) HSY.out HRS.out).mono ?_; rintro e_ w1 ⟨dv, rfl, hR_, hb_⟩; have HD := Aside0.mk hR_; replace HL := Aside0.mk (HL.out.below hb_); clear hR_ hb_ c7 f7 c8 f8 c9 f9; have c7 := HL.out.b7.cell; have f7 := HL.out.b7.frozen; have c8 := HL.out.b8.cell; have f8 := HL.out.b8.frozen; have c9 := HL.out.b9.cell; have f9 := HL.out.b9.frozen))
  have HLd := Aside0.mk ((HL.out.set7 r2).below (below_drew (Below.refl _ _)))
  have c7d := HLd.out.b7.cell
  refine start_ (n := 8) (S := fun w' => w'.cell? ⟨w.heap.size + 1, 0, none⟩ = some (.int .i64 r2)) (ds := []) #[false, false, false, false, false, false, false, false] (by kernel_rfl) rfl rfl c7d (fun hHeld => ?_)
  skip
  refine pure_ (i := 0) (N := some 49) (v := ?_) (a' := ?_) #[true, false, false, false, false, false, false, false] rfl rfl (by kernel_rfl) (fun _ _ _ h => h) (Or.inl ⟨by rfl, ?_⟩) ?_ ?_
  rotate_left; · intro w'; go_simp; with_reducible rfl
  rotate_left; · simp only [Act.put, List.setIfInBounds_toArray, List.set_cons_zero, List.set_cons_succ, i64_w, i32_w]; rfl
  refine take_ (i := 1) (N := some 50) (v := ?_) (a' := ?_) #[true, true, false, false, false, false, false, false] rfl rfl (by kernel_rfl) (fun _ _ _ h => h) (Or.inl ⟨by rfl, ?_⟩) hHeld ?_ ?_
  rotate_left; · rintro w' s0; go_simp; with_reducible rfl
  rotate_left; · simp only [Act.put, List.setIfInBounds_toArray, List.set_cons_zero, List.set_cons_succ, i64_w, i32_w]; rfl
  refine pure_ (i := 2) (N := some 51) (v := ?_) (a' := ?_) #[true, true, true, false, false, false, false, false] rfl rfl (by kernel_rfl) (fun _ _ _ h => h) (Or.inl ⟨by rfl, ?_⟩) ?_ ?_
  rotate_left; · intro w'; go_simp; with_reducible rfl
  rotate_left; · simp only [Act.put, List.setIfInBounds_toArray, List.set_cons_zero, List.set_cons_succ, i64_w, i32_w]; rfl
  refine pure_ (i := 3) (N := some 52) (v := ?_) (a' := ?_) #[true, true, true, true, false, false, false, false] rfl rfl (by kernel_rfl) (fun _ _ _ h => h) (Or.inl ⟨by rfl, ?_⟩) ?_ ?_
  rotate_left; · intro w'; go_simp; with_reducible rfl
  rotate_left; · simp only [Act.put, List.setIfInBounds_toArray, List.set_cons_zero, List.set_cons_succ, i64_w, i32_w]; rfl
  refine one_ (i := 4) (N := none) #[true, true, true, true, true, false, false, false] rfl rfl (by kernel_rfl) (by decide) (fun K hK => ?_)
  refine step_whole rfl rfl rfl w.heap.size zImg zImg 46 rfl rfl HLd.out.b6 (by kernel_rfl) rfl zImg_one ?_
  intro w5_ hp_
  have HL5 := Aside0.mk (HLd.out.same hp_)
  refine hK.out _ _ HL5.out.b7.cell (fun hHeld => ?_)
  clear hp_ HLd
  clear hK K
  refine one_ (i := 5) (N := none) #[true, true, true, true, true, true, false, false] rfl rfl (by kernel_rfl) (by decide) (fun K hK => ?_)
  refine skip_ (w1 := ?_) (by rfl) rfl ?_ ?_
  rotate_left
  ·
   have c7 := HL5.out.b7.cell
   have f7 := HL5.out.b7.frozen
   have c8 := HL5.out.b8.cell
   have f8 := HL5.out.b8.frozen
   have c9 := HL5.out.b9.cell
   have f9 := HL5.out.b9.frozen
   go_simp
   rfl
  have HL6 := Aside0.mk (HL5.out.set7 r2)
  refine hK.out _ _ HL6.out.b7.cell (fun hHeld => ?_)
  clear HL5
  clear hK K
  refine one_ (i := 6) (N := none) #[true, true, true, true, true, true, true, false] rfl rfl (by kernel_rfl) (by decide) (fun K hK => ?_)
  refine skip_ (w1 := ?_) (by rfl) rfl ?_ ?_
  rotate_left
  ·
   have c7 := HL6.out.b7.cell
   have f7 := HL6.out.b7.frozen
   have c8 := HL6.out.b8.cell
   have f8 := HL6.out.b8.frozen
   have c9 := HL6.out.b9.cell
   have f9 := HL6.out.b9.frozen
   go_simp
   rfl
  have HL7 := Aside0.mk (HL6.out.set8 r3)
  refine hK.out _ _ HL7.out.b7.cell (fun hHeld => ?_)
  clear HL6
  clear hK K
  refine one_ (i := 7) (N := none) #[true, true, true, true, true, true, true, true] rfl rfl (by kernel_rfl) (by decide) (fun K hK => ?_)
  refine skip_ (w1 := ?_) (by rfl) rfl ?_ ?_
  rotate_left
  ·
   have c7 := HL7.out.b7.cell
   have f7 := HL7.out.b7.frozen
   have c8 := HL7.out.b8.cell
   have f8 := HL7.out.b8.frozen
   have c9 := HL7.out.b9.cell
   have f9 := HL7.out.b9.frozen
   go_simp
   rfl
  have HL8 := Aside0.mk (HL7.out.set9 r4)
  refine hK.out _ _ HL8.out.b7.cell (fun hHeld => ?_)
  clear HL7
  clear hK K
  refine done_ (by kernel_rfl) ?_
  go_wp2
  
  refine leaf_err rfl rfl rfl rfl HL8.out ?_ H2.out (fun _ _ _ => ⟨rfl, rfl⟩)
  unfold errL
  rw [if_neg (show ¬ mem < 0 by have := HM.out.1; omega), if_neg (show ¬ mem > 4096 by have := HM.out.2; omega), if_pos H2.out]
 case pos =>
  subst h2
  replace HOK := Aside0.mk (HOK.out rfl)
  replace HFO := Aside0.mk (HFO.out rfl)
  obtain ⟨F, hF⟩ : ∃ F, findR (gObj l l.length) entry = F := ⟨_, rfl⟩
  have HF := Aside0.mk hF
  clear hF
  obtain ⟨f0, f1, fb⟩ := F
  cases fb with
  | false =>
   go_wp2_with (first | ((with_reducible refine gate_store (t := 46) rfl ?_); refine wpList_store_whole rfl rfl rfl w.heap.size _ zImg _ rfl rfl (HL.out.below (below_alloc (Below.refl _ _) (.cells #[.int .i64 f0, .int .i64 f1] 59))).b6 (by kernel_rfl) rfl (zImg_one) ?_; intro w_ hp_; replace HL := Aside0.mk ((HL.out.below (below_alloc (Below.refl _ _) (.cells #[.int .i64 f0, .int .i64 f1] 59))).same hp_); clear hp_ c7 f7 c8 f8 c9 f9; have c7 := HL.out.b7.cell; have f7 := HL.out.b7.frozen; have c8 := HL.out.b8.cell; have f8 := HL.out.b8.frozen; have c9 := HL.out.b9.cell; have f9 := HL.out.b9.frozen) | (go_at_call 21; refine (symRes.calls A0 c0 l _ d 0 r3 r4 (Kd.C_below HC.out HL.out.low) HSY.out HRS.out).mono ?_; rintro e_ w1 ⟨dv, rfl, hR_, hb_⟩; have HD := Aside0.mk (show Kd.S (Kd.slice 59 k59) 62 w1 W0.heap.size (fun _ => True) dv d from hR_); replace HL := Aside0.mk (HL.out.below hb_); clear hR_ hb_ c7 f7 c8 f8 c9 f9; have c7 := HL.out.b7.cell; have f7 := HL.out.b7.frozen; have c8 := HL.out.b8.cell; have f8 := HL.out.b8.frozen; have c9 := HL.out.b9.cell; have f9 := HL.out.b9.frozen) | (go_at_call 22; have HDs := Aside0.mk (Kd.S_set HD.out HL.out.b7 (by decide) 0 (.int .i64 0)); have HLs := Aside0.mk (HL.out.set7 0); clear HL HD c7 f7 c8 f8 c9 f9; generalize w1.setCell ⟨w.heap.size + 1, 0, none⟩ (.int .i64 0) = w1b at HLs HDs ⊢; have HL := HLs; have HD := HDs; clear HLs HDs; refine (symFind.calls A0 c0 l entry _ (Kd.C_below HC.out HL.out.low) HLN.out HSY.out).mono ?_; rintro e_ w2 he_; rw [HF.out] at he_; obtain ⟨rfl, hb_⟩ := he_; replace HD := Aside0.mk (Kd.S_below HD.out hb_); replace HL := Aside0.mk (HL.out.below hb_); clear hb_; have c7 := HL.out.b7.cell; have f7 := HL.out.b7.frozen; have c8 := HL.out.b8.cell; have f8 := HL.out.b8.frozen; have c9 := HL.out.b9.cell; have f9 := HL.out.b9.frozen))
   refine leaf_err rfl rfl rfl rfl (((HL.out.set7 41).set8 0).set9 0) ?_ (by decide) (fun _ _ h => absurd rfl h)
   unfold errL
   rw [if_neg (show ¬ mem < 0 by have := HM.out.1; omega), if_neg (show ¬ mem > 4096 by have := HM.out.2; omega), if_neg (by decide), HF.out]
   rfl
  | true =>
   go_wp2_with (first | (go_at_call 21; refine (symRes.calls A0 c0 l _ d 0 r3 r4 (Kd.C_below HC.out HL.out.low) HSY.out HRS.out).mono ?_; rintro e_ w1 ⟨dv, rfl, hR_, hb_⟩; have HD := Aside0.mk (show Kd.S (Kd.slice 59 k59) 62 w1 W0.heap.size (fun _ => True) dv d from hR_); replace HL := Aside0.mk (HL.out.below hb_); clear hR_ hb_ c7 f7 c8 f8 c9 f9; have c7 := HL.out.b7.cell; have f7 := HL.out.b7.frozen; have c8 := HL.out.b8.cell; have f8 := HL.out.b8.frozen; have c9 := HL.out.b9.cell; have f9 := HL.out.b9.frozen) | (go_at_call 22; have HDs := Aside0.mk (Kd.S_set HD.out HL.out.b7 (by decide) 0 (.int .i64 0)); have HLs := Aside0.mk (HL.out.set7 0); clear HL HD c7 f7 c8 f8 c9 f9; generalize w1.setCell ⟨w.heap.size + 1, 0, none⟩ (.int .i64 0) = w1b at HLs HDs ⊢; have HL := HLs; have HD := HDs; clear HLs HDs; refine (symFind.calls A0 c0 l entry _ (Kd.C_below HC.out HL.out.low) HLN.out HSY.out).mono ?_; rintro e_ w2 he_; rw [HF.out] at he_; obtain ⟨rfl, hb_⟩ := he_; replace HD := Aside0.mk (Kd.S_below HD.out hb_); replace HL := Aside0.mk (HL.out.below hb_); clear hb_; have c7 := HL.out.b7.cell; have f7 := HL.out.b7.frozen; have c8 := HL.out.b8.cell; have f8 := HL.out.b8.frozen; have c9 := HL.out.b9.cell; have f9 := HL.out.b9.frozen) | (go_at_call 61; refine (callsIn_wide.1 (lay_in Fence.wide 1 trivial rfl A0 l.length c0 _)).mono ?_; rintro e_ w_ ⟨rfl, rfl⟩))
   obtain ⟨P, hP⟩ := pars HC.out
   have HP := Aside0.mk hP
   clear hP
   clear c7 f7 c8 f8 c9 f9
   have b0 : (w2.alloc (.cells #[.int .i64 f0, .int .i64 f1] 59)).heap[w2.heap.size]? = some (.cells #[.int .i64 f0, .int .i64 f1] 59 (0, 0)) := World.alloc_heap_new w2 _
   have b1 := Boxed.new (w2.alloc (.cells #[.int .i64 f0, .int .i64 f1] 59)) 3 (.int .i64 0)
   have b2 := Boxed.new ((w2.alloc (.cells #[.int .i64 f0, .int .i64 f1] 59)).alloc (.cells #[.int .i64 0] 3)) 52 (.slice none 0 0)
   have b3 := Boxed.new (((w2.alloc (.cells #[.int .i64 f0, .int .i64 f1] 59)).alloc (.cells #[.int .i64 0] 3)).alloc (.cells #[.slice none 0 0] 52)) 43 (.slice A0 l.length c0)
   simp only [World.size_alloc] at b1 b2 b3
   have b1' := (b1.alloc (.cells #[.slice none 0 0] 52)).alloc (.cells #[.slice A0 l.length c0] 43)
   have b2' := b2.alloc (.cells #[.slice A0 l.length c0] 43)
   have b0' := blk_below b0 (((Below.refl _ _).alloc (Nat.le_refl _) (.cells #[.int .i64 0] 3)).alloc (by simp) (.cells #[.slice none 0 0] 52) |>.alloc (by first | (simp; done) | (simp; omega)) (.cells #[.slice A0 l.length c0] 43))
   obtain ⟨W3, hW3⟩ : ∃ W3, ((((w2.alloc (.cells #[.int .i64 f0, .int .i64 f1] 59)).alloc (.cells #[.int .i64 0] 3)).alloc (.cells #[.slice none 0 0] 52)).alloc (.cells #[.slice A0 l.length c0] 43)) = W3 := ⟨_, rfl⟩
   have hB3 : Below w2.heap.size w2 W3 := by rw [← hW3]; exact ((((Below.refl _ w2).alloc (Nat.le_refl _) _).alloc (by simp) _).alloc (by simp; omega) _).alloc (by simp; omega) _
   have hsz : W3.heap.size = w2.heap.size + 1 + 1 + 1 + 1 := by rw [← hW3]; simp
   rw [hW3] at b0' b1' b2' b3 ⊢
   clear hW3 b0 b1 b2
   have h24 : w.heap.size + 4 ≤ w2.heap.size := HL.out.lt
   have HB3 := Aside0.mk hB3
   refine (wpIn_wide (n := 6)).1 ?_
   refine wpIn_rangeFunc_ownH rfl (by decide) (gf := 77) (lb := #[.pointer (some ⟨w2.heap.size + 1 + 1 + 1, 0, none⟩)]) rfl trivial (enters_of Tryd.func77 (by kernel_rfl) rfl)
    (lay_stops Fence.wide 5 trivial rfl (by decide) (w2.heap.size + 1 + 1 + 1) w2.heap.size A0 c0 l w W3 (by omega) (by omega) P HP.out HLN.out HCL.out (HL.out.low.trans (hB3.mono (by omega))) (by omega) b3.cell) KpO.t (KpO.b (by omega)) (Below.refl _ _) (fun _ => rfl)
    (IL w2 l f0 f1) (IxL w l) (IL_own (by omega)) (IxL_own (by omega))
    ⟨⟨⟨⟨_, b2', World.ownsRow_nil _ _ _ _, by simp⟩, fun i hi => by cases hi⟩, b1', b0'⟩, hB3⟩
    (fun x a' W => ∃ Bx, w2.heap.size + 1 + 1 < Bx ∧ bxO l P x W Bx ∧ a' = { tmps := #[.slice A0 l.length c0, .string entry, .int .i64 mem, undef, undef, undef, .pointer (some ⟨w.heap.size, 0, none⟩), .pointer (some ⟨w.heap.size + 1, 0, none⟩), .pointer (some ⟨w.heap.size + 1 + 1, 0, none⟩), .pointer (some ⟨w.heap.size + 1 + 1 + 1, 0, none⟩), dv, .int .i64 r3, .int .i64 r4, .pointer (some ⟨w2.heap.size, 0, none⟩), .bool true, .pointer (some ⟨w2.heap.size + 1, 0, none⟩), .pointer (some ⟨w2.heap.size + 1 + 1, 0, none⟩), .int .i64 (bsL l x : Int), .pointer (some ⟨Bx, 0, none⟩), undef, undef, undef, undef, undef, undef, undef, undef, undef, undef, undef, undef, undef, undef, .int .i64 mem, .bool false, .bool false, .int .i64 mem, .bool false, .bool false, undef, .tuple #[dv, .int .i64 0, .int .i64 r3, .int .i64 r4], .slice A0 l.length c0, .tuple #[dv, .int .i64 0, .int .i64 r3, .int .i64 r4], dv, .int .i64 0, .int .i64 r3, .int .i64 r4, .int .i64 0, .bool false, undef, undef, undef, undef, .tuple #[.agg #[.int .i64 f0, .int .i64 f1], .bool true], .slice A0 l.length c0, .string entry, .tuple #[.agg #[.int .i64 f0, .int .i64 f1], .bool true], .agg #[.int .i64 f0, .int .i64 f1], .bool true, .bool true, .bool false, undef, .slice A0 l.length c0, .func (.func 77) #[] #[.pointer (some ⟨w2.heap.size + 1 + 1 + 1, 0, none⟩)], .int .i64 (bsL l x : Int), .agg (objV (ob l x) (P x)), undef, undef, undef, undef, undef, undef, undef, undef, undef, undef, undef, undef, undef, undef, undef, undef, undef, undef, undef, undef, undef, undef, undef, undef, undef, undef, undef, undef, undef, undef, undef, undef, undef, undef, undef, undef, undef, undef, undef, undef, undef, undef, undef, undef, undef, undef, undef, undef, undef, undef, undef, undef, undef, undef, undef, undef, undef, undef, undef, undef, undef, undef, undef, undef, undef, undef, undef, undef, undef, undef, undef, undef, undef, undef, undef, undef, undef, undef, undef, undef, undef, undef, undef, undef, undef, undef, undef, undef, undef, undef, undef, undef, undef, undef, undef, undef, undef, undef, undef, undef, undef, undef, undef, undef, undef, undef, undef, undef, undef, undef, undef, undef, undef, undef, undef, undef, undef, undef, undef, undef, undef, undef, undef, undef, undef, undef, undef, undef], defers := [] })
    (fun x a' _ X Y row hs hg hr => by obtain ⟨Bx, q1, q2, q3⟩ := hs; exact ⟨Bx, q1, bxO_own q2 hg hr, q3⟩)
    ?assign ?body ?done ?stop
   case assign =>
    rintro lr pre x W K hi hK
    have hlt0 := hi.1.1.1
    obtain ⟨v0, hv0, _⟩ := hlt0
    dsimp only [encB, objV]
    gi_wp2
    exact hK _ _ ((KeepsOthers.alloc _ _).from _) ⟨(Below.refl _ W).alloc hi.2.size _, KeepO.alloc _⟩ ((IL_own (B := W3.heap.size) (by omega)).alloc _ hi) ⟨W.heap.size, hv0.lt, (MapKept.heap_alloc W _).1, rfl⟩
   case body =>
    rintro lr pre x a' W hlr ⟨r, hr⟩ ⟨⟨⟨⟨v, hv, hrow, hnl⟩, hok⟩, q1, q0⟩, hB1⟩ ⟨Bx, hBx, bX, rfl⟩ hlt
    have cb : W.cell? ⟨Bx, 1, none⟩ = some (.slice (P x).A1 (ob l x).f1.length (P x).c1) := (blk_cell bX 1).trans rfl
    have hbl := bsL_le HCL.out HLN.out x
    have hcd := code_le HCL.out x
    have hw : wrap64 ((bsL l x : Int) + ((ob l x).f1.length : Int)) = ((bsL l x + (ob l x).f1.length : Nat) : Int) := by rw [wrap64_id (by omega) (by omega)]; omega
    have c1 := q1.cell
    have f1_ := q1.frozen
    have HX := Aside0.mk hlt
    clear hlt
    by_cases hge : 16384 ≤ bsL l x + (ob l x).f1.length
    ·
     have hd4 : decide (wrap64 ((bsL l x : Int) + ((ob l x).f1.length : Int)) ≥ 16384) = true := by rw [hw]; exact decide_eq_true (by omega)
     have hd5 : (16384 ≤ wrap64 ((bsL l x : Int) + ((ob l x).f1.length : Int))) = True := by rw [hw]; exact eq_true (by omega)
     have HGE := Aside0.mk hge
     clear hw hge hbl hcd
     gi_wp2
     have HLd := Aside0.mk ((HL.out.below hB1).below (below_drew (Below.refl _ _)))
     have KF0 := Aside0.mk ((KeepsOthers.drew W).from W3.heap.size)
     have cnd := (Boxed.below_ q1 (below_drew (Below.refl W.heap.size W))).cell
     refine startIn_ (m := 6) (S := fun w' => w'.cell? ⟨w2.heap.size + 1, 0, none⟩ = some (.int .i64 (pre.length : Int))) (ds := []) #[false, false, false, false, false, false] (by kernel_rfl) rfl rfl cnd (by kernel_rfl) (by rintro ⟨a_, w_, h_⟩; exact (show False from h_)) (fun hHeld => ?_)
     refine pure_ (i := 0) (N := some 72) (v := ?_) (a' := ?_) #[true, false, false, false, false, false] rfl rfl (by kernel_rfl) (fun _ _ _ h => h) (Or.inl ⟨by rfl, ?_⟩) ?_ ?_
     rotate_left; · intro w'; go_simp; with_reducible rfl
     rotate_left; · simp only [Act.put, List.setIfInBounds_toArray, List.set_cons_zero, List.set_cons_succ, i64_w, i32_w]; rfl
     refine take_ (i := 1) (N := some 73) (v := ?_) (a' := ?_) #[true, true, false, false, false, false] rfl rfl (by kernel_rfl) (fun _ _ _ h => h) (Or.inl ⟨by rfl, ?_⟩) hHeld ?_ ?_
     rotate_left; · rintro w' s0; go_simp; with_reducible rfl
     rotate_left; · simp only [Act.put, List.setIfInBounds_toArray, List.set_cons_zero, List.set_cons_succ, i64_w, i32_w]; rfl
     refine one_ (i := 2) (N := none) #[true, true, true, false, false, false] rfl rfl (by kernel_rfl) (by decide) (fun K hK => ?_)
     refine step_whole rfl rfl rfl w.heap.size zImg zImg 46 rfl rfl HLd.out.b6 (by kernel_rfl) rfl zImg_one ?_
     intro w5_ hp_
     have HL5 := Aside0.mk (HLd.out.same hp_)
     have KF5 := Aside0.mk (KF0.out.trans (KeepsFrom.of_grownBy (put_grownN hp_) (fun j e => by have := Option.some.inj e; omega)))
     have cn5 : w5_.cell? ⟨w2.heap.size + 1, 0, none⟩ = some (.int .i64 (pre.length : Int)) := (cell_same (a := ⟨w2.heap.size + 1, 0, none⟩) ((put_grownN hp_).block (w2.heap.size + 1) (show _ < W.heap.size from blk_lt q1) (fun e => by have := Option.some.inj e; omega))).trans cnd
     refine hK.out _ _ cn5 (fun hHeld => ?_)
     clear hp_ HLd KF0 cnd hK K
     refine one_ (i := 3) (N := none) #[true, true, true, true, false, false] rfl rfl (by kernel_rfl) (by decide) (fun K hK => ?_)
     refine skip_ (w1 := ?_) (by rfl) rfl ?_ ?_
     rotate_left
     ·
      have c7 := HL5.out.b7.cell
      have f7 := HL5.out.b7.frozen
      have c8 := HL5.out.b8.cell
      have f8 := HL5.out.b8.frozen
      have c9 := HL5.out.b9.cell
      have f9 := HL5.out.b9.frozen
      go_simp
      rfl
     have HL6 := Aside0.mk (HL5.out.set7 42)
     have KF6 := Aside0.mk (KF5.out.trans ((KeepsOthers.setCell _ ⟨w.heap.size + 1, 0, none⟩ (.int .i64 42)).from _))
     have cn6 := (cell_same (a := ⟨w2.heap.size + 1, 0, none⟩) (Below.heap_setCell _ ⟨w.heap.size + 1, 0, none⟩ (.int .i64 42) (w2.heap.size + 1) (by show w2.heap.size + 1 ≠ w.heap.size + 1; omega))).trans cn5
     refine hK.out _ _ cn6 (fun hHeld => ?_)
     clear HL5 KF5 cn5 hK K
     refine one_ (i := 4) (N := none) #[true, true, true, true, true, false] rfl rfl (by kernel_rfl) (by decide) (fun K hK => ?_)
     refine skip_ (w1 := ?_) (by rfl) rfl ?_ ?_
     rotate_left
     ·
      have c7 := HL6.out.b7.cell
      have f7 := HL6.out.b7.frozen
      have c8 := HL6.out.b8.cell
      have f8 := HL6.out.b8.frozen
      have c9 := HL6.out.b9.cell
      have f9 := HL6.out.b9.frozen
      go_simp
      rfl
     have HL7 := Aside0.mk (HL6.out.set8 (pre.length : Int))
     have KF7 := Aside0.mk (KF6.out.trans ((KeepsOthers.setCell _ ⟨w.heap.size + 1 + 1, 0, none⟩ (.int .i64 (pre.length : Int))).from _))
     have cn7 := (cell_same (a := ⟨w2.heap.size + 1, 0, none⟩) (Below.heap_setCell _ ⟨w.heap.size + 1 + 1, 0, none⟩ (.int .i64 (pre.length : Int)) (w2.heap.size + 1) (by show w2.heap.size + 1 ≠ w.heap.size + 1 + 1; omega))).trans cn6
     refine hK.out _ _ cn7 (fun hHeld => ?_)
     clear HL6 KF6 cn6 hK K
     refine one_ (i := 5) (N := none) #[true, true, true, true, true, true] rfl rfl (by kernel_rfl) (by decide) (fun K hK => ?_)
     refine skip_ (w1 := ?_) (by rfl) rfl ?_ ?_
     rotate_left
     ·
      have c7 := HL7.out.b7.cell
      have f7 := HL7.out.b7.frozen
      have c8 := HL7.out.b8.cell
      have f8 := HL7.out.b8.frozen
      have c9 := HL7.out.b9.cell
      have f9 := HL7.out.b9.frozen
      go_simp
      rfl
     have HL8 := Aside0.mk (HL7.out.set9 0)
     have KF8 := Aside0.mk (KF7.out.trans ((KeepsOthers.setCell _ ⟨w.heap.size + 1 + 1 + 1, 0, none⟩ (.int .i64 0)).from _))
     have cn8 := (cell_same (a := ⟨w2.heap.size + 1, 0, none⟩) (Below.heap_setCell _ ⟨w.heap.size + 1 + 1 + 1, 0, none⟩ (.int .i64 0) (w2.heap.size + 1) (by show w2.heap.size + 1 ≠ w.heap.size + 1 + 1 + 1; omega))).trans cn7
     refine hK.out _ _ cn8 (fun hHeld => ?_)
     clear HL7 KF7 cn7 hK K
     refine done_ (by kernel_rfl) ?_
     gi_wp2
     exact ⟨KF8.out, ⟨rfl, fun h => absurd (h x (by simp)) (by have := HGE.out; omega)⟩, _, _, HL8.out⟩
    ·
     have hd4 : decide (wrap64 ((bsL l x : Int) + ((ob l x).f1.length : Int)) ≥ 16384) = false := by rw [hw]; exact decide_eq_false (by omega)
     have hd5 : (16384 ≤ wrap64 ((bsL l x : Int) + ((ob l x).f1.length : Int))) = False := by rw [hw]; exact eq_false (by omega)
     have HGE := Aside0.mk hge
     have cv := hv.cell
     have fv := hv.frozen
     obtain ⟨i0, hi, hz0, hz1, hz2⟩ := info_parts infoInt
     have hsW := hB1.size
     have hwp : wrap64 ((pre.length : Int) + 1) = ((pre.length + 1 : Nat) : Int) := by rw [wrap64_id (by have := HX.out; have := HLN.out; omega) (by have := HX.out; have := HLN.out; omega)]; rfl
     have HWP := Aside0.mk hwp
     clear hw hge hbl hcd hwp
     gi_wp2_with (gi_at_builtin; go_loud (refine wpListIn_append_own _ rfl _ _ 52 rfl (w2.heap.size + 1 + 1) 3 i0 (.int .i64 0) 1 8 Tryd.underlying52 hi hz0 hz1 hz2 rfl (by decide) _ _ _ rfl (hrow.alloc _) ⟨W.heap.size, 0, none⟩ 1 1 [.int .i64 (bsL l x : Int)] rfl rfl (cell_one_new _ _ _) (by simp [Value.oneCell']) (by have := HX.out; have := HLN.out; simp only [maxLen]; omega) (by have := HX.out; have := HLN.out; omega) (by have := hv.lt; simp; omega) ?_; intro v' w1' hown' hgrow _; have HG := Aside0.mk hgrow; obtain ⟨g', cap', rfl⟩ := ownsRow_succ hown'; obtain ⟨hv1, hv2, hr2, hk2, hb2⟩ := hv.appended (by decide) hrow (Nat.le_of_lt hv.lt) (Nat.le_refl _) hown' hgrow; have hc1 := hv1.cell; have hf1 := hv1.frozen; have q1' := ((q1.alloc _).kept HG.out (fun z => by have := row_ge hrow _ z.symm; omega)); have c1' := (q1'.other (B' := w2.heap.size + 1 + 1) (by omega) (.slice (some ⟨g', 0, none⟩) (pre.length + 1) cap')).cell; have f1' := (q1'.other (B' := w2.heap.size + 1 + 1) (by omega) (.slice (some ⟨g', 0, none⟩) (pre.length + 1) cap')).frozen; clear hgrow))
     have hv3 := hv2.other (B' := w2.heap.size + 1) (by omega) (.int .i64 ((pre.length + 1 : Nat) : Int))
     have hq3 := (q1'.other (B' := w2.heap.size + 1 + 1) (by omega) (.slice (some ⟨g', 0, none⟩) (pre.length + 1) cap')).set (.int .i64 ((pre.length + 1 : Nat) : Int))
     have hr3 := hr2.kept (grownBy_setCell' _ (w2.heap.size + 1) (.int .i64 ((pre.length + 1 : Nat) : Int))) (.inr (fun z => by have := row_ge hr2 _ z; omega))
     have q0' := blk_kept_ q0 (w2.heap.size + 1) (w2.heap.size + 1 + 1) (.int .i64 ((pre.length + 1 : Nat) : Int)) (.slice (some ⟨g', 0, none⟩) (pre.length + 1) cap') HG.out (fun z => by have := row_ge hrow _ z.symm; omega) (by omega) (by omega)
     rw [HWP.out]
     refine ⟨hk2.from _ |>.trans ((KeepsOthers.setCell _ _ _).from _), ⟨(hb2.mono (by omega)).setCell (p := ⟨w2.heap.size + 1, 0, none⟩) (Nat.le_succ _) _, (keepO_app hv (by decide) hrow (by decide) HG.out).trans (Boxed.keepO (q1'.other (B' := w2.heap.size + 1 + 1) (by omega) (.slice (some ⟨g', 0, none⟩) (pre.length + 1) cap')) (by decide) _)⟩, ⟨⟨⟨⟨_, hv3, ?_, by simp⟩, fun i hi => ?_⟩, ?_, q0'⟩, hB1.trans ((hb2.mono (by omega)).setCell (p := ⟨w2.heap.size + 1, 0, none⟩) (Nat.le_succ _) _)⟩⟩
     ·
      rw [List.length_append, List.map_append]
      exact hr3
     ·
      rcases List.mem_append.1 hi with h | h
      ·
       exact hok i h
      ·
       obtain rfl := List.mem_singleton.1 h
       have := HGE.out
       omega
     ·
      rw [List.length_append]
      exact hq3
   case done =>
    rintro D zs W hD rfl ⟨⟨⟨⟨v, hv, hrow, hnl⟩, hok⟩, q1, q0⟩, hB1⟩ hK
    rw [idx_len] at hrow
    have hbr : bigL l = false := by
     unfold bigL
     rw [List.any_eq_false]
     intro i hi
     have := hok i hi
     simp only [decide_eq_true_eq]
     omega
    have HBI := Aside0.mk hbr
    have HK := Aside0.mk hK
    have HD1 := Aside0.mk hD
    clear hok hbr hK hnl
    have hlw := HL.out.low
    have HLn := Aside0.mk (HL.out.below hB1)
    have HDn := Aside0.mk (Kd.S_below HD.out hB1)
    clear HL HD
    have HL := HLn
    have HD := HDn
    clear HLn HDn
    have c7 := HL.out.b7.cell
    have f7 := HL.out.b7.frozen
    have c8 := HL.out.b8.cell
    have f8 := HL.out.b8.frozen
    have c9 := HL.out.b9.cell
    have f9 := HL.out.b9.frozen
    obtain ⟨fr, hfr⟩ : ∃ fr, fillR l mem = fr := ⟨_, rfl⟩
    have HFI := Aside0.mk hfr
    clear hfr
    obtain ⟨fm, fe, fi, fn⟩ := fr
    have HROW := Aside0.mk hrow
    have HQ1 := Aside0.mk q1
    have HV := Aside0.mk hv
    have HQ0 := Aside0.mk q0
    have hDl : w2.heap.size + 1 + 1 + 1 + 1 ≤ D := by have := HD1.out; omega
    have hDL := (Array.getElem?_eq_some_iff.1 HK.out).1
    clear hrow q1 hv q0
    by_cases hfe : fe = 0
    case neg =>
     have hd6 : (fe != 0) = true := bne_iff_ne.mpr hfe
     have HFE := Aside0.mk hfe
     clear hfe
     go_wp2_with (first | (go_at_call 62; refine (fill.calls A0 c0 l mem _ (Kd.C_below HC.out HL.out.low) HLN.out (by have := HM.out.1; omega) (by have := HM.out.2; omega) HOK.out.dat).mono ?_; rintro e_ w4 ⟨mv, he_, hR_, hb_⟩; rw [HFI.out] at he_ hR_; subst he_; have HMV := Aside0.mk hR_; have HB4 := Aside0.mk hb_; replace HL := Aside0.mk (HL.out.below hb_); clear hR_ hb_ c7 f7 c8 f8 c9 f9; have c7 := HL.out.b7.cell; have f7 := HL.out.b7.frozen; have c8 := HL.out.b8.cell; have f8 := HL.out.b8.frozen; have c9 := HL.out.b9.cell; have f9 := HL.out.b9.frozen))
     have hkd : ((w4.setCell ⟨w.heap.size + 1, 0, none⟩ (.int .i64 fe)).drew).heap[D]? = some (.deferred (some [])) := (Below.heap_setCell w4 ⟨w.heap.size + 1, 0, none⟩ (.int .i64 fe) D (by show D ≠ w.heap.size + 1; omega)).trans ((HB4.out.block D hDL).trans HK.out)
     have HLd := Aside0.mk ((HL.out.set7 fe).below (below_drew (Below.refl _ _)))
     have c7d := HLd.out.b7.cell
     refine start_ (n := 8) (S := fun w' => w'.cell? ⟨w.heap.size + 1, 0, none⟩ = some (.int .i64 fe) ∧ w'.heap[D]? = some (.deferred (some []))) (ds := []) #[false, false, false, false, false, false, false, false] (by kernel_rfl) rfl rfl ⟨c7d, hkd⟩ (fun hHeld => ?_)
     skip
     refine pure_ (i := 0) (N := some 90) (v := ?_) (a' := ?_) #[true, false, false, false, false, false, false, false] rfl rfl (by kernel_rfl) (fun _ _ _ h => h) (Or.inl ⟨by rfl, ?_⟩) ?_ ?_
     rotate_left; · intro w'; go_simp; with_reducible rfl
     rotate_left; · simp only [Act.put, List.setIfInBounds_toArray, List.set_cons_zero, List.set_cons_succ, i64_w, i32_w]; rfl
     refine take_ (i := 1) (N := some 91) (v := ?_) (a' := ?_) #[true, true, false, false, false, false, false, false] rfl rfl (by kernel_rfl) (fun _ _ _ h => h) (Or.inl ⟨by rfl, ?_⟩) hHeld ?_ ?_
     rotate_left; · rintro w' ⟨s0, s1⟩; go_simp; with_reducible rfl
     rotate_left; · simp only [Act.put, List.setIfInBounds_toArray, List.set_cons_zero, List.set_cons_succ, i64_w, i32_w]; rfl
     refine pure_ (i := 2) (N := some 92) (v := ?_) (a' := ?_) #[true, true, true, false, false, false, false, false] rfl rfl (by kernel_rfl) (fun _ _ _ h => h) (Or.inl ⟨by rfl, ?_⟩) ?_ ?_
     rotate_left; · intro w'; go_simp; with_reducible rfl
     rotate_left; · simp only [Act.put, List.setIfInBounds_toArray, List.set_cons_zero, List.set_cons_succ, i64_w, i32_w]; rfl
     refine pure_ (i := 3) (N := some 93) (v := ?_) (a' := ?_) #[true, true, true, true, false, false, false, false] rfl rfl (by kernel_rfl) (fun _ _ _ h => h) (Or.inl ⟨by rfl, ?_⟩) ?_ ?_
     rotate_left; · intro w'; go_simp; with_reducible rfl
     rotate_left; · simp only [Act.put, List.setIfInBounds_toArray, List.set_cons_zero, List.set_cons_succ, i64_w, i32_w]; rfl
     refine one_ (i := 4) (N := none) #[true, true, true, true, true, false, false, false] rfl rfl (by kernel_rfl) (by decide) (fun K hK => ?_)
     refine step_whole rfl rfl rfl w.heap.size zImg zImg 46 rfl rfl HLd.out.b6 (by kernel_rfl) rfl zImg_one ?_
     intro w5_ hp_
     have HL5 := Aside0.mk (HLd.out.same hp_)
     have hk5 := ((put_grownN hp_).block D (Array.getElem?_eq_some_iff.1 hkd).1 (fun z => by have := Option.some.inj z; omega)).trans hkd
     refine hK.out _ _ ⟨HL5.out.b7.cell, hk5⟩ (fun hHeld => ?_)
     clear hp_ HLd
     clear hK K
     refine one_ (i := 5) (N := none) #[true, true, true, true, true, true, false, false] rfl rfl (by kernel_rfl) (by decide) (fun K hK => ?_)
     refine skip_ (w1 := ?_) (by rfl) rfl ?_ ?_
     rotate_left
     ·
      have c7 := HL5.out.b7.cell
      have f7 := HL5.out.b7.frozen
      have c8 := HL5.out.b8.cell
      have f8 := HL5.out.b8.frozen
      have c9 := HL5.out.b9.cell
      have f9 := HL5.out.b9.frozen
      go_simp
      rfl
     have hk6 := (Below.heap_setCell _ ⟨w.heap.size + 1, 0, none⟩ (.int .i64 fe) D (by show D ≠ w.heap.size + 1; omega)).trans hk5
     have HL6 := Aside0.mk (HL5.out.set7 fe)
     refine hK.out _ _ ⟨HL6.out.b7.cell, hk6⟩ (fun hHeld => ?_)
     clear HL5
     clear hK K
     refine one_ (i := 6) (N := none) #[true, true, true, true, true, true, true, false] rfl rfl (by kernel_rfl) (by decide) (fun K hK => ?_)
     refine skip_ (w1 := ?_) (by rfl) rfl ?_ ?_
     rotate_left
     ·
      have c7 := HL6.out.b7.cell
      have f7 := HL6.out.b7.frozen
      have c8 := HL6.out.b8.cell
      have f8 := HL6.out.b8.frozen
      have c9 := HL6.out.b9.cell
      have f9 := HL6.out.b9.frozen
      go_simp
      rfl
     have hk7 := (Below.heap_setCell _ ⟨w.heap.size + 1 + 1, 0, none⟩ (.int .i64 fi) D (by show D ≠ w.heap.size + 1 + 1; omega)).trans hk6
     have HL7 := Aside0.mk (HL6.out.set8 fi)
     refine hK.out _ _ ⟨HL7.out.b7.cell, hk7⟩ (fun hHeld => ?_)
     clear HL6
     clear hK K
     refine one_ (i := 7) (N := none) #[true, true, true, true, true, true, true, true] rfl rfl (by kernel_rfl) (by decide) (fun K hK => ?_)
     refine skip_ (w1 := ?_) (by rfl) rfl ?_ ?_
     rotate_left
     ·
      have c7 := HL7.out.b7.cell
      have f7 := HL7.out.b7.frozen
      have c8 := HL7.out.b8.cell
      have f8 := HL7.out.b8.frozen
      have c9 := HL7.out.b9.cell
      have f9 := HL7.out.b9.frozen
      go_simp
      rfl
     have hk8 := (Below.heap_setCell _ ⟨w.heap.size + 1 + 1 + 1, 0, none⟩ (.int .i64 fn) D (by show D ≠ w.heap.size + 1 + 1 + 1; omega)).trans hk7
     have HL8 := Aside0.mk (HL7.out.set9 fn)
     refine hK.out _ _ ⟨HL8.out.b7.cell, hk8⟩ (fun hHeld => ?_)
     clear HL7
     clear hK K
     refine done_ (by kernel_rfl) ?_
     go_wp2
     refine leaf_err2 hk8 (by omega) rfl rfl rfl rfl HL8.out ?_ HFE.out (fun _ _ h => absurd rfl h)
     unfold errL
     rw [if_neg (show ¬ mem < 0 by have := HM.out.1; omega), if_neg (show ¬ mem > 4096 by have := HM.out.2; omega), if_neg (by decide), if_neg (by rw [HF.out]; intro z; cases z), if_neg (by rw [HBI.out]; decide), HFI.out]
    case pos =>
     subst hfe
     go_wp2_with (first | (go_at_call 62; refine (fill.calls A0 c0 l mem _ (Kd.C_below HC.out HL.out.low) HLN.out (by have := HM.out.1; omega) (by have := HM.out.2; omega) HOK.out.dat).mono ?_; rintro e_ w4 ⟨mv, he_, hR_, hb_⟩; rw [HFI.out] at he_ hR_; subst he_; have HMV := Aside0.mk hR_; have HB4 := Aside0.mk hb_; replace HL := Aside0.mk (HL.out.below hb_); clear hR_ hb_ c7 f7 c8 f8 c9 f9; have c7 := HL.out.b7.cell; have f7 := HL.out.b7.frozen; have c8 := HL.out.b8.cell; have f8 := HL.out.b8.frozen; have c9 := HL.out.b9.cell; have f9 := HL.out.b9.frozen))
     have hbR : Kd.R (Kd.int .i64) 3 W (w2.heap.size + 1 + 1) (fun _ => True) v (BL l) := by
      refine Kd.R_of_own ?_ (fun _ _ => trivial)
      rw [BL_len]
      show World.ownsRow _ _ _ _ _ _ (List.map _ (List.map _ _))
      rw [List.map_map]
      exact HROW.out
     have HR4 := Aside0.mk (Kd.R_below hbR HB4.out)
     have HR5 := Aside0.mk (Kd.R_grown1 HR4.out rfl (grownBy_setCell' w4 (w.heap.size + 1) (.int .i64 0)) (Kd.R_ne HR4.out HL.out.b7 (by decide)))
     have HM5 := Aside0.mk (Kd.R_grown1 HMV.out rfl (grownBy_setCell' w4 (w.heap.size + 1) (.int .i64 0)) (Kd.R_ne HMV.out HL.out.b7 (by decide)))
     have HD5 := Aside0.mk (Kd.S_set (Kd.S_below HD.out HB4.out) HL.out.b7 (by decide) 0 (.int .i64 0))
     have HV5 := Aside0.mk ((Boxed.below_ HV.out HB4.out).other (B' := w.heap.size + 1) (by omega) (.int .i64 0))
     have HQ5 := Aside0.mk ((Below.heap_setCell w4 ⟨w.heap.size + 1, 0, none⟩ (.int .i64 0) w2.heap.size (by show w2.heap.size ≠ w.heap.size + 1; omega)).trans (blk_below HQ0.out HB4.out))
     have HK5 := Aside0.mk ((Below.heap_setCell w4 ⟨w.heap.size + 1, 0, none⟩ (.int .i64 0) D (by show D ≠ w.heap.size + 1; omega)).trans ((HB4.out.block D hDL).trans HK.out))
     have HL5 := Aside0.mk (HL.out.set7 0)
     have hlm : W.heap.size ≤ w4.heap.size := HB4.out.size
     clear hbR HR4 HMV HD HV HQ0 HQ1 HROW HK HL HB4 c7 f7 c8 f8 c9 f9 hB1
     obtain ⟨w5, hw5⟩ : ∃ w5, w4.setCell ⟨w.heap.size + 1, 0, none⟩ (.int .i64 0) = w5 := ⟨_, rfl⟩
     rw [hw5] at HR5 HM5 HD5 HV5 HQ5 HK5 HL5 ⊢
     clear hw5
     obtain ⟨hfo0, hfo1, hfo2, hfo3⟩ := HFO.out (by rw [HF.out])
     rw [HF.out] at hfo0 hfo1 hfo2 hfo3
     simp only at hfo0 hfo1 hfo2 hfo3
     obtain ⟨Am, cm, em⟩ := Kd.R_slice HM5.out
     subst em
     obtain ⟨Av, cv, ev⟩ := Kd.R_slice HR5.out
     subst ev
     rw [BL_len] at HR5 HV5
     have hrd := Kd.R_reads' HR5.out
     obtain ⟨av, eav, hcb⟩ := Kd.at_int hrd.2.2 f0 hfo0 (by rw [BL_len]; exact hfo1)
     subst eav
     obtain ⟨gb, eg⟩ := Kd.R_head HR5.out
     subst eg
     rw [rd_BL hfo0 hfo1] at hcb
     have p7 := eq_true hfo0
     have q7 := eq_true hfo1
     have hcb : w5.cell? ⟨gb, f0.toNat, none⟩ = some (.int .i64 (baseL l f0.toNat : Int)) := (by rw [show (⟨gb, f0.toNat, none⟩ : Addr) = (⟨gb, 0, none⟩ : Addr).add f0.toNat by simp [Addr.add]]; exact hcb)
     have hcv := HV5.out.cell
     have hq50 := blk_cell HQ5.out 0
     have hq51 := blk_cell HQ5.out 1
     have HEN := Aside0.mk (show wrap64 ((baseL l f0.toNat : Int) + f1) = (baseL l f0.toNat : Int) + f1 by
      have h_ := bsL_le HCL.out HLN.out f0.toNat
      rw [bsL_eq (by omega)] at h_
      exact wrap64_id (by omega) (by omega))
     have HFOb := Aside0.mk (And.intro hfo0 (And.intro hfo1 (And.intro hfo2 hfo3)))
     clear hfo0 hfo1 hfo2 hfo3 hrd
     obtain ⟨en, hen⟩ : ∃ en, wrap64 ((baseL l f0.toNat : Int) + f1) = en := ⟨_, rfl⟩
     rw [hen] at HEN
     refine wp_mono (Q := onlyN (fun a_ w_ => ∃ gp g20, a_ = { tmps := #[.slice A0 l.length c0, .string entry, .int .i64 mem, undef, undef, undef, .pointer (some ⟨w.heap.size, 0, none⟩), .pointer (some ⟨w.heap.size + 1, 0, none⟩), .pointer (some ⟨w.heap.size + 1 + 1, 0, none⟩), .pointer (some ⟨w.heap.size + 1 + 1 + 1, 0, none⟩), dv, .int .i64 fi, .int .i64 fn, .pointer (some ⟨w2.heap.size, 0, none⟩), .bool true, .pointer (some ⟨w2.heap.size + 1, 0, none⟩), .pointer (some ⟨w2.heap.size + 1 + 1, 0, none⟩), undef, undef, .slice Am fm.length cm, .pointer (some ⟨g20, 0, none⟩), undef, undef, undef, undef, undef, undef, undef, undef, undef, undef, undef, undef, .int .i64 mem, .bool false, .bool false, .int .i64 mem, .bool false, .bool false, undef, .tuple #[dv, .int .i64 0, .int .i64 r3, .int .i64 r4], .slice A0 l.length c0, .tuple #[dv, .int .i64 0, .int .i64 r3, .int .i64 r4], dv, .int .i64 0, .int .i64 r3, .int .i64 r4, .int .i64 0, .bool false, undef, undef, undef, undef, .tuple #[.agg #[.int .i64 f0, .int .i64 f1], .bool true], .slice A0 l.length c0, .string entry, .tuple #[.agg #[.int .i64 f0, .int .i64 f1], .bool true], .agg #[.int .i64 f0, .int .i64 f1], .bool true, .bool true, .bool false, undef, .slice A0 l.length c0, .func (.func 77) #[] #[.pointer (some ⟨w2.heap.size + 1 + 1 + 1, 0, none⟩)], undef, undef, undef, undef, undef, undef, undef, undef, undef, undef, undef, undef, undef, undef, undef, undef, .tuple #[.slice Am fm.length cm, .int .i64 0, .int .i64 fi, .int .i64 fn], .slice A0 l.length c0, .int .i64 mem, .tuple #[.slice Am fm.length cm, .int .i64 0, .int .i64 fi, .int .i64 fn], .slice Am fm.length cm, .int .i64 0, .int .i64 fi, .int .i64 fn, .int .i64 0, .bool false, undef, undef, undef, undef, .slice (some ⟨gb, 0, none⟩) l.length cv, .pointer (some ⟨w2.heap.size, 0, none⟩), .int .i64 f0, .pointer (some ⟨gb, f0.toNat, none⟩), .int .i64 (baseL l f0.toNat : Int), .pointer (some ⟨w2.heap.size, 1, none⟩), .int .i64 f1, .int .i64 (wrap64 ((baseL l f0.toNat : Int) + f1)), .slice Am fm.length cm, .agg #[.slice none 0 0, .int .i64 en, .slice Am fm.length cm], .agg #[.slice none 0 0, .int .i64 en, .slice Am fm.length cm], .pointer (some ⟨gp, 0, none⟩), undef, undef, undef, undef, undef, undef, undef, undef, undef, undef, undef, undef, undef, undef, undef, undef, undef, undef, undef, undef, undef, undef, undef, undef, undef, undef, undef, undef, undef, undef, undef, undef, undef, undef, undef, undef, undef, undef, undef, undef, undef, undef, undef, undef, undef, undef, undef, undef, undef, undef, undef, undef, undef, undef, undef, undef, undef, undef, undef, undef, undef, undef, undef, undef, undef, undef, undef, undef, undef, undef, undef, undef, undef, undef, undef, undef, undef, undef, undef, undef, undef, undef, undef, undef, undef, undef, undef, undef], defers := [{ target := .collected D, args := #[] }] } ∧ Pat w5 w_ gp g20 (.slice none 0 0) en (.slice Am fm.length cm))) ?r21 ?_
     case r21 =>
      refine start_ (n := 14) (S := fun w' => S21 w2.heap.size gb l.length cv f0 f1 (baseL l f0.toNat : Int) w') (ds := [13]) #[false, false, false, false, false, false, false, false, false, false, false, false, false, false] (by kernel_rfl) rfl rfl ⟨hcv, hq50, hq51, hcb⟩ (fun hHeld => ?_)
      refine take_ (i := 0) (N := some 94) (v := ?_) (a' := ?_) #[true, false, false, false, false, false, false, false, false, false, false, false, false, false] rfl rfl (by kernel_rfl) (fun _ _ _ h => h) (Or.inl ⟨by rfl, ?_⟩) hHeld ?_ ?_
      rotate_left; · rintro w' ⟨s0, s1, s2, s3⟩; go_simp; with_reducible rfl
      rotate_left; · simp only [Act.put, List.setIfInBounds_toArray, List.set_cons_zero, List.set_cons_succ, i64_w, i32_w]; rfl
      refine pure_ (i := 1) (N := some 95) (v := ?_) (a' := ?_) #[true, true, false, false, false, false, false, false, false, false, false, false, false, false] rfl rfl (by kernel_rfl) (fun _ _ _ h => h) (Or.inl ⟨by rfl, ?_⟩) ?_ ?_
      rotate_left; · intro w'; go_simp; with_reducible rfl
      rotate_left; · simp only [Act.put, List.setIfInBounds_toArray, List.set_cons_zero, List.set_cons_succ, i64_w, i32_w]; rfl
      refine take_ (i := 2) (N := some 96) (v := ?_) (a' := ?_) #[true, true, true, false, false, false, false, false, false, false, false, false, false, false] rfl rfl (by kernel_rfl) (fun _ _ _ h => h) (Or.inl ⟨by rfl, ?_⟩) hHeld ?_ ?_
      rotate_left; · rintro w' ⟨s0, s1, s2, s3⟩; go_simp; with_reducible rfl
      rotate_left; · simp only [Act.put, List.setIfInBounds_toArray, List.set_cons_zero, List.set_cons_succ, i64_w, i32_w]; rfl
      refine pure_ (i := 3) (N := some 97) (v := ?_) (a' := ?_) #[true, true, true, true, false, false, false, false, false, false, false, false, false, false] rfl rfl (by kernel_rfl) (fun _ _ _ h => h) (Or.inl ⟨by rfl, ?_⟩) ?_ ?_
      rotate_left; · intro w'; go_simp; with_reducible rfl
      rotate_left; · simp only [Act.put, List.setIfInBounds_toArray, List.set_cons_zero, List.set_cons_succ, i64_w, i32_w]; rfl
      refine take_ (i := 4) (N := some 98) (v := ?_) (a' := ?_) #[true, true, true, true, true, false, false, false, false, false, false, false, false, false] rfl rfl (by kernel_rfl) (fun _ _ _ h => h) (Or.inl ⟨by rfl, ?_⟩) hHeld ?_ ?_
      rotate_left; · rintro w' ⟨s0, s1, s2, s3⟩; go_simp; with_reducible rfl
      rotate_left; · simp only [Act.put, List.setIfInBounds_toArray, List.set_cons_zero, List.set_cons_succ, i64_w, i32_w]; rfl
      refine pure_ (i := 5) (N := some 99) (v := ?_) (a' := ?_) #[true, true, true, true, true, true, false, false, false, false, false, false, false, false] rfl rfl (by kernel_rfl) (fun _ _ _ h => h) (Or.inl ⟨by rfl, ?_⟩) ?_ ?_
      rotate_left; · intro w'; go_simp; with_reducible rfl
      rotate_left; · simp only [Act.put, List.setIfInBounds_toArray, List.set_cons_zero, List.set_cons_succ, i64_w, i32_w]; rfl
      refine take_ (i := 6) (N := some 100) (v := ?_) (a' := ?_) #[true, true, true, true, true, true, true, false, false, false, false, false, false, false] rfl rfl (by kernel_rfl) (fun _ _ _ h => h) (Or.inl ⟨by rfl, ?_⟩) hHeld ?_ ?_
      rotate_left; · rintro w' ⟨s0, s1, s2, s3⟩; go_simp; with_reducible rfl
      rotate_left; · simp only [Act.put, List.setIfInBounds_toArray, List.set_cons_zero, List.set_cons_succ, i64_w, i32_w]; rfl
      refine pure_ (i := 7) (N := some 101) (v := ?_) (a' := ?_) #[true, true, true, true, true, true, true, true, false, false, false, false, false, false] rfl rfl (by kernel_rfl) (fun _ _ _ h => h) (Or.inl ⟨by rfl, ?_⟩) ?_ ?_
      rotate_left; · intro w'; go_simp; first | (with_reducible rfl) | (rw [i64_w, hen]; with_reducible rfl) | (rw [hen]; with_reducible rfl)
      rotate_left; · simp only [Act.put, List.setIfInBounds_toArray, List.set_cons_zero, List.set_cons_succ, i64_w, i32_w]; rfl
      refine pure_ (i := 8) (N := some 102) (v := ?_) (a' := ?_) #[true, true, true, true, true, true, true, true, true, false, false, false, false, false] rfl rfl (by kernel_rfl) (fun _ _ _ h => h) (Or.inl ⟨by rfl, ?_⟩) ?_ ?_
      rotate_left; · intro w'; go_simp; with_reducible rfl
      rotate_left; · simp only [Act.put, List.setIfInBounds_toArray, List.set_cons_zero, List.set_cons_succ, i64_w, i32_w]; rfl
      refine pure_ (i := 9) (N := some 103) (v := ?_) (a' := ?_) #[true, true, true, true, true, true, true, true, true, true, false, false, false, false] rfl rfl (by kernel_rfl) (fun _ _ _ h => h) (Or.inl ⟨by rfl, ?_⟩) ?_ ?_
      rotate_left; · intro w'; go_simp; with_reducible rfl
      rotate_left; · simp only [Act.put, List.setIfInBounds_toArray, List.set_cons_zero, List.set_cons_succ, i64_w, i32_w]; rfl
      refine pure_ (i := 10) (N := some 104) (v := ?_) (a' := ?_) #[true, true, true, true, true, true, true, true, true, true, true, false, false, false] rfl rfl (by kernel_rfl) (fun _ _ _ h => h) (Or.inl ⟨by rfl, ?_⟩) ?_ ?_
      rotate_left; · intro w'; go_simp; with_reducible rfl
      rotate_left; · simp only [Act.put, List.setIfInBounds_toArray, List.set_cons_zero, List.set_cons_succ, i64_w, i32_w]; rfl
      have HS0 := Aside0.mk hHeld
      have HLO := Aside0.mk (show Below w5.heap.size w5 w5.drew from below_drew (Below.refl _ _))
      refine two_ (i := 11) (j := 12) (Ni := some 105) (Nj := some 20) #[true, true, true, true, true, true, true, true, true, true, true, true, false, false] #[true, true, true, true, true, true, true, true, true, true, true, false, true, false] rfl rfl rfl rfl (by kernel_rfl) (by decide) (by decide) (fun K hK => ?_) (fun K hK => ?_)
      ·
       refine value_ (w1 := ?_) (v := ?_) (by rfl) rfl ?_ ?_
       rotate_left 2
       ·
        go_simp
        constructor
        ·
         rfl
        ·
         rfl
       refine hK.out _ _ (HS0.out.alloc _) (fun hHeld => ?_)
       clear hK K
       refine norm_ (a' := ?_) ?_ ?_
       rotate_left; · show Act.put _ (some 105) _ = _; simp only [Act.put, List.setIfInBounds_toArray, List.set_cons_zero, List.set_cons_succ, i64_w, i32_w]; rfl
       refine one_ (i := 12) (N := some 20) #[true, true, true, true, true, true, true, true, true, true, true, true, true, false] rfl rfl (by kernel_rfl) (by decide) (fun K hK => ?_)
       refine value_ (w1 := ?_) (v := ?_) (by rfl) rfl ?_ ?_
       rotate_left 2
       ·
        go_simp
        constructor
        ·
         rfl
        ·
         rfl
       refine hK.out _ _ ((HS0.out.alloc _).alloc _) (fun hHeld => ?_)
       clear hK K
       refine norm_ (a' := ?_) ?_ ?_
       rotate_left; · show Act.put _ (some 20) _ = _; simp only [Act.put, List.setIfInBounds_toArray, List.set_cons_zero, List.set_cons_succ, i64_w, i32_w]; rfl
       refine last_ (i := 13) (N := none) #[true, true, true, true, true, true, true, true, true, true, true, true, true, true] rfl rfl (by kernel_rfl) (by decide) (fun K hK => ?_)
       refine skip_ (w1 := ?_) (by rfl) rfl ?_ ?_
       rotate_left
       ·
        go_simp
        rfl
       refine hK.out _ _ ?_
       clear hK K
       refine done_ (by kernel_rfl) ?_
       exact ⟨_, _, rfl, Pat.pb w5 en (.slice Am fm.length cm)⟩
      ·
       refine value_ (w1 := ?_) (v := ?_) (by rfl) rfl ?_ ?_
       rotate_left 2
       ·
        go_simp
        constructor
        ·
         rfl
        ·
         rfl
       refine hK.out _ _ (HS0.out.alloc _) (fun hHeld => ?_)
       clear hK K
       refine norm_ (a' := ?_) ?_ ?_
       rotate_left; · show Act.put _ (some 20) _ = _; simp only [Act.put, List.setIfInBounds_toArray, List.set_cons_zero, List.set_cons_succ, i64_w, i32_w]; rfl
       refine one_ (i := 11) (N := some 105) #[true, true, true, true, true, true, true, true, true, true, true, true, true, false] rfl rfl (by kernel_rfl) (by decide) (fun K hK => ?_)
       refine value_ (w1 := ?_) (v := ?_) (by rfl) rfl ?_ ?_
       rotate_left 2
       ·
        go_simp
        constructor
        ·
         rfl
        ·
         rfl
       refine hK.out _ _ ((HS0.out.alloc _).alloc _) (fun hHeld => ?_)
       clear hK K
       refine norm_ (a' := ?_) ?_ ?_
       rotate_left; · show Act.put _ (some 105) _ = _; simp only [Act.put, List.setIfInBounds_toArray, List.set_cons_zero, List.set_cons_succ, i64_w, i32_w]; rfl
       refine last_ (i := 13) (N := none) #[true, true, true, true, true, true, true, true, true, true, true, true, true, true] rfl rfl (by kernel_rfl) (by decide) (fun K hK => ?_)
       refine skip_ (w1 := ?_) (by rfl) rfl ?_ ?_
       rotate_left
       ·
        go_simp
        rfl
       refine hK.out _ _ ?_
       clear hK K
       refine done_ (by kernel_rfl) ?_
       exact ⟨_, _, rfl, Pat.bp w5 en (.slice Am fm.length cm)⟩
     clear hen hcv hq50 hq51 hcb p7 q7
     rintro e6 a6 w6 h6
     cases e6 with
     | exit _ => exact h6.elim
     | goto _ => exact h6.elim
     | ret => exact h6.elim
     | panic _ => exact h6.elim
     | outgrown => exact h6.elim
     | normal =>
      obtain ⟨gp, g20, rfl, hpat⟩ := h6
      have HP6 := Aside0.mk hpat
      clear hpat
      go_wp2_with (first | ((with_reducible refine gate_dst (N := 21) rfl ?_); refine box_event ?hg (N := 21) ?hd (cs := #[.nilFunc]) (t := 124) ?hr ?_; (case hd => rfl); (case hg => rfl); (case hr => first | (go_simp; done) | (go_simp; rfl)); intro g21 hg_ w6a BK_ hb_; have HG21 := Aside0.mk BK_; have HGB := Aside0.mk hg_; have HB6 := Aside0.mk hb_; clear BK_ hg_ hb_) | ((with_reducible refine gate_store (t := 124) rfl ?_); refine wpList_store_cell rfl rfl rfl g21 .nilFunc (.func (.func 63) #[] #[]) 124 rfl rfl HG21.out (by kernel_rfl) rfl ?_; intro w6b hp_; replace HG21 := Aside0.mk (show Boxed w6b g21 124 (.func (.func 63) #[] #[]) from hp_.blk); replace HB6 := Aside0.mk (hp_.below HB6.out (Nat.le_of_eq HGB.out.symm)); clear hp_) | (go_at_call 61; refine (callsIn_wide.1 (lay_in Fence.wide 1 trivial rfl A0 l.length c0 _)).mono ?_; rintro e_ w_ ⟨rfl, rfl⟩))
      have g2 := Boxed.new w6b 43 (.slice A0 l.length c0)
      have g1' := HG21.out.alloc (.cells #[.slice A0 l.length c0] 43)
      obtain ⟨W7, hW7⟩ : ∃ W7, (w6b.alloc (.cells #[.slice A0 l.length c0] 43)) = W7 := ⟨_, rfl⟩
      have hB7 : Below w6.heap.size w6 W7 := by rw [← hW7]; exact HB6.out.alloc HB6.out.size _
      have hsz7 : W7.heap.size = w6b.heap.size + 1 := by rw [← hW7]; simp
      have h66 := HB6.out.size
      rw [hW7] at g1' g2 ⊢
      clear hW7
      have h56 : w5.heap.size ≤ w6.heap.size := HP6.out.low.size
      have hw5 : w.heap.size ≤ w5.heap.size := HL5.out.low.size
      have hT0 : TX w5 gp g20 g21 en (.slice Am fm.length cm) (textL l 0) W7 := ⟨_, HP6.out.below hB7, g1', Kd.R_nil _ _ _ _ _⟩
      have hlow7 : Below w.heap.size w W7 := below_then (below_then HL5.out.low HL5.out.low.size HP6.out.low) (by omega) hB7
      refine (wpIn_wide (n := 6)).1 ?_
      refine range_all rfl (by decide) (gf := 77) (lb := #[.pointer (some ⟨w6b.heap.size, 0, none⟩)]) rfl trivial (enters_of Tryd.func77 (by kernel_rfl) rfl)
       (lay_all Fence.wide 5 trivial rfl (by decide) w6b.heap.size w5.heap.size A0 c0 l w W7 hw5 (by omega) P HP.out HLN.out HCL.out hlow7 (by omega) g2.cell) KpO.t (KpO.b (by omega)) (Below.refl _ _) (fun _ => rfl)
       (fun k W => TX w5 gp g20 g21 en (.slice Am fm.length cm) (textL l k) W) (fun s A B row hs hg hr => TX.own (B := W7.heap.size) (by omega) hs hg hr) hT0
       (fun k a' W => ∃ Bx, (TX w5 gp g20 g21 en (.slice Am fm.length cm) (textL l k) W ∧ bxO l P k W Bx) ∧ a' = { tmps := #[.slice A0 l.length c0, .string entry, .int .i64 mem, undef, undef, undef, .pointer (some ⟨w.heap.size, 0, none⟩), .pointer (some ⟨w.heap.size + 1, 0, none⟩), .pointer (some ⟨w.heap.size + 1 + 1, 0, none⟩), .pointer (some ⟨w.heap.size + 1 + 1 + 1, 0, none⟩), dv, .int .i64 fi, .int .i64 fn, .pointer (some ⟨w2.heap.size, 0, none⟩), .bool true, .pointer (some ⟨w2.heap.size + 1, 0, none⟩), .pointer (some ⟨w2.heap.size + 1 + 1, 0, none⟩), undef, undef, .slice Am fm.length cm, .pointer (some ⟨g20, 0, none⟩), .pointer (some ⟨g21, 0, none⟩), .int .i64 (bsL l k : Int), .pointer (some ⟨Bx, 0, none⟩), undef, undef, undef, undef, undef, undef, undef, undef, undef, .int .i64 mem, .bool false, .bool false, .int .i64 mem, .bool false, .bool false, undef, .tuple #[dv, .int .i64 0, .int .i64 r3, .int .i64 r4], .slice A0 l.length c0, .tuple #[dv, .int .i64 0, .int .i64 r3, .int .i64 r4], dv, .int .i64 0, .int .i64 r3, .int .i64 r4, .int .i64 0, .bool false, undef, undef, undef, undef, .tuple #[.agg #[.int .i64 f0, .int .i64 f1], .bool true], .slice A0 l.length c0, .string entry, .tuple #[.agg #[.int .i64 f0, .int .i64 f1], .bool true], .agg #[.int .i64 f0, .int .i64 f1], .bool true, .bool true, .bool false, undef, .slice A0 l.length c0, .func (.func 77) #[] #[.pointer (some ⟨w2.heap.size + 1 + 1 + 1, 0, none⟩)], undef, undef, undef, undef, undef, undef, undef, undef, undef, undef, undef, undef, undef, undef, undef, undef, .tuple #[.slice Am fm.length cm, .int .i64 0, .int .i64 fi, .int .i64 fn], .slice A0 l.length c0, .int .i64 mem, .tuple #[.slice Am fm.length cm, .int .i64 0, .int .i64 fi, .int .i64 fn], .slice Am fm.length cm, .int .i64 0, .int .i64 fi, .int .i64 fn, .int .i64 0, .bool false, undef, undef, undef, undef, .slice (some ⟨gb, 0, none⟩) l.length cv, .pointer (some ⟨w2.heap.size, 0, none⟩), .int .i64 f0, .pointer (some ⟨gb, f0.toNat, none⟩), .int .i64 (baseL l f0.toNat : Int), .pointer (some ⟨w2.heap.size, 1, none⟩), .int .i64 f1, .int .i64 (wrap64 ((baseL l f0.toNat : Int) + f1)), .slice Am fm.length cm, .agg #[.slice none 0 0, .int .i64 en, .slice Am fm.length cm], .agg #[.slice none 0 0, .int .i64 en, .slice Am fm.length cm], .pointer (some ⟨gp, 0, none⟩), .slice A0 l.length c0, .func (.func 77) #[] #[.pointer (some ⟨w6b.heap.size, 0, none⟩)], .int .i64 (bsL l k : Int), .agg (objV (ob l k) (P k)), undef, undef, undef, undef, undef, undef, undef, undef, undef, undef, undef, undef, undef, undef, undef, undef, undef, undef, undef, undef, undef, undef, undef, undef, undef, undef, undef, undef, undef, undef, undef, undef, undef, undef, undef, undef, undef, undef, undef, undef, undef, undef, undef, undef, undef, undef, undef, undef, undef, undef, undef, undef, undef, undef, undef, undef, undef, undef, undef, undef, undef, undef, undef, undef, undef, undef, undef, undef, undef, undef, undef, undef, undef, undef, undef, undef, undef, undef, undef, undef, undef, undef, undef, undef], defers := [] })
       (fun a' k X Y row hs hg hr => by obtain ⟨Bx, ⟨q1, q2⟩, q3⟩ := hs; exact ⟨Bx, ⟨TX.own (B := W7.heap.size) (by omega) q1 hg hr, bxO_own q2 hg hr⟩, q3⟩)
       ?assign ?body ?done
      case assign =>
       rintro lr k W K hi hkl hK
       have hsW := (show w5.heap.size ≤ W.heap.size by obtain ⟨_, q, _⟩ := hi; exact q.low.size)
       dsimp only [encB, objV]
       gi_wp2
       exact hK _ _ ((KeepsOthers.alloc _ _).from _) ⟨(Below.refl _ W).alloc hsW _, KeepO.alloc _⟩ ⟨W.heap.size, ⟨hi.below (below_alloc (Below.refl _ _) _), (MapKept.heap_alloc W _).1⟩, rfl⟩
      case body =>
       rintro lr k a' W ⟨Bx, ⟨⟨vT, hpt, hg21, hrt⟩, bX⟩, rfl⟩ hlt
       obtain ⟨AT, cT, eT⟩ := Kd.R_slice hrt
       subst eT
       have hbk := big_not HBI.out hlt
       have HGS := Aside0.mk (show GS w5 W gp g20 g21 en (.slice Am fm.length cm) Bx (objV (ob l k) (P k)) (.slice AT (textL l k).length cT) W from ⟨hpt, hg21, bX, St.refl _ _⟩)
       have HRT := Aside0.mk hrt
       have HLT := Aside0.mk hlt
       have HBK := Aside0.mk hbk
       have HCK := Aside0.mk (Kd.C_below (HP.out k hlt).r1.2 (below_then HL5.out.low HL5.out.low.size hpt.low))
       have hcs := HGS.out.cells
       obtain ⟨bs, hbs⟩ : ∃ bs : Int, ((bsL l k : Nat) : Int) = bs := ⟨_, rfl⟩
       rw [hbs]
       have HBS := Aside0.mk hbs
       clear hpt hg21 hrt bX hlt hbk hbs
       gi_wp2
       refine wpIn_mono (Q := onlyN (fun a_ w_ => ∃ v8 v9 v10, a_ = { tmps := #[.slice A0 l.length c0, .string entry, .int .i64 mem, undef, undef, undef, .pointer (some ⟨w.heap.size, 0, none⟩), .pointer (some ⟨w.heap.size + 1, 0, none⟩), .pointer (some ⟨w.heap.size + 1 + 1, 0, none⟩), .pointer (some ⟨w.heap.size + 1 + 1 + 1, 0, none⟩), dv, .int .i64 fi, .int .i64 fn, .pointer (some ⟨w2.heap.size, 0, none⟩), .bool true, .pointer (some ⟨w2.heap.size + 1, 0, none⟩), .pointer (some ⟨w2.heap.size + 1 + 1, 0, none⟩), undef, undef, .slice Am fm.length cm, .pointer (some ⟨g20, 0, none⟩), .pointer (some ⟨g21, 0, none⟩), .int .i64 bs, .pointer (some ⟨Bx, 0, none⟩), undef, undef, undef, undef, undef, undef, undef, undef, undef, .int .i64 mem, .bool false, .bool false, .int .i64 mem, .bool false, .bool false, undef, .tuple #[dv, .int .i64 0, .int .i64 r3, .int .i64 r4], .slice A0 l.length c0, .tuple #[dv, .int .i64 0, .int .i64 r3, .int .i64 r4], dv, .int .i64 0, .int .i64 r3, .int .i64 r4, .int .i64 0, .bool false, undef, undef, undef, undef, .tuple #[.agg #[.int .i64 f0, .int .i64 f1], .bool true], .slice A0 l.length c0, .string entry, .tuple #[.agg #[.int .i64 f0, .int .i64 f1], .bool true], .agg #[.int .i64 f0, .int .i64 f1], .bool true, .bool true, .bool false, undef, .slice A0 l.length c0, .func (.func 77) #[] #[.pointer (some ⟨w2.heap.size + 1 + 1 + 1, 0, none⟩)], undef, undef, undef, undef, undef, undef, undef, undef, undef, undef, undef, undef, undef, undef, undef, undef, .tuple #[.slice Am fm.length cm, .int .i64 0, .int .i64 fi, .int .i64 fn], .slice A0 l.length c0, .int .i64 mem, .tuple #[.slice Am fm.length cm, .int .i64 0, .int .i64 fi, .int .i64 fn], .slice Am fm.length cm, .int .i64 0, .int .i64 fi, .int .i64 fn, .int .i64 0, .bool false, undef, undef, undef, undef, .slice (some ⟨gb, 0, none⟩) l.length cv, .pointer (some ⟨w2.heap.size, 0, none⟩), .int .i64 f0, .pointer (some ⟨gb, f0.toNat, none⟩), .int .i64 (baseL l f0.toNat : Int), .pointer (some ⟨w2.heap.size, 1, none⟩), .int .i64 f1, .int .i64 (wrap64 ((baseL l f0.toNat : Int) + f1)), .slice Am fm.length cm, .agg #[.slice none 0 0, .int .i64 en, .slice Am fm.length cm], .agg #[.slice none 0 0, .int .i64 en, .slice Am fm.length cm], .pointer (some ⟨gp, 0, none⟩), .slice A0 l.length c0, .func (.func 77) #[] #[.pointer (some ⟨w6b.heap.size, 0, none⟩)], .int .i64 bs, .agg (objV (ob l k) (P k)), .pointer (some ⟨gp, 0, none⟩), .pointer (some ⟨gp, 0, none⟩), .pointer (some ⟨gp, 0, none⟩), .pointer (some ⟨gp, 0, none⟩), .pointer (some ⟨gp, 0, none⟩), .slice AT (textL l k).length cT, .pointer (some ⟨Bx, 1, none⟩), .slice (P k).A1 (ob l k).f1.length (P k).c1, v8, v9, v10, .pointer (some ⟨gp, 0, none⟩), .pointer (some ⟨gp, 0, none⟩), .pointer (some ⟨gp, 0, none⟩), undef, undef, undef, undef, undef, undef, undef, undef, undef, undef, undef, undef, undef, undef, undef, undef, undef, undef, undef, undef, undef, undef, undef, undef, undef, undef, undef, undef, undef, undef, undef, undef, undef, undef, undef, undef, undef, undef, undef, undef, undef, undef, undef, undef, undef, undef, undef, undef, undef, undef, undef, undef, undef, undef, undef, undef, undef, undef, undef, undef, undef, undef, undef, undef, undef, undef, undef, undef, undef, undef], defers := [] } ∧ GS w5 W gp g20 g21 en (.slice Am fm.length cm) Bx (objV (ob l k) (P k)) (v10) w_ ∧ Kd.R (Kd.int .u32) 63 w_ w5.heap.size (fun _ => True) v10 (midL l k 0))) ?r26 ?_
       case r26 =>
        have HGd := Aside0.mk (HGS.out.below (below_drew (Below.refl _ _)))
        have HRd := Aside0.mk (Kd.R_below HRT.out (below_drew (Below.refl W.heap.size W)))
        have HCd := Aside0.mk (Kd.C_below HCK.out (below_drew (Below.refl W.heap.size W)))
        refine startIn_ (m := 15) (S := fun w' => w'.cell? ⟨g20, 0, none⟩ = some (.pointer (some ⟨gp, 0, none⟩)) ∧ w'.cell? ⟨gp, 0, none⟩ = some (.slice AT (textL l k).length cT) ∧ w'.cell? ⟨Bx, 1, none⟩ = some (.slice (P k).A1 (ob l k).f1.length (P k).c1)) (ds := [14]) #[false, false, false, false, false, false, false, false, false, false, false, false, false, false, false] (by kernel_rfl) rfl rfl HGd.out.cells (by kernel_rfl) (by rintro ⟨a_, w_, h_⟩; exact (show False from h_)) (fun hHeld => ?_)
        refine take_ (i := 0) (N := some 110) (v := ?_) (a' := ?_) #[true, false, false, false, false, false, false, false, false, false, false, false, false, false, false] rfl rfl (by kernel_rfl) (fun _ _ _ h => h) (Or.inl ⟨by rfl, ?_⟩) hHeld ?_ ?_
        rotate_left; · rintro w' ⟨s0, s1, s2⟩; go_simp; with_reducible rfl
        rotate_left; · simp only [Act.put, List.setIfInBounds_toArray, List.set_cons_zero, List.set_cons_succ, i64_w, i32_w]; rfl
        refine take_ (i := 1) (N := some 111) (v := ?_) (a' := ?_) #[true, true, false, false, false, false, false, false, false, false, false, false, false, false, false] rfl rfl (by kernel_rfl) (fun _ _ _ h => h) (Or.inl ⟨by rfl, ?_⟩) hHeld ?_ ?_
        rotate_left; · rintro w' ⟨s0, s1, s2⟩; go_simp; with_reducible rfl
        rotate_left; · simp only [Act.put, List.setIfInBounds_toArray, List.set_cons_zero, List.set_cons_succ, i64_w, i32_w]; rfl
        refine pure_ (i := 2) (N := some 112) (v := ?_) (a' := ?_) #[true, true, true, false, false, false, false, false, false, false, false, false, false, false, false] rfl rfl (by kernel_rfl) (fun _ _ _ h => h) (Or.inl ⟨by rfl, ?_⟩) ?_ ?_
        rotate_left; · intro w'; go_simp; with_reducible rfl
        rotate_left; · simp only [Act.put, List.setIfInBounds_toArray, List.set_cons_zero, List.set_cons_succ, i64_w, i32_w]; rfl
        refine pure_ (i := 3) (N := some 113) (v := ?_) (a' := ?_) #[true, true, true, true, false, false, false, false, false, false, false, false, false, false, false] rfl rfl (by kernel_rfl) (fun _ _ _ h => h) (Or.inl ⟨by rfl, ?_⟩) ?_ ?_
        rotate_left; · intro w'; go_simp; with_reducible rfl
        rotate_left; · simp only [Act.put, List.setIfInBounds_toArray, List.set_cons_zero, List.set_cons_succ, i64_w, i32_w]; rfl
        refine pure_ (i := 4) (N := some 114) (v := ?_) (a' := ?_) #[true, true, true, true, true, false, false, false, false, false, false, false, false, false, false] rfl rfl (by kernel_rfl) (fun _ _ _ h => h) (Or.inl ⟨by rfl, ?_⟩) ?_ ?_
        rotate_left; · intro w'; go_simp; with_reducible rfl
        rotate_left; · simp only [Act.put, List.setIfInBounds_toArray, List.set_cons_zero, List.set_cons_succ, i64_w, i32_w]; rfl
        refine take_ (i := 5) (N := some 115) (v := ?_) (a' := ?_) #[true, true, true, true, true, true, false, false, false, false, false, false, false, false, false] rfl rfl (by kernel_rfl) (fun _ _ _ h => h) (Or.inl ⟨by rfl, ?_⟩) hHeld ?_ ?_
        rotate_left; · rintro w' ⟨s0, s1, s2⟩; go_simp; with_reducible rfl
        rotate_left; · simp only [Act.put, List.setIfInBounds_toArray, List.set_cons_zero, List.set_cons_succ, i64_w, i32_w]; rfl
        refine pure_ (i := 6) (N := some 116) (v := ?_) (a' := ?_) #[true, true, true, true, true, true, true, false, false, false, false, false, false, false, false] rfl rfl (by kernel_rfl) (fun _ _ _ h => h) (Or.inl ⟨by rfl, ?_⟩) ?_ ?_
        rotate_left; · intro w'; go_simp; with_reducible rfl
        rotate_left; · simp only [Act.put, List.setIfInBounds_toArray, List.set_cons_zero, List.set_cons_succ, i64_w, i32_w]; rfl
        refine take_ (i := 7) (N := some 117) (v := ?_) (a' := ?_) #[true, true, true, true, true, true, true, true, false, false, false, false, false, false, false] rfl rfl (by kernel_rfl) (fun _ _ _ h => h) (Or.inl ⟨by rfl, ?_⟩) hHeld ?_ ?_
        rotate_left; · rintro w' ⟨s0, s1, s2⟩; go_simp; with_reducible rfl
        rotate_left; · simp only [Act.put, List.setIfInBounds_toArray, List.set_cons_zero, List.set_cons_succ, i64_w, i32_w]; rfl
        refine two_ (i := 8) (j := 9) (Ni := some 118) (Nj := some 119) #[true, true, true, true, true, true, true, true, true, false, false, false, false, false, false] #[true, true, true, true, true, true, true, true, false, true, false, false, false, false, false] rfl rfl rfl rfl (by kernel_rfl) (by decide) (by decide) (fun K hK => ?_) (fun K hK => ?_)
        ·
         refine Kd.R_append_rows_step (Kd.int .u32) (w0 := w5) w5.heap.size (by rfl) (.tmp 115) (.tmp 117) 22 63 (.int .u32 0) 4 rfl Tryd.underlying22 info63 rfl (by decide) (by omega) (.slice AT (textL l k).length cT) (textL l k) ((ob l k).f1) ((P k).A1) ((ob l k).f1.length) ((P k).c1) (fun _ => True) (fun _ => False) rfl rfl HRd.out HCd.out (fun _ _ h => h) (fun _ h => h.elim) (fun _ _ => trivial) HGd.out.pat.low HGd.out.pat.low.size (by have := HBK.out; rw [textL_len]; omega) ?_
         intro v8 w8 hr8 hb8 hg8 hat8
         have HG8 := Aside0.mk (HGd.out.app HRd.out hg8)
         obtain ⟨A8, c8_, e8⟩ := Kd.R_slice hr8
         subst e8
         have HR8 := Aside0.mk hr8
         clear hr8 hb8 hg8 hat8
         refine hK.out _ _ HG8.out.cells (fun hHeld => ?_)
         clear hK K
         refine norm_ (a' := ?_) ?_ ?_
         rotate_left; · show Act.put _ (some 118) _ = _; simp only [Act.put, List.setIfInBounds_toArray, List.set_cons_zero, List.set_cons_succ, i64_w, i32_w]; rfl
         refine one_ (i := 9) (N := some 119) #[true, true, true, true, true, true, true, true, true, true, false, false, false, false, false] rfl rfl (by kernel_rfl) (by decide) (fun K hK => ?_)
         refine value_ (w1 := ?_) (v := ?_) (by rfl) rfl ?_ ?_
         rotate_left 2
         ·
          go_simp
          constructor
          ·
           rfl
          ·
           rfl
         have HG9 := Aside0.mk (HG8.out.below (below_alloc (Below.refl _ _) (.cells #[.int .u32 0] 63)))
         have HR9 := Aside0.mk (Kd.R_below HR8.out (below_alloc (Below.refl _ _) (.cells #[.int .u32 0] 63)))
         have HN9 := Aside0.mk (World.alloc_heap_new (w8) (.cells #[.int .u32 0] 63))
         refine hK.out _ _ HG9.out.cells (fun hHeld => ?_)
         clear hK K
         refine norm_ (a' := ?_) ?_ ?_
         rotate_left; · show Act.put _ (some 119) _ = _; simp only [Act.put, List.setIfInBounds_toArray, List.set_cons_zero, List.set_cons_succ, i64_w, i32_w]; rfl
         refine one_ (i := 10) (N := some 120) #[true, true, true, true, true, true, true, true, true, true, true, false, false, false, false] rfl rfl (by kernel_rfl) (by decide) (fun K hK => ?_)
         refine Kd.R_append_rows_step (Kd.int .u32) (w0 := w5) w5.heap.size (by rfl) (.tmp 118) (.tmp 119) 22 63 (.int .u32 0) 4 rfl Tryd.underlying22 info63 rfl (by decide) (by omega) (.slice A8 (textL l k ++ (ob l k).f1).length c8_) (textL l k ++ (ob l k).f1) ([0]) (some ⟨w8.heap.size, 0, none⟩) (1) (1) (fun _ => True) (fun _ => False) rfl rfl HR9.out (C_zero HN9.out) (fun _ _ h => h) (fun _ h => h.elim) (fun _ _ => trivial) HG9.out.pat.low HG9.out.pat.low.size (by have := HBK.out; rw [List.length_append, textL_len]; omega) ?_
         intro v10 w10 hr10 hb10 hg10 hat10
         have HG10 := Aside0.mk (HG9.out.app HR9.out hg10)
         obtain ⟨TL, hTL⟩ : ∃ TL, textL l k ++ (ob l k).f1 ++ [0] = TL := ⟨_, rfl⟩
         rw [hTL] at hr10
         have HTL := Aside0.mk hTL
         obtain ⟨A10, c10, e10⟩ := Kd.R_slice hr10
         subst e10
         have HR10 := Aside0.mk hr10
         clear hr10 hb10 hg10 hat10 hTL
         refine hK.out _ _ HG10.out.cells (fun hHeld => ?_)
         clear hK K
         refine norm_ (a' := ?_) ?_ ?_
         rotate_left; · show Act.put _ (some 120) _ = _; simp only [Act.put, List.setIfInBounds_toArray, List.set_cons_zero, List.set_cons_succ, i64_w, i32_w]; rfl
         refine pure_ (i := 11) (N := some 121) (v := ?_) (a' := ?_) #[true, true, true, true, true, true, true, true, true, true, true, true, false, false, false] rfl rfl (by kernel_rfl) (fun _ _ _ h => h) (Or.inl ⟨by rfl, ?_⟩) ?_ ?_
         rotate_left; · intro w'; go_simp; with_reducible rfl
         rotate_left; · simp only [Act.put, List.setIfInBounds_toArray, List.set_cons_zero, List.set_cons_succ, i64_w, i32_w]; rfl
         refine pure_ (i := 12) (N := some 122) (v := ?_) (a' := ?_) #[true, true, true, true, true, true, true, true, true, true, true, true, true, false, false] rfl rfl (by kernel_rfl) (fun _ _ _ h => h) (Or.inl ⟨by rfl, ?_⟩) ?_ ?_
         rotate_left; · intro w'; go_simp; with_reducible rfl
         rotate_left; · simp only [Act.put, List.setIfInBounds_toArray, List.set_cons_zero, List.set_cons_succ, i64_w, i32_w]; rfl
         refine pure_ (i := 13) (N := some 123) (v := ?_) (a' := ?_) #[true, true, true, true, true, true, true, true, true, true, true, true, true, true, false] rfl rfl (by kernel_rfl) (fun _ _ _ h => h) (Or.inl ⟨by rfl, ?_⟩) ?_ ?_
         rotate_left; · intro w'; go_simp; with_reducible rfl
         rotate_left; · simp only [Act.put, List.setIfInBounds_toArray, List.set_cons_zero, List.set_cons_succ, i64_w, i32_w]; rfl
         refine last_ (i := 14) (N := none) #[true, true, true, true, true, true, true, true, true, true, true, true, true, true, true] rfl rfl (by kernel_rfl) (by decide) (fun K hK => ?_)
         have hcg := HG10.out.cells.2.1
         have hfg := blk_frozen HG10.out.pat.b 0
         refine skip_ (w1 := ?_) (by rfl) rfl ?_ ?_
         rotate_left
         ·
          go_simp
          rfl
         refine hK.out _ _ ?_
         clear hK K
         refine done_ (by kernel_rfl) ?_
         obtain ⟨q1, q2⟩ := HG10.out.put (.slice A10 TL.length c10)
         exact ⟨_, _, _, rfl, q1, by rw [midL_zero, ← List.append_assoc, HTL.out]; exact Kd.R_grown1 HR10.out rfl q2 (Kd.R_ne HR10.out HG10.out.pat.b (by decide))⟩
        ·
         refine value_ (w1 := ?_) (v := ?_) (by rfl) rfl ?_ ?_
         rotate_left 2
         ·
          go_simp
          constructor
          ·
           rfl
          ·
           rfl
         have HG9 := Aside0.mk (HGd.out.below (below_alloc (Below.refl _ _) (.cells #[.int .u32 0] 63)))
         have HR9 := Aside0.mk (Kd.R_below HRd.out (below_alloc (Below.refl _ _) (.cells #[.int .u32 0] 63)))
         have HN9 := Aside0.mk (World.alloc_heap_new (W.drew) (.cells #[.int .u32 0] 63))
         refine hK.out _ _ HG9.out.cells (fun hHeld => ?_)
         clear hK K
         refine norm_ (a' := ?_) ?_ ?_
         rotate_left; · show Act.put _ (some 119) _ = _; simp only [Act.put, List.setIfInBounds_toArray, List.set_cons_zero, List.set_cons_succ, i64_w, i32_w]; rfl
         have HC9 := Aside0.mk (Kd.C_below HCd.out (below_alloc (Below.refl _ _) (.cells #[.int .u32 0] 63)))
         refine one_ (i := 8) (N := some 118) #[true, true, true, true, true, true, true, true, true, true, false, false, false, false, false] rfl rfl (by kernel_rfl) (by decide) (fun K hK => ?_)
         refine Kd.R_append_rows_step (Kd.int .u32) (w0 := w5) w5.heap.size (by rfl) (.tmp 115) (.tmp 117) 22 63 (.int .u32 0) 4 rfl Tryd.underlying22 info63 rfl (by decide) (by omega) (.slice AT (textL l k).length cT) (textL l k) ((ob l k).f1) ((P k).A1) ((ob l k).f1.length) ((P k).c1) (fun _ => True) (fun _ => False) rfl rfl HR9.out HC9.out (fun _ _ h => h) (fun _ h => h.elim) (fun _ _ => trivial) HG9.out.pat.low HG9.out.pat.low.size (by have := HBK.out; rw [textL_len]; omega) ?_
         intro v8 w8 hr8 hb8 hg8 hat8
         have HG8 := Aside0.mk (HG9.out.app HR9.out hg8)
         have HN10 := Aside0.mk (blk_grown HN9.out hg8 (row_not_new HRd.out))
         obtain ⟨A8, c8_, e8⟩ := Kd.R_slice hr8
         subst e8
         have HR8 := Aside0.mk hr8
         clear hr8 hb8 hg8 hat8
         refine hK.out _ _ HG8.out.cells (fun hHeld => ?_)
         clear hK K
         refine norm_ (a' := ?_) ?_ ?_
         rotate_left; · show Act.put _ (some 118) _ = _; simp only [Act.put, List.setIfInBounds_toArray, List.set_cons_zero, List.set_cons_succ, i64_w, i32_w]; rfl
         refine one_ (i := 10) (N := some 120) #[true, true, true, true, true, true, true, true, true, true, true, false, false, false, false] rfl rfl (by kernel_rfl) (by decide) (fun K hK => ?_)
         refine Kd.R_append_rows_step (Kd.int .u32) (w0 := w5) w5.heap.size (by rfl) (.tmp 118) (.tmp 119) 22 63 (.int .u32 0) 4 rfl Tryd.underlying22 info63 rfl (by decide) (by omega) (.slice A8 (textL l k ++ (ob l k).f1).length c8_) (textL l k ++ (ob l k).f1) ([0]) (some ⟨W.drew.heap.size, 0, none⟩) (1) (1) (fun _ => True) (fun _ => False) rfl rfl HR8.out (C_zero HN10.out) (fun _ _ h => h) (fun _ h => h.elim) (fun _ _ => trivial) HG8.out.pat.low HG8.out.pat.low.size (by have := HBK.out; rw [List.length_append, textL_len]; omega) ?_
         intro v10 w10 hr10 hb10 hg10 hat10
         have HG10 := Aside0.mk (HG8.out.app HR8.out hg10)
         obtain ⟨TL, hTL⟩ : ∃ TL, textL l k ++ (ob l k).f1 ++ [0] = TL := ⟨_, rfl⟩
         rw [hTL] at hr10
         have HTL := Aside0.mk hTL
         obtain ⟨A10, c10, e10⟩ := Kd.R_slice hr10
         subst e10
         have HR10 := Aside0.mk hr10
         clear hr10 hb10 hg10 hat10 hTL
         refine hK.out _ _ HG10.out.cells (fun hHeld => ?_)
         clear hK K
         refine norm_ (a' := ?_) ?_ ?_
         rotate_left; · show Act.put _ (some 120) _ = _; simp only [Act.put, List.setIfInBounds_toArray, List.set_cons_zero, List.set_cons_succ, i64_w, i32_w]; rfl
         refine pure_ (i := 11) (N := some 121) (v := ?_) (a' := ?_) #[true, true, true, true, true, true, true, true, true, true, true, true, false, false, false] rfl rfl (by kernel_rfl) (fun _ _ _ h => h) (Or.inl ⟨by rfl, ?_⟩) ?_ ?_
         rotate_left; · intro w'; go_simp; with_reducible rfl
         rotate_left; · simp only [Act.put, List.setIfInBounds_toArray, List.set_cons_zero, List.set_cons_succ, i64_w, i32_w]; rfl
         refine pure_ (i := 12) (N := some 122) (v := ?_) (a' := ?_) #[true, true, true, true, true, true, true, true, true, true, true, true, true, false, false] rfl rfl (by kernel_rfl) (fun _ _ _ h => h) (Or.inl ⟨by rfl, ?_⟩) ?_ ?_
         rotate_left; · intro w'; go_simp; with_reducible rfl
         rotate_left; · simp only [Act.put, List.setIfInBounds_toArray, List.set_cons_zero, List.set_cons_succ, i64_w, i32_w]; rfl
         refine pure_ (i := 13) (N := some 123) (v := ?_) (a' := ?_) #[true, true, true, true, true, true, true, true, true, true, true, true, true, true, false] rfl rfl (by kernel_rfl) (fun _ _ _ h => h) (Or.inl ⟨by rfl, ?_⟩) ?_ ?_
         rotate_left; · intro w'; go_simp; with_reducible rfl
         rotate_left; · simp only [Act.put, List.setIfInBounds_toArray, List.set_cons_zero, List.set_cons_succ, i64_w, i32_w]; rfl
         refine last_ (i := 14) (N := none) #[true, true, true, true, true, true, true, true, true, true, true, true, true, true, true] rfl rfl (by kernel_rfl) (by decide) (fun K hK => ?_)
         have hcg := HG10.out.cells.2.1
         have hfg := blk_frozen HG10.out.pat.b 0
         refine skip_ (w1 := ?_) (by rfl) rfl ?_ ?_
         rotate_left
         ·
          go_simp
          rfl
         refine hK.out _ _ ?_
         clear hK K
         refine done_ (by kernel_rfl) ?_
         obtain ⟨q1, q2⟩ := HG10.out.put (.slice A10 TL.length c10)
         exact ⟨_, _, _, rfl, q1, by rw [midL_zero, ← List.append_assoc, HTL.out]; exact Kd.R_grown1 HR10.out rfl q2 (Kd.R_ne HR10.out HG10.out.pat.b (by decide))⟩
       rintro e6b a6b w26 h6b
       cases e6b with
       | exit _ => exact h6b.elim
       | goto _ => exact h6b.elim
       | ret => exact h6b.elim
       | panic _ => exact h6b.elim
       | outgrown => exact h6b.elim
       | normal =>
        obtain ⟨v8, v9, v10, rfl, hgs, hrw⟩ := h6b
        obtain ⟨A10, c10, e10⟩ := Kd.R_slice hrw
        subst e10
        have hcs := hgs.cells
        have HG := Aside0.mk hgs
        have HRW := Aside0.mk hrw
        clear hgs hrw
        gi_wp2
        gi_loopw [127] (fun u wr => ∃ j : Nat, u = .int .i64 (j : Int) ∧ j ≤ (ob l k).f1.length ∧ Aside0 (TX w5 gp g20 g21 en (.slice Am fm.length cm) (midL l k j) wr ∧ bxO l P k wr Bx ∧ St w5.heap.size W wr)) (fun u _ => (ob l k).f1.length - (intOf u).toNat)
        case atStart => exact ⟨0, rfl, Nat.zero_le _, ⟨⟨_, HG.out.pat, HG.out.f, HRW.out⟩, HG.out.o, HG.out.st⟩⟩
        case round =>
         clear hcs HG HRW HGS HRT
         obtain ⟨j, rfl, hj, HJ⟩ := hrel
         by_cases hlt2 : j < (ob l k).f1.length
         ·
          have hTlow : Below w5.heap.size w5 wr := by obtain ⟨_, q, _⟩ := HJ.out.1; exact q.low
          have hlw : Below w.heap.size w wr := below_then HL5.out.low HL5.out.low.size hTlow
          have HLW := Aside0.mk hlw
          obtain ⟨ac, ec, hx⟩ := Kd.at_int (HP.out k HLT.out).r1.2 (j : Int) (by omega) (by omega)
          rw [Int.toNat_natCast] at hx
          replace hx := pw_cell_below hlw hx
          have hwx := HOK.out.wor k HLT.out (rd (ob l k).f1 (j : Int)) (List.mem_of_getElem? (rd_get_ hlt2))
          obtain ⟨x, hxe⟩ : ∃ x, rd (ob l k).f1 (j : Int) = x := ⟨_, rfl⟩
          rw [hxe] at hx hwx
          have HXE := Aside0.mk hxe
          obtain ⟨kt, hkt⟩ := (tgt1 hwx.1 hwx.2).rounds
          have HKT := Aside0.mk hkt
          have HWX := Aside0.mk hwx
          have hbk := HBK.out
          have hbse := HBS.out
          rw [bsL_eq (Nat.le_of_lt HLT.out)] at hbse
          have HW1 := Aside0.mk (show wrap64 (bs + (j : Int)) = ((baseL l k + j : Nat) : Int) by rw [wrap64_id (by omega) (by omega)]; omega)
          have HWJ := Aside0.mk (show wrap64 ((j : Int) + 1) = ((j + 1 : Nat) : Int) by rw [wrap64_id (by omega) (by omega)]; rfl)
          have hltb : decide ((j : Int) < ((ob l k).f1.length : Int)) = true := decide_eq_true (by omega)
          have p0 : ((0 : Int) ≤ (j : Int)) = True := eq_true (by omega)
          have q0 : ((j : Int) < ((ob l k).f1.length : Int)) = True := eq_true (by omega)
          have HL2 := Aside0.mk hlt2
          have HBE := Aside0.mk hbse
          rw [ec]
          clear hTlow hlw hwx hxe hkt hbk hbse hlt2 hj ec
          cases htg : (tgtS x).2 with
          | false =>
           gi_wp2_with (first | (gi_at_call 23; go_loud (refine (calls_round (isa_Target.calls kt x (tgtS x).1 (tgtS x).2 _ HKT.out)).mono ?_; rintro e_ wt ⟨rfl, hb_⟩; have HBT := Aside0.mk hb_; clear hb_; try rw [htg])))
           have HJ2 := Aside0.mk (show TX w5 gp g20 g21 en (.slice Am fm.length cm) (midL l k (j + 1)) wt ∧ bxO l P k wt Bx ∧ St w5.heap.size W wt from ⟨by rw [midL_same l k j HL2.out (by rw [(List.getElem?_eq_some_iff.1 (rd_get_ HL2.out)).2, HXE.out]; exact htg)]; exact HJ.out.1.below HBT.out, blk_below HJ.out.2.1 HBT.out, HJ.out.2.2.trans (St.below HBT.out (by obtain ⟨_, q, _⟩ := HJ.out.1; exact q.low.size))⟩)
           clear HJ HBT
           go_roundw
           case rel => exact ⟨j + 1, by first | rfl | rw [HWJ.out], HL2.out, HJ2⟩
           case measure => have hq := HL2.out; (try rw [HWJ.out]); simp only [intOf]; omega
          | true =>
           have htr := tgtS_range htg
           have hbse := HBE.out
           have hbk := HBK.out
           have HW2 := Aside0.mk (show wrap64 (bs + (tgtS x).1) = (baseL l k : Int) + (tgtS x).1 by rw [wrap64_id (by omega) (by omega)]; omega)
           have HMW := Aside0.mk (show ∀ y ∈ midL l k j, 0 ≤ y ∧ y < 4294967296 from mid_words HOK.out HLT.out j)
           have HMS := Aside0.mk (show midL l k (j + 1) = aimT (midL l k j) ((baseL l k + j : Nat) : Int) ((baseL l k : Int) + (tgtS x).1) from mid_aim l k j HL2.out HXE.out htg)
           clear htr hbse hbk
           obtain ⟨_, hq1, hq2, _⟩ := HJ.out.1
           have hc1 := hq1.p.cell
           have hc2 := hq2.cell
           have hq1b := Aside0.mk hq1.p
           have hq2b := Aside0.mk hq2
           clear hq1 hq2
           gi_wp2_with (first | (gi_at_call 23; go_loud (refine (calls_round (isa_Target.calls kt x (tgtS x).1 (tgtS x).2 _ HKT.out)).mono ?_; rintro e_ wt ⟨rfl, hb_⟩; have HBT := Aside0.mk hb_; have hd1 := (Boxed.below_ (W1 := wt) (show Boxed wr g20 _ _ from hq1b.out) hb_).cell; have hd2 := (Boxed.below_ (W1 := wt) (show Boxed wr g21 _ _ from hq2b.out) hb_).cell; clear hb_ hc1 hc2; try rw [htg])) | (gi_at_call 63; refine (calls_round (TX.aimed (HJ.out.1.below HBT.out) (at_ := wrap64 (bs + (j : Int))) (to_ := wrap64 (bs + (tgtS x).1)) (by rw [HW1.out]; omega) (by rw [HW1.out, midL_len l k j (by have := HL2.out; omega), baseL_succ]; have := HL2.out; omega) HMW.out)).mono ?_; rintro e_ wa ⟨rfl, ht_, hs_⟩; have HJ2 := Aside0.mk (show TX w5 gp g20 g21 en (.slice Am fm.length cm) (midL l k (j + 1)) wa ∧ bxO l P k wa Bx ∧ St w5.heap.size W wa from ⟨by rw [HW1.out, HW2.out] at ht_; rw [HMS.out]; exact ht_, hs_.ko _ _ (blk_below HJ.out.2.1 HBT.out), (HJ.out.2.2.trans (St.below HBT.out (by obtain ⟨_, q, _⟩ := HJ.out.1; exact q.low.size))).trans hs_⟩); clear HJ HBT ht_ hs_))
           go_roundw
           case rel => exact ⟨j + 1, by first | rfl | rw [HWJ.out], HL2.out, HJ2⟩
           case measure => have hq := HL2.out; (try rw [HWJ.out]); simp only [intOf]; omega
         ·
          obtain rfl : j = (ob l k).f1.length := by omega
          have hltb : decide (((ob l k).f1.length : Int) < ((ob l k).f1.length : Int)) = false := by simp
          clear hlt2 hj
          gi_wp2
          exact ⟨HJ.out.2.2.ot.from _, ⟨HJ.out.2.2.lo, HJ.out.2.2.ko⟩, by show TX w5 gp g20 g21 en (.slice Am fm.length cm) (textL l (k + 1)) wr; rw [← midL_end]; exact HJ.out.1⟩
      case done =>
       rintro D2 W9 hD2 hT9 hK2
       have HT9 := Aside0.mk (show TK w5 gp g20 g21 en (.slice Am fm.length cm) D2 (textL l l.length) W9 from ⟨hT9, hK2⟩)
       obtain ⟨Ad, cd, ed, hled, hCd⟩ := Kd.S_reads HD5.out
       subst ed
       have HDC := Aside0.mk hCd
       have HRB := Aside0.mk (Kd.R_reads' HR5.out).2.2
       have HD2 := Aside0.mk hD2
       clear hT9 hK2 hCd hled hT0 hlow7 hB7 g1' g2 hD2
       have hu1 := Tryd.underlying27
       have hu2 := Tryd.underlying68
       have hu3 := Tryd.underlying59
       have hu4 := Tryd.underlying46
       go_wp2
       go_loopw [150] (fun u wr => ∃ i : Nat, u = .int .i64 (i : Int) ∧ i ≤ l.length ∧ Aside0 (TK w5 gp g20 g21 en (.slice Am fm.length cm) D2 (relT l d i) wr)) (fun u _ => l.length - (intOf u).toNat)
       case atStart => exact ⟨0, rfl, Nat.zero_le _, HT9⟩
       case round =>
        clear HT9
        obtain ⟨i, rfl, hile, HT⟩ := hrel
        by_cases hlt : i < l.length
        ·
         have hlw : Below w.heap.size w wr := below_then HL5.out.low HL5.out.low.size HT.out.low
         have p0 : (0 : Int) ≤ (i : Int) := by omega
         have q0 : (i : Int) < (l.length : Int) := by omega
         obtain ⟨ad, A1, c1, A3, c3, A4, c4, A5, c5, eA, hx0, hx1, hx2, hx3, hx4, hx5, _, _, _, _, _, _, hl5, hC5⟩ := at_T27 HC.out (i : Int) p0 q0
         subst eA
         rw [show ((i : Int)).toNat = i by omega] at hx0 hx1 hx2 hx3 hx4 hx5
         rw [show rd_T27 l (i : Int) = ob l i from rfl] at hx0 hx1 hx2 hx3 hx4 hx5 hC5 hl5
         have hy0 := pw_cell_below hlw hx0
         have hy1 := pw_cell_below hlw hx1
         have hy2 := pw_cell_below hlw hx2
         have hy3 := pw_cell_below hlw hx3
         have hy4 := pw_cell_below hlw hx4
         have hy5 := pw_cell_below hlw hx5
         clear hx0 hx1 hx2 hx3 hx4 hx5 hlw
         obtain ⟨x, hx⟩ : ∃ x, ob l i = x := ⟨_, rfl⟩
         rw [hx] at hy0 hy1 hy2 hy3 hy4 hy5 hC5 hl5
         obtain ⟨x0, x1, x2, x3, x4, x5⟩ := x
         simp only at hy0 hy1 hy2 hy3 hy4 hy5 hC5 hl5
         have HXE := Aside0.mk hx
         have HC5 := Aside0.mk hC5
         have HL5b := Aside0.mk hl5
         have HLT := Aside0.mk hlt
         have hltb : decide ((i : Int) < (l.length : Int)) = true := decide_eq_true (by omega)
         have HWI := Aside0.mk (show wrap64 ((i : Int) + 1) = ((i + 1 : Nat) : Int) by rw [wrap64_id (by have := HLN.out; omega) (by have := HLN.out; omega)]; rfl)
         have hx5n : x5.length ≤ 1000000000 := by have := (HRLN.out i hlt); rw [hx] at this; exact this
         have HX5 := Aside0.mk hx5n
         replace p0 := eq_true p0
         replace q0 := eq_true q0
         clear hx hC5 hl5 hlt hile hx5n
         go_wp2_with (first | ((with_reducible refine gate_dst (N := 29) rfl ?_); refine box_event ?hg (N := 29) ?hd (cs := #[.string (⟨#[]⟩ : ByteArray), .slice none 0 0, .int .i64 0, .slice none 0 0, .slice none 0 0, .slice none 0 0]) (t := 27) ?hr ?_; (case hd => rfl); (case hg => rfl); (case hr => first | (go_simp; done) | (go_simp; rfl)); intro go hgo w3_ BK3 hb3; have BO := Aside0.mk BK3; have GO := Aside0.mk (show w5.heap.size ≤ go by rw [hgo]; exact HT.out.low.size); replace HT := Aside0.mk (HT.out.below hb3); clear BK3 hb3 hgo) | ((with_reducible refine gate_store (t := 27) rfl ?_); refine wpList_store_whole rfl rfl rfl go _ #[.string x0, .slice A1 x1.length c1, .int .i64 x2, .slice A3 x3.length c3, .slice A4 x4.length c4, .slice A5 x5.length c5] _ rfl rfl BO.out (by kernel_rfl) rfl (obj_oneS _ _ _ _ _ _ _ _ _ _ _ _ _ _) ?_; intro w4_ hp; replace HT := Aside0.mk (HT.out.put hp BO.out (by decide) (by decide) (by decide) (by decide) GO.out); replace BO := Aside0.mk hp.blk; clear hp hy0 hy1 hy2 hy3 hy4 hy5; have ho5 := blk_cell BO.out 5))
         clear ho5 BO GO
         go_loopw [158] (fun u wr => ∃ j : Nat, u = .int .i64 (j : Int) ∧ j ≤ x5.length ∧ Aside0 (TK w5 gp g20 g21 en (.slice Am fm.length cm) D2 (relN l d i (relT l d i) j) wr)) (fun u _ => x5.length - (intOf u).toNat)
         case atStart => exact ⟨0, rfl, Nat.zero_le _, HT⟩
         case round =>
          clear HT
          obtain ⟨j, rfl, hjle, HT⟩ := hrel
          by_cases hlt2 : j < x5.length
          ·
           have hlow5 := HT.out.low
           have hlw : Below w.heap.size w wr := below_then HL5.out.low HL5.out.low.size hlow5
           have p1 : (0 : Int) ≤ (j : Int) := by omega
           have q1 : (j : Int) < (x5.length : Int) := by omega
           obtain ⟨a5, e5, hz0, hz1⟩ := at_T68 HC5.out (j : Int) p1 q1
           subst e5
           replace hz0 := pw_cell_below hlw hz0
           replace hz1 := pw_cell_below hlw hz1
           rw [show ((j : Int)).toNat = j by omega] at hz0 hz1
           have hrel := HOK.out.rel i HLT.out j (by rw [HXE.out]; exact hlt2)
           obtain ⟨r, hr⟩ : ∃ r, rd_T68 x5 (j : Int) = r := ⟨_, rfl⟩
           have hRL : rlN (ob l i).f5 j = r := by rw [HXE.out]; exact hr
           rw [hr] at hz0 hz1
           rw [hRL] at hrel
           obtain ⟨r0, r1⟩ := r
           simp only at hz0 hz1 hrel
           have hdl := HOK.out.dl
           have hdr := HOK.out.row i HLT.out
           obtain ⟨edd, Bd, dd, eD, hzd, hLd, hCd2⟩ := at_L17 HDC.out (i : Int) (by omega) (by rw [hdl]; have := HLT.out; omega)
           subst eD
           rw [show ((i : Int)).toNat = i by omega] at hzd
           obtain ⟨edf, eB, hf0, hf1⟩ := at_T59 hCd2 r1 hrel.2.2.1 (by rw [hdr]; exact hrel.2.2.2)
           subst eB
           obtain ⟨q, hq⟩ : ∃ q, rd_T59 (rd_L17 d (i : Int)) r1 = q := ⟨_, rfl⟩
           have hDX : dx d i r1.toNat = q := by unfold dx; rw [Int.toNat_of_nonneg hrel.2.2.1]; exact hq
           have hdst := HOK.out.dst i HLT.out r1.toNat (by omega)
           rw [hDX] at hdst
           rw [hq] at hf0 hf1
           obtain ⟨so, sa⟩ := q
           simp only at hf0 hf1 hdst
           obtain ⟨RN, hRN⟩ : ∃ RN, (rd_L17 d (i : Int)).length = RN := ⟨_, rfl⟩
           rw [hRN] at hzd hdr
           have HDST := Aside0.mk hdst
           have HREL := Aside0.mk hrel
           have HRL := Aside0.mk hRL
           have HDX := Aside0.mk hDX
           have HDR := Aside0.mk hdr
           have HZD := Aside0.mk (And.intro hzd (And.intro hf0 hf1))
           have HJL := Aside0.mk hlt2
           have hltb2 : decide ((j : Int) < (x5.length : Int)) = true := decide_eq_true (by omega)
           have HWJ := Aside0.mk (show wrap64 ((j : Int) + 1) = ((j + 1 : Nat) : Int) by rw [wrap64_id (by have := HX5.out; omega) (by have := HX5.out; omega)]; rfl)
           replace p1 := eq_true p1
           replace q1 := eq_true q1
           have p2 : ((0 : Int) ≤ (i : Int)) = True := eq_true (by omega)
           have q2 : ((i : Int) < (d.length : Int)) = True := eq_true (by rw [hdl]; have := HLT.out; omega)
           have p3 : ((0 : Int) ≤ r1) = True := eq_true hrel.2.2.1
           have q3 : (r1 < (RN : Int)) = True := eq_true (by rw [hdr]; exact hrel.2.2.2)
           clear hlw hr hRL hdl hdr hLd hCd2 hq hDX hrel hdst hRN hzd hf0 hf1 hlow5 hjle hlt2
           go_wp2_with (first | ((with_reducible refine gate_dst (N := 31) rfl ?_); refine box_event ?hg (N := 31) ?hd (cs := #[.int .i64 0, .int .i64 0]) (t := 68) ?hr ?_; (case hd => rfl); (case hg => rfl); (case hr => first | (go_simp; done) | (go_simp; rfl)); intro gr hgr w5_ BK5 hb5; have BR := Aside0.mk BK5; have GR := Aside0.mk (show w5.heap.size ≤ gr by rw [hgr]; exact HT.out.low.size); replace HT := Aside0.mk (HT.out.below hb5); clear BK5 hb5 hgr) | ((with_reducible refine gate_store (t := 68) rfl ?_); refine wpList_store_whole rfl rfl rfl gr _ #[.int .i64 r0, .int .i64 r1] _ rfl rfl BR.out (by kernel_rfl) rfl (rel_one _ _) ?_; intro w6_ hp; replace HT := Aside0.mk (HT.out.put hp BR.out (by decide) (by decide) (by decide) (by decide) GR.out); replace BR := Aside0.mk hp.blk; clear hp hz0 hz1; have hr1 := blk_cell BR.out 1; have hzd := pw_cell_below HT.out.low HZD.out.1; have hf0 := pw_cell_below HT.out.low HZD.out.2.1; have hf1 := pw_cell_below HT.out.low HZD.out.2.2))
           have HTd := Aside0.mk (HT.out.below (below_drew (Below.refl _ _)))
           have BRd := Aside0.mk (blk_below BR.out (below_drew (Below.refl _ _)))
           refine start_ (n := 10) (S := fun w' => w'.cell? (edd.add i) = some (.slice (some edf) RN dd) ∧ w'.cell? (edf.add (r1.toNat * 2)) = some (.int .i64 so) ∧ w'.cell? ⟨(edf.add (r1.toNat * 2)).block, (edf.add (r1.toNat * 2)).off + 1, none⟩ = some (.int .i64 sa) ∧ w'.cell? ⟨gr, 1, none⟩ = some (.int .i64 r1)) (ds := [9]) #[false, false, false, false, false, false, false, false, false, false] (by kernel_rfl) rfl rfl ⟨hzd, hf0, hf1, hr1⟩ (fun hHeld => ?_)
           refine pure_ (i := 0) (N := some 162) (v := ?_) (a' := ?_) #[true, false, false, false, false, false, false, false, false, false] rfl rfl (by kernel_rfl) (fun _ _ _ h => h) (Or.inl ⟨by rfl, ?_⟩) ?_ ?_
           rotate_left; · intro w'; go_simp; with_reducible rfl
           rotate_left; · simp only [Act.put, List.setIfInBounds_toArray, List.set_cons_zero, List.set_cons_succ, i64_w, i32_w]; rfl
           refine pure_ (i := 1) (N := some 163) (v := ?_) (a' := ?_) #[true, true, false, false, false, false, false, false, false, false] rfl rfl (by kernel_rfl) (fun _ _ _ h => h) (Or.inl ⟨by rfl, ?_⟩) ?_ ?_
           rotate_left; · intro w'; go_simp; with_reducible rfl
           rotate_left; · simp only [Act.put, List.setIfInBounds_toArray, List.set_cons_zero, List.set_cons_succ, i64_w, i32_w]; rfl
           refine pure_ (i := 2) (N := some 164) (v := ?_) (a' := ?_) #[true, true, true, false, false, false, false, false, false, false] rfl rfl (by kernel_rfl) (fun _ _ _ h => h) (Or.inl ⟨by rfl, ?_⟩) ?_ ?_
           rotate_left; · intro w'; go_simp; with_reducible rfl
           rotate_left; · simp only [Act.put, List.setIfInBounds_toArray, List.set_cons_zero, List.set_cons_succ, i64_w, i32_w]; rfl
           refine take_ (i := 3) (N := some 165) (v := ?_) (a' := ?_) #[true, true, true, true, false, false, false, false, false, false] rfl rfl (by kernel_rfl) (fun _ _ _ h => h) (Or.inl ⟨by rfl, ?_⟩) hHeld ?_ ?_
           rotate_left; · rintro w' ⟨s0, s1, s2, s3⟩; go_simp; with_reducible rfl
           rotate_left; · simp only [Act.put, List.setIfInBounds_toArray, List.set_cons_zero, List.set_cons_succ, i64_w, i32_w]; rfl
           refine pure_ (i := 4) (N := some 166) (v := ?_) (a' := ?_) #[true, true, true, true, true, false, false, false, false, false] rfl rfl (by kernel_rfl) (fun _ _ _ h => h) (Or.inl ⟨by rfl, ?_⟩) ?_ ?_
           rotate_left; · intro w'; go_simp; with_reducible rfl
           rotate_left; · simp only [Act.put, List.setIfInBounds_toArray, List.set_cons_zero, List.set_cons_succ, i64_w, i32_w]; rfl
           refine take_ (i := 5) (N := some 167) (v := ?_) (a' := ?_) #[true, true, true, true, true, true, false, false, false, false] rfl rfl (by kernel_rfl) (fun _ _ _ h => h) (Or.inl ⟨by rfl, ?_⟩) hHeld ?_ ?_
           rotate_left; · rintro w' ⟨s0, s1, s2, s3⟩; go_simp; with_reducible rfl
           rotate_left; · simp only [Act.put, List.setIfInBounds_toArray, List.set_cons_zero, List.set_cons_succ, i64_w, i32_w]; rfl
           refine pure_ (i := 6) (N := some 168) (v := ?_) (a' := ?_) #[true, true, true, true, true, true, true, false, false, false] rfl rfl (by kernel_rfl) (fun _ _ _ h => h) (Or.inl ⟨by rfl, ?_⟩) ?_ ?_
           rotate_left; · intro w'; go_simp; with_reducible rfl
           rotate_left; · simp only [Act.put, List.setIfInBounds_toArray, List.set_cons_zero, List.set_cons_succ, i64_w, i32_w]; rfl
           refine take_ (i := 7) (N := some 169) (v := ?_) (a' := ?_) #[true, true, true, true, true, true, true, true, false, false] rfl rfl (by kernel_rfl) (fun _ _ _ h => h) (Or.inl ⟨by rfl, ?_⟩) hHeld ?_ ?_
           rotate_left; · rintro w' ⟨s0, s1, s2, s3⟩; go_simp; with_reducible rfl
           rotate_left; · simp only [Act.put, List.setIfInBounds_toArray, List.set_cons_zero, List.set_cons_succ, i64_w, i32_w]; rfl
           clear hzd hf0 hf1 hr1
           refine one_ (i := 8) (N := some 32) #[true, true, true, true, true, true, true, true, true, false] rfl rfl (by kernel_rfl) (by decide) (fun K hK => ?_)
           refine value_ (w1 := ?_) (v := ?_) (by rfl) rfl ?_ ?_
           rotate_left 2
           ·
            go_simp
            constructor
            ·
             rfl
            ·
             rfl
           refine hK.out _ _ ⟨cell_al hHeld.1 _, cell_al hHeld.2.1 _, cell_al hHeld.2.2.1 _, cell_al hHeld.2.2.2 _⟩ (fun hHeld => ?_)
           clear hK K
           refine norm_ (a' := ?_) ?_ ?_
           rotate_left; · show Act.put _ (some 32) _ = _; simp only [Act.put, List.setIfInBounds_toArray, List.set_cons_zero, List.set_cons_succ, i64_w, i32_w]; rfl
           refine last_ (i := 9) (N := none) #[true, true, true, true, true, true, true, true, true, true] rfl rfl (by kernel_rfl) (by decide) (fun K hK => ?_)
           have HTe := Aside0.mk (HTd.out.below (below_alloc (Below.refl _ _) (.cells #[.int .i64 0, .int .i64 0] 59)))
           have BRe := Aside0.mk (blk_below BRd.out (below_alloc (Below.refl _ _) (.cells #[.int .i64 0, .int .i64 0] 59)))
           obtain ⟨gd, hgd⟩ : ∃ gd, w6_.heap.size = gd := ⟨_, rfl⟩
           have BD := Aside0.mk (show (w6_.drew.alloc (.cells #[.int .i64 0, .int .i64 0] 59)).heap[w6_.heap.size]? = _ from World.alloc_heap_new w6_.drew _)
           rw [hgd] at BD ⊢
           have GD := Aside0.mk (show w5.heap.size ≤ gd by rw [← hgd]; exact HTd.out.low.size)
           refine step_whole rfl rfl rfl gd #[.int .i64 0, .int .i64 0] #[.int .i64 so, .int .i64 sa] 59 rfl rfl BD.out (by kernel_rfl) rfl (def_one _ _) ?_
           intro w7_ hp_
           have HTn := Aside0.mk (HTe.out.put hp_ BD.out (by decide) (by decide) (by decide) (by decide) GD.out)
           have BRn := Aside0.mk (blk_grown BRe.out (put_grownN hp_) (fun z => ne_typesL BRe.out BD.out (by decide) (Option.some.inj z)))
           have BDn := Aside0.mk hp_.blk
           refine hK.out _ _ ?_
           clear hK K HT HTd HTe BR BRd BRe BD hp_ hHeld hgd
           refine done_ (by kernel_rfl) ?_
           have HT := HTn
           have BR := BRn
           have BD := BDn
           clear HTn BRn BDn
           go_wp2
           have hdst := HDST.out
           have hrel := HREL.out
           obtain ⟨ab, eb, hcb⟩ := Kd.at_int HRB.out (i : Int) (by omega) (by rw [BL_len]; have := HLT.out; omega)
           obtain rfl := Option.some.inj eb
           obtain ⟨ab, eb, hcs⟩ := Kd.at_int HRB.out so hdst.1 (by rw [BL_len]; exact hdst.2.1)
           obtain rfl := Option.some.inj eb
           rw [rd_BL (by omega) (by have := HLT.out; omega), Int.toNat_natCast] at hcb
           rw [rd_BL hdst.1 hdst.2.1] at hcs
           have hb1 := big_not HBI.out HLT.out
           have hb2 := big_not HBI.out (i := so.toNat) (by omega)
           obtain ⟨bi, hbi⟩ : ∃ bi : Int, (baseL l i : Int) = bi := ⟨_, rfl⟩
           obtain ⟨bo, hbo⟩ : ∃ bo : Int, (baseL l so.toNat : Int) = bo := ⟨_, rfl⟩
           rw [hbi] at hcb
           rw [hbo] at hcs
           have hcb : w5.cell? ⟨gb, i, none⟩ = some (.int .i64 bi) := (by rw [show (⟨gb, i, none⟩ : Addr) = (⟨gb, 0, none⟩ : Addr).add i by simp [Addr.add]]; exact hcb)
           have hcs : w5.cell? ⟨gb, so.toNat, none⟩ = some (.int .i64 bo) := (by rw [show (⟨gb, so.toNat, none⟩ : Addr) = (⟨gb, 0, none⟩ : Addr).add so.toNat by simp [Addr.add]]; exact hcs)
           replace hcb := pw_cell_below HT.out.low hcb
           replace hcs := pw_cell_below HT.out.low hcs
           have hcv := pw_cell_below HT.out.low HV5.out.cell
           have hr0 := blk_cell BR.out 0
           have hd0 := blk_cell BD.out 0
           have hd1 := blk_cell BD.out 1
           have hcl := HT.out.cells
           have HW1 := Aside0.mk (show wrap64 (bi + r0) = (baseL l i : Int) + r0 by rw [wrap64_id (by omega) (by omega)]; omega)
           have HW2 := Aside0.mk (show wrap64 (bo + sa) = (baseL l so.toNat : Int) + sa by rw [wrap64_id (by omega) (by omega)]; omega)
           have q4 : ((i : Int) < (l.length : Int)) = True := eq_true (by have := HLT.out; omega)
           have p5 : ((0 : Int) ≤ so) = True := eq_true hdst.1
           have q5 : (so < (l.length : Int)) = True := eq_true hdst.2.1
           have HAT := Aside0.mk (show (0 : Int) ≤ (baseL l i : Int) + r0 ∧ (baseL l i : Int) + r0 < ((relN l d i (relT l d i) j).length : Int) by
            rw [relN_len, relT_len]
            have := baseL_lt (l := l) HLT.out
            omega)
           have HWW := Aside0.mk (relN_words (relT_words HOK.out i) (l := l) (d := d) (i := i) j)
           have HST := Aside0.mk (show relN l d i (relT l d i) (j + 1) = aimT (relN l d i (relT l d i) j) ((baseL l i : Int) + r0) ((baseL l so.toNat : Int) + sa) by
            show aimT _ ((baseL l i : Int) + (rlN (ob l i).f5 j).f0) ((baseL l (dx d i (rlN (ob l i).f5 j).f1.toNat).f0.toNat : Int) + (dx d i (rlN (ob l i).f5 j).f1.toNat).f1) = _
            rw [HRL.out]
            simp only
            rw [HDX.out])
           clear hdst hrel hb1 hb2 hbi hbo
           have HTd := Aside0.mk (HT.out.below (below_drew (Below.refl _ _)))
           refine start_ (n := 18) (S := fun w' => (w'.cell? ⟨g21, 0, none⟩ = some (.func (.func 63) #[] #[]) ∧ w'.cell? ⟨g20, 0, none⟩ = some (.pointer (some ⟨gp, 0, none⟩))) ∧ w'.cell? ⟨w2.heap.size + 1 + 1, 0, none⟩ = some (.slice (some ⟨gb, 0, none⟩) l.length cv) ∧ w'.cell? ⟨gb, i, none⟩ = some (.int .i64 bi) ∧ w'.cell? ⟨gb, so.toNat, none⟩ = some (.int .i64 bo) ∧ w'.cell? ⟨gr, 0, none⟩ = some (.int .i64 r0) ∧ w'.cell? ⟨gd, 0, none⟩ = some (.int .i64 so) ∧ w'.cell? ⟨gd, 1, none⟩ = some (.int .i64 sa)) (ds := [17]) #[false, false, false, false, false, false, false, false, false, false, false, false, false, false, false, false, false, false] (by kernel_rfl) rfl rfl ⟨hcl, hcv, hcb, hcs, hr0, hd0, hd1⟩ (fun hHeld => ?_)
           refine take_ (i := 0) (N := some 170) (v := ?_) (a' := ?_) #[true, false, false, false, false, false, false, false, false, false, false, false, false, false, false, false, false, false] rfl rfl (by kernel_rfl) (fun _ _ _ h => h) (Or.inl ⟨by rfl, ?_⟩) hHeld ?_ ?_
           rotate_left; · rintro w' ⟨⟨s0, s1⟩, s2, s3, s4, s5, s6, s7⟩; go_simp; with_reducible rfl
           rotate_left; · simp only [Act.put, List.setIfInBounds_toArray, List.set_cons_zero, List.set_cons_succ, i64_w, i32_w]; rfl
           refine take_ (i := 1) (N := some 171) (v := ?_) (a' := ?_) #[true, true, false, false, false, false, false, false, false, false, false, false, false, false, false, false, false, false] rfl rfl (by kernel_rfl) (fun _ _ _ h => h) (Or.inl ⟨by rfl, ?_⟩) hHeld ?_ ?_
           rotate_left; · rintro w' ⟨⟨s0, s1⟩, s2, s3, s4, s5, s6, s7⟩; go_simp; with_reducible rfl
           rotate_left; · simp only [Act.put, List.setIfInBounds_toArray, List.set_cons_zero, List.set_cons_succ, i64_w, i32_w]; rfl
           refine take_ (i := 2) (N := some 172) (v := ?_) (a' := ?_) #[true, true, true, false, false, false, false, false, false, false, false, false, false, false, false, false, false, false] rfl rfl (by kernel_rfl) (fun _ _ _ h => h) (Or.inl ⟨by rfl, ?_⟩) hHeld ?_ ?_
           rotate_left; · rintro w' ⟨⟨s0, s1⟩, s2, s3, s4, s5, s6, s7⟩; go_simp; with_reducible rfl
           rotate_left; · simp only [Act.put, List.setIfInBounds_toArray, List.set_cons_zero, List.set_cons_succ, i64_w, i32_w]; rfl
           refine pure_ (i := 3) (N := some 173) (v := ?_) (a' := ?_) #[true, true, true, true, false, false, false, false, false, false, false, false, false, false, false, false, false, false] rfl rfl (by kernel_rfl) (fun _ _ _ h => h) (Or.inl ⟨by rfl, ?_⟩) ?_ ?_
           rotate_left; · intro w'; go_simp; with_reducible rfl
           rotate_left; · simp only [Act.put, List.setIfInBounds_toArray, List.set_cons_zero, List.set_cons_succ, i64_w, i32_w]; rfl
           refine pure_ (i := 4) (N := some 174) (v := ?_) (a' := ?_) #[true, true, true, true, true, false, false, false, false, false, false, false, false, false, false, false, false, false] rfl rfl (by kernel_rfl) (fun _ _ _ h => h) (Or.inl ⟨by rfl, ?_⟩) ?_ ?_
           rotate_left; · intro w'; go_simp; with_reducible rfl
           rotate_left; · simp only [Act.put, List.setIfInBounds_toArray, List.set_cons_zero, List.set_cons_succ, i64_w, i32_w]; rfl
           refine take_ (i := 5) (N := some 175) (v := ?_) (a' := ?_) #[true, true, true, true, true, true, false, false, false, false, false, false, false, false, false, false, false, false] rfl rfl (by kernel_rfl) (fun _ _ _ h => h) (Or.inl ⟨by rfl, ?_⟩) hHeld ?_ ?_
           rotate_left; · rintro w' ⟨⟨s0, s1⟩, s2, s3, s4, s5, s6, s7⟩; go_simp; with_reducible rfl
           rotate_left; · simp only [Act.put, List.setIfInBounds_toArray, List.set_cons_zero, List.set_cons_succ, i64_w, i32_w]; rfl
           refine pure_ (i := 6) (N := some 176) (v := ?_) (a' := ?_) #[true, true, true, true, true, true, true, false, false, false, false, false, false, false, false, false, false, false] rfl rfl (by kernel_rfl) (fun _ _ _ h => h) (Or.inl ⟨by rfl, ?_⟩) ?_ ?_
           rotate_left; · intro w'; go_simp; with_reducible rfl
           rotate_left; · simp only [Act.put, List.setIfInBounds_toArray, List.set_cons_zero, List.set_cons_succ, i64_w, i32_w]; rfl
           refine take_ (i := 7) (N := some 177) (v := ?_) (a' := ?_) #[true, true, true, true, true, true, true, true, false, false, false, false, false, false, false, false, false, false] rfl rfl (by kernel_rfl) (fun _ _ _ h => h) (Or.inl ⟨by rfl, ?_⟩) hHeld ?_ ?_
           rotate_left; · rintro w' ⟨⟨s0, s1⟩, s2, s3, s4, s5, s6, s7⟩; go_simp; with_reducible rfl
           rotate_left; · simp only [Act.put, List.setIfInBounds_toArray, List.set_cons_zero, List.set_cons_succ, i64_w, i32_w]; rfl
           refine pure_ (i := 8) (N := some 178) (v := ?_) (a' := ?_) #[true, true, true, true, true, true, true, true, true, false, false, false, false, false, false, false, false, false] rfl rfl (by kernel_rfl) (fun _ _ _ h => h) (Or.inl ⟨by rfl, ?_⟩) ?_ ?_
           rotate_left; · intro w'; go_simp; with_reducible rfl
           rotate_left; · simp only [Act.put, List.setIfInBounds_toArray, List.set_cons_zero, List.set_cons_succ, i64_w, i32_w]; rfl
           refine take_ (i := 9) (N := some 179) (v := ?_) (a' := ?_) #[true, true, true, true, true, true, true, true, true, true, false, false, false, false, false, false, false, false] rfl rfl (by kernel_rfl) (fun _ _ _ h => h) (Or.inl ⟨by rfl, ?_⟩) hHeld ?_ ?_
           rotate_left; · rintro w' ⟨⟨s0, s1⟩, s2, s3, s4, s5, s6, s7⟩; go_simp; with_reducible rfl
           rotate_left; · simp only [Act.put, List.setIfInBounds_toArray, List.set_cons_zero, List.set_cons_succ, i64_w, i32_w]; rfl
           refine pure_ (i := 10) (N := some 180) (v := ?_) (a' := ?_) #[true, true, true, true, true, true, true, true, true, true, true, false, false, false, false, false, false, false] rfl rfl (by kernel_rfl) (fun _ _ _ h => h) (Or.inl ⟨by rfl, ?_⟩) ?_ ?_
           rotate_left; · intro w'; go_simp; with_reducible rfl
           rotate_left; · simp only [Act.put, List.setIfInBounds_toArray, List.set_cons_zero, List.set_cons_succ, i64_w, i32_w]; rfl
           refine take_ (i := 11) (N := some 181) (v := ?_) (a' := ?_) #[true, true, true, true, true, true, true, true, true, true, true, true, false, false, false, false, false, false] rfl rfl (by kernel_rfl) (fun _ _ _ h => h) (Or.inl ⟨by rfl, ?_⟩) hHeld ?_ ?_
           rotate_left; · rintro w' ⟨⟨s0, s1⟩, s2, s3, s4, s5, s6, s7⟩; go_simp; with_reducible rfl
           rotate_left; · simp only [Act.put, List.setIfInBounds_toArray, List.set_cons_zero, List.set_cons_succ, i64_w, i32_w]; rfl
           refine pure_ (i := 12) (N := some 182) (v := ?_) (a' := ?_) #[true, true, true, true, true, true, true, true, true, true, true, true, true, false, false, false, false, false] rfl rfl (by kernel_rfl) (fun _ _ _ h => h) (Or.inl ⟨by rfl, ?_⟩) ?_ ?_
           rotate_left; · intro w'; go_simp; with_reducible rfl
           rotate_left; · simp only [Act.put, List.setIfInBounds_toArray, List.set_cons_zero, List.set_cons_succ, i64_w, i32_w]; rfl
           refine take_ (i := 13) (N := some 183) (v := ?_) (a' := ?_) #[true, true, true, true, true, true, true, true, true, true, true, true, true, true, false, false, false, false] rfl rfl (by kernel_rfl) (fun _ _ _ h => h) (Or.inl ⟨by rfl, ?_⟩) hHeld ?_ ?_
           rotate_left; · rintro w' ⟨⟨s0, s1⟩, s2, s3, s4, s5, s6, s7⟩; go_simp; with_reducible rfl
           rotate_left; · simp only [Act.put, List.setIfInBounds_toArray, List.set_cons_zero, List.set_cons_succ, i64_w, i32_w]; rfl
           refine pure_ (i := 14) (N := some 184) (v := ?_) (a' := ?_) #[true, true, true, true, true, true, true, true, true, true, true, true, true, true, true, false, false, false] rfl rfl (by kernel_rfl) (fun _ _ _ h => h) (Or.inl ⟨by rfl, ?_⟩) ?_ ?_
           rotate_left; · intro w'; go_simp; with_reducible rfl
           rotate_left; · simp only [Act.put, List.setIfInBounds_toArray, List.set_cons_zero, List.set_cons_succ, i64_w, i32_w]; rfl
           refine take_ (i := 15) (N := some 185) (v := ?_) (a' := ?_) #[true, true, true, true, true, true, true, true, true, true, true, true, true, true, true, true, false, false] rfl rfl (by kernel_rfl) (fun _ _ _ h => h) (Or.inl ⟨by rfl, ?_⟩) hHeld ?_ ?_
           rotate_left; · rintro w' ⟨⟨s0, s1⟩, s2, s3, s4, s5, s6, s7⟩; go_simp; with_reducible rfl
           rotate_left; · simp only [Act.put, List.setIfInBounds_toArray, List.set_cons_zero, List.set_cons_succ, i64_w, i32_w]; rfl
           refine pure_ (i := 16) (N := some 186) (v := ?_) (a' := ?_) #[true, true, true, true, true, true, true, true, true, true, true, true, true, true, true, true, true, false] rfl rfl (by kernel_rfl) (fun _ _ _ h => h) (Or.inl ⟨by rfl, ?_⟩) ?_ ?_
           rotate_left; · intro w'; go_simp; with_reducible rfl
           rotate_left; · simp only [Act.put, List.setIfInBounds_toArray, List.set_cons_zero, List.set_cons_succ, i64_w, i32_w]; rfl
           refine last_ (i := 17) (N := some 187) #[true, true, true, true, true, true, true, true, true, true, true, true, true, true, true, true, true, true] rfl rfl (by kernel_rfl) (by decide) (fun K hK => ?_)
           refine call_ 63 #[.pointer (some ⟨gp, 0, none⟩), .int .i64 (wrap64 (bi + r0)), .int .i64 (wrap64 (bo + sa))] rfl rfl (by first | rfl | (go_simp; done) | (go_simp; rfl)) ?_
           refine (HTd.out.aimed (by rw [HW1.out]; exact HAT.out.1) (by rw [HW1.out]; exact HAT.out.2) HWW.out).mono ?_
           rintro e_ w8_ ⟨rfl, ht_⟩
           refine ⟨_, rfl, ?_⟩
           rw [HW1.out, HW2.out, ← HST.out] at ht_
           have HTn := Aside0.mk ht_
           refine hK.out _ _ ?_
           clear hK K HT HTd BR BD ht_ hHeld hcl hcv hcb hcs hr0 hd0 hd1
           refine done_ (by kernel_rfl) ?_
           have HT := HTn
           clear HTn
           go_wp2
           go_roundw
           case rel => exact ⟨j + 1, by first | rfl | rw [HWJ.out], HJL.out, HT⟩
           case measure => have hq := HJL.out; (try rw [HWJ.out]); simp only [intOf]; omega
          ·
           obtain rfl : j = x5.length := by omega
           have hltb2 : decide ((x5.length : Int) < (x5.length : Int)) = false := by simp
           have HTn := Aside0.mk (show TK w5 gp g20 g21 en (.slice Am fm.length cm) D2 (relT l d (i + 1)) wr by
            have h_ := HT.out
            have e_ : x5.length = (ob l i).f5.length := by rw [HXE.out]
            rw [e_] at h_
            exact h_)
           clear HT hlt2 hjle
           have HT := HTn
           clear HTn
           go_wp2
           go_roundw
           case rel => exact ⟨i + 1, by first | rfl | rw [HWI.out], HLT.out, HT⟩
           case measure => have hq := HLT.out; (try rw [HWI.out]); simp only [intOf]; omega
        ·
         obtain rfl : i = l.length := by omega
         have hltb : decide ((l.length : Int) < (l.length : Int)) = false := by simp
         obtain ⟨⟨vT, t1, t2, t3⟩, t4⟩ := HT.out
         obtain ⟨AT, cT, eT⟩ := Kd.R_slice t3
         subst eT
         have hg0 := blk_cell t1.b 0
         have hg1 := blk_cell t1.b 1
         have hg2 := blk_cell t1.b 2
         have hgp := t1.p.cell
         have HT3 := Aside0.mk t3
         have HT4 := Aside0.mk t4
         have HM9 := Aside0.mk (Kd.R_below HM5.out t1.low)
         have HL9 := Aside0.mk (HL5.out.below t1.low)
         have HK9 := Aside0.mk ((t1.low.block D (Array.getElem?_eq_some_iff.1 HK5.out).1).trans HK5.out)
         clear hlt hile HT t1 t2 t3 t4
         go_wp2_with (first | ((with_reducible refine gate_store (t := 46) rfl ?_); go_loud (refine wpList_store_whole rfl rfl rfl w.heap.size _ #[.slice AT (relT l d l.length).length cT, .int .i64 en, .slice Am fm.length cm] _ rfl rfl HL9.out.b6 (by kernel_rfl) rfl (img_one _ _ _ _ _ _ _) ?_; intro w9_ hp_; have k_ := put_grownN hp_; have B6 := Aside0.mk hp_.blk; have B7 := Aside0.mk (show Boxed w9_ (w.heap.size + 1) 31 (.int .i64 0) from blk_grown HL9.out.b7 k_ (fun z => by have := Option.some.inj z; omega)); have B8 := Aside0.mk (show Boxed w9_ (w.heap.size + 1 + 1) 3 (.int .i64 0) from blk_grown HL9.out.b8 k_ (fun z => by have := Option.some.inj z; omega)); have B9 := Aside0.mk (show Boxed w9_ (w.heap.size + 1 + 1 + 1) 3 (.int .i64 0) from blk_grown HL9.out.b9 k_ (fun z => by have := Option.some.inj z; omega)); have HTn := Aside0.mk (Kd.R_grown1 HT3.out rfl k_ (Kd.R_ne HT3.out HL9.out.b6 (by decide))); have HMn := Aside0.mk (Kd.R_grown1 HM9.out rfl k_ (Kd.R_ne HM9.out HL9.out.b6 (by decide))); have HKn := Aside0.mk (df_put HK9.out hp_ HL9.out.b6); have HK2n := Aside0.mk (df_put HT4.out hp_ HL9.out.b6); have HLWn := Aside0.mk (hp_.below HL9.out.low (Nat.le_refl _)); clear k_ hp_ HT3 HM9 HK9 HT4 HL9; have c7 := B7.out.cell; have f7 := B7.out.frozen; have c8 := (B8.out.other (B' := w.heap.size + 1) (by omega) (.int .i64 0)).cell; have f8 := (B8.out.other (B' := w.heap.size + 1) (by omega) (.int .i64 0)).frozen; have c9 := ((B9.out.other (B' := w.heap.size + 1) (by omega) (.int .i64 0)).other (B' := w.heap.size + 1 + 1) (by omega) (.int .i64 0)).cell; have f9 := ((B9.out.other (B' := w.heap.size + 1) (by omega) (.int .i64 0)).other (B' := w.heap.size + 1 + 1) (by omega) (.int .i64 0)).frozen)))
         have hErr : errL l entry mem 0 = 0 := by
          unfold errL
          rw [if_neg (show ¬ mem < 0 by have := HM.out.1; omega), if_neg (show ¬ mem > 4096 by have := HM.out.2; omega), if_neg (by decide), if_neg (by rw [HF.out]; intro z; cases z), if_neg (by rw [HBI.out]; decide), HFI.out]
         have hEnt : entL l entry mem 0 = en := by
          unfold entL
          rw [if_neg (by rw [hErr]; decide), HF.out, HEN.out]
         have hTx : txtL l d entry mem 0 = relT l d l.length := by
          unfold txtL
          rw [if_neg (by rw [hErr]; decide)]
         have hMm : memL l entry mem 0 = fm := by
          unfold memL
          rw [if_neg (by rw [hErr]; decide), HFI.out]
         have hd2 := HD2.out
         have hd1 := HD1.out
         have h45 := HL5.out.lt
         have h4 := (Array.getElem?_eq_some_iff.1 HK5.out).1
         have h7 := hsz7
         have hd0 : w.heap.size + 4 ≤ D := by omega
         have hd3 : w.heap.size + 4 ≤ D2 := by omega
         have hK1 := (Below.heap_setCell _ ⟨w.heap.size + 1 + 1 + 1, 0, none⟩ (.int .i64 0) D (by show D ≠ w.heap.size + 1 + 1 + 1; omega)).trans ((Below.heap_setCell _ ⟨w.heap.size + 1 + 1, 0, none⟩ (.int .i64 0) D (by show D ≠ w.heap.size + 1 + 1; omega)).trans ((Below.heap_setCell _ ⟨w.heap.size + 1, 0, none⟩ (.int .i64 0) D (by show D ≠ w.heap.size + 1; omega)).trans HKn.out))
         have hK2 := (Below.heap_setCell _ ⟨w.heap.size + 1 + 1 + 1, 0, none⟩ (.int .i64 0) D2 (by show D2 ≠ w.heap.size + 1 + 1 + 1; omega)).trans ((Below.heap_setCell _ ⟨w.heap.size + 1 + 1, 0, none⟩ (.int .i64 0) D2 (by show D2 ≠ w.heap.size + 1 + 1; omega)).trans ((Below.heap_setCell _ ⟨w.heap.size + 1, 0, none⟩ (.int .i64 0) D2 (by show D2 ≠ w.heap.size + 1; omega)).trans HK2n.out))
         refine leaf_ok (vT := .slice AT (relT l d l.length).length cT) (mv := .slice Am fm.length cm) rfl hK1 hK2 (by omega) (by omega) (by omega) rfl rfl rfl rfl ?_ hErr
         rw [hEnt, hTx, hMm]
         exact ((LF.mk HLWn.out B6.out B7.out B8.out B9.out (Kd.R_lower HTn.out (by omega)) (Kd.R_lower HMn.out (by omega))).set7.set8).set9
   case stop =>
    rintro D cc pre W hD ⟨k, hk, rfl⟩ ⟨⟨rfl, hno⟩, i, n, hL⟩ hK
    refine wpIn_wide.2 ?_
    have HL9 := Aside0.mk hL
    have HNO := Aside0.mk hno
    have HK := Aside0.mk hK
    clear hL hno hK
    go_wp2
    refine leaf_err2 HK.out (by omega) rfl rfl rfl rfl HL9.out ?_ (by decide) (fun _ _ h => absurd rfl h)
    have hbr : bigL l = true := by
     unfold bigL
     rw [List.any_eq_true]
     refine Classical.byContradiction fun hn2 => HNO.out fun i hi => Nat.lt_of_not_le fun hge => hn2 ⟨i, ?_, decide_eq_true hge⟩
     have := List.mem_range.1 hi
     exact List.mem_range.2 (by omega)
    unfold errL
    rw [if_neg (show ¬ mem < 0 by have := HM.out.1; omega), if_neg (show ¬ mem > 4096 by have := HM.out.2; omega), if_neg (by decide), if_neg (by rw [HF.out]; intro z; cases z), if_pos hbr]
theorem linkS.calls (A0 : Option Addr) (c0 : Nat) (l : List ObjT) (entry : ByteArray) (mem : Int) (d : List (List DefT)) (r2 r3 r4 : Int) (w : World) (hC : Kd.C k27 w A0 l.length l) (hlc : l.length ≤ c0) (hS : Small l) (hres : resolveR l = some (d, r2, r3, r4)) :
  Calls Tryd.prog 16 #[.slice A0 l.length c0, .string entry, .int .i64 mem] w (LinkR l d entry mem r2 r3 r4 w) :=
 link.calls A0 c0 l entry mem d r2 r3 r4 w hC hlc hS.len (fun i h => by have := hS.syms i h; omega) (fun i h => by have := hS.code i h; omega) (fun i h => by have := hS.rels i h; omega) hres (fun z => by subst z; exact (linkOK_of hS hres).lok) (fun z h => by
  subst z
  have hL := linkOK_of hS hres
  obtain ⟨q, a, e, hq, a0, a1⟩ := find_dst hL.fine h
  have := sizeS_ok (hL.fine.each q hq).osize
  rw [e]
  exact ⟨by show (0 : Int) ≤ ((q : Nat) : Int); omega, by show ((q : Nat) : Int) < _; omega, a0, by show a ≤ _; omega⟩)
end Go.Proofs.YtiaohbbafaaibabDoor.P
