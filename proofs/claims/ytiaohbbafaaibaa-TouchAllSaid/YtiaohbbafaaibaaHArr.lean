/- OWN TEXT: arrays in variables and by value: an element stored, the whole loaded, an index that is no constant; small words for walks by hand. -/
import Derived.Test.YtiaohbbafaaibaaP0
import Derived.ChangeKeysEq
import Derived.RowKit
import Derived.Laws.CopyRow
import Derived.Laws.Tables
namespace Go.Proofs.Ytiaohbbafaaibaa.Arr
open Go.RowKit Go.Proofs.YtiaohbbafaaibaaW.PrintWords
set_option linter.unusedVariables false
set_option linter.unusedSimpArgs false

theorem run_index_arr {P : Program} {w : World} {t e : TypeId} {n : Nat} {cs : Array Value} {k : IntKind} {i : Int} {v : Value} (h : P.underlying t = some (.array n e)) (hp : P.plainKey e = true) (hs : (sizeOf e).run P w = .ok 1 w)
    (h0 : 0 ≤ i) (hn : i < (n : Int)) (hv : cs[i.toNat]? = some v) : (Instr.index t (.agg cs) (.int k i)).run P w = .ok v w := by
  have hpart := run_part_plain (P := P) w hp hv
  simp only [Instr.index, asIntOf, Sem.run_bind, Sem.run_pure, Result.andThen_ok, run_underlying h, if_pos (And.intro h0 hn), hs, Nat.mul_one, hpart]

/-- What is known of a world in which block g alone has been written. -/
structure Put (W w1 : World) (g : Nat) (cs : Array Value) (e : TypeId) : Prop where
  blk : w1.heap[g]? = some (.cells cs e (0, 0))
  far : ∀ k, k ≠ g → w1.heap[k]? = W.heap[k]?
  size : w1.heap.size = W.heap.size
  below : ∀ {B : Nat} {w0 : World}, Below B w0 W → B ≤ g → Below B w0 w1

theorem put_set {W : World} {g j : Nat} {cs : Array Value} {e : TypeId} {x : Value} (hb : W.heap[g]? = some (.cells cs e (0, 0))) : Put W (W.setCell ⟨g, j, none⟩ x) g (cs.setIfInBounds j x) e :=
  ⟨blk_set hb j x, fun k hk => Below.heap_setCell W ⟨g, j, none⟩ x k hk, by simp [World.setCell], fun h hB => h.setCell hB x⟩

section
variable {P : Program} {ops : Array Oper} {rest : List Oper} {o : Oper} {a : Act} {Q : Exit → Act → World → Prop}
theorem run_store_one {W : World} {t : TypeId} {g j : Nat} {cs : Array Value} {e : TypeId} {x : Value} (hx1 : x.cells = #[x]) (h1 : x.oneCell' = true) (hs : (sizeOf t).run P W = .ok 1 W) (hb : W.heap[g]? = some (.cells cs e (0, 0))) (hj : j < cs.size) :
    (Instr.storeAt t (.pointer (some ⟨g, j, none⟩)) x).run P W = .ok () (W.setCell ⟨g, j, none⟩ x) := by
  have hst := run_storeCells_at P g j e [x] 0 cs W hb (by simp; omega) (by simpa using h1)
  have hrow : W.setRow g (cs.toList.take (j + 0) ++ [x] ++ cs.toList.drop (j + 0 + 1)).toArray = W.setCell ⟨g, j, none⟩ x := by
    have e2 : (cs.toList.take (j + 0) ++ [x] ++ cs.toList.drop (j + 0 + 1)).toArray = cs.setIfInBounds j x := by
      apply Array.ext'
      simp only [Array.toList_setIfInBounds, Nat.add_zero]
      rw [List.set_eq_take_append_cons_drop, if_pos (by simpa using hj)]
      simp
    rw [e2, setCell_eq_setRow W g j cs e (0, 0) x hb]
  simp only [Instr.storeAt, Instr.sureAddr, storeVar, Sem.run_bind, Sem.run_pure, Result.andThen_ok, hs, hx1]
  simp only [List.size_toArray, List.length_cons, List.length_nil, Nat.zero_add, ne_eq, not_true_eq_false, if_false, Sem.run_pure, Sem.run_bind, Result.andThen_ok]
  rw [← hrow]
  simpa using hst
theorem wpList_store_arr {W : World} (hgd : o.guard = none) (hN : o.dst = none) {t : TypeId} {p v : Operand} (ho : o.op = .store t p v) (g j : Nat) (cs : Array Value) (e : TypeId) (x : Value) (hp : a.eval p = .pointer (some ⟨g, j, none⟩)) (hv : a.eval v = x)
    (hx1 : x.cells = #[x]) (h1 : x.oneCell' = true) (hs : (sizeOf t).run P W = .ok 1 W) (hb : W.heap[g]? = some (.cells cs e (0, 0))) (hj : j < cs.size)
    (h : ∀ w1, Put W w1 g (cs.setIfInBounds j x) e → wpList P ops Q rest a w1) : wpList P ops Q (o :: rest) a W := by
  refine wpList_plain hgd fun K hK => ?_
  have hrun : (execOp a.eval o).run P W = .ok .skip (W.setCell ⟨g, j, none⟩ x) := by
    unfold execOp
    simp only [ho, hp, hv, Sem.run_bind, run_store_one hx1 h1 hs hb hj, Result.andThen_ok, Sem.run_pure]
  unfold Oper.wp
  rw [hrun]
  show K (a.put o.dst undef) _
  rw [hN]
  exact hK _ _ (h _ (put_set hb))
theorem wpList_store_arr_const {W : World} (hgd : o.guard = none) (hN : o.dst = none) {t : TypeId} {p : Operand} {x : Value} (ho : o.op = .store t p (.const x)) (g j : Nat) (cs cs' : Array Value) (e : TypeId) (hp : a.eval p = .pointer (some ⟨g, j, none⟩))
    (hx1 : x.cells = #[x]) (h1 : x.oneCell' = true) (hs : (sizeOf t).run P W = .ok 1 W) (hb : W.heap[g]? = some (.cells cs e (0, 0))) (hj : j < cs.size) (hcs : cs.setIfInBounds j x = cs')
    (h : ∀ w1, Put W w1 g cs' e → wpList P ops Q rest a w1) : wpList P ops Q (o :: rest) a W :=
  wpList_store_arr hgd hN ho g j cs e x hp rfl hx1 h1 hs hb hj (fun w1 hp => h w1 (hcs ▸ hp))
theorem put_row {W : World} {g : Nat} {old cs : Array Value} {e : TypeId} (hb : W.heap[g]? = some (.cells old e (0, 0))) : Put W (W.setRow g cs) g cs e :=
  ⟨setRow_heap W g old cs e (0, 0) hb, fun k hk => by simp [World.setRow, Array.getElem?_modify, Ne.symm hk], by simp [World.setRow], fun h hB => ⟨h.os, h.tape, h.output, by simpa [World.setRow] using h.size, fun i hi => by
    rw [← h.block i hi]
    simp [World.setRow, Array.getElem?_modify]
    intro e
    omega⟩⟩
theorem wpList_store_whole {W : World} (hgd : o.guard = none) (hN : o.dst = none) {t : TypeId} {p v : Operand} (ho : o.op = .store t p v) (g : Nat) (old cs : Array Value) (e : TypeId) (hp : a.eval p = .pointer (some ⟨g, 0, none⟩)) (hv : a.eval v = .agg cs)
    (hb : W.heap[g]? = some (.cells old e (0, 0))) (hi : (P.info? t).map (·.size) = some cs.size) (hsz : old.size = cs.size) (h1 : cs.all (·.oneCell') = true)
    (h : ∀ w1, Put W w1 g cs e → wpList P ops Q rest a w1) : wpList P ops Q (o :: rest) a W := by
  refine wpList_plain hgd fun K hK => ?_
  have hrun : (execOp a.eval o).run P W = .ok .skip (W.setRow g cs) := by
    unfold execOp
    have := run_storeVar_row (P := P) W g e t old cs hb hi hsz h1
    simp only [ho, hp, hv, Instr.storeAt, Instr.sureAddr, Sem.run_bind, Sem.run_pure, this, Result.andThen_ok]
  unfold Oper.wp
  rw [hrun]
  show K (a.put o.dst undef) _
  rw [hN]
  exact hK _ _ (h _ (put_row hb))
end

end Go.Proofs.Ytiaohbbafaaibaa.Arr
