/- OWN TEXT and printed parts of this claim, laid together: P0, HArr, HObjN, HMap, Ev, HObjS, Sq, HApL, HApM, HApA. -/
import Derived.Test.YtiaohbbafaaibabGreatDoorProg
import Derived.Test.YtiaohbbafaaibabGreatDoorZxWWords
import Derived.Test.YtiaohbbafaaibabGreatDoorZxWLast
import Derived.Test.YtiaohbbafaaibabGreatDoorZxWTab
import Derived.Test.YtiaohbbafaaibabGreatDoorZxWApart
import Derived.Test.YtiaohbbafaaibabGreatDoorZxWFoot
import Derived.Test.YtiaohbbafaaibabGreatDoorZxWKept
import Derived.Test.YtiaohbbafaaibabGreatDoorZxWShare
import Derived.Test.YtiaohbbafaaibabGreatDoorZxWN
import Derived.Test.YtiaohbbafaaibabGreatDoorZxWEqStruct
import Derived.Test.YtiaohbbafaaibabGreatDoorZxWRepsOne
import Derived.Test.YtiaohbbafaaibabGreatDoorZxWInv
import Derived.Test.YtiaohbbafaaibabGreatDoorZxWGuard
import Derived.Test.YtiaohbbafaaibabGreatDoorZxWMore
import Derived.Below
import Derived.Deep.Draws
import Derived.Deep.AppendLies
import Derived.Maps.AppendAt
import Derived.OwnWalk
import Derived.Laws.BytesArg
import Derived.Laws.MakeOwn
import Derived.Laws.OwnMore
import Derived.Deep.OwnRows
import Derived.Tactics
import Derived.Lib.ConvBytes
import Derived.Laws.Slices
import Derived.WalkKit
import Derived.KernelRfl
import Derived.RowKit3
import Derived.Deep.LoopGhost
import Derived.Deep.QuietTactic
import Derived.BigQuiet
import Derived.WideLaws
import Derived.Deep.DeepCutAuto
import Derived.Deep.CutBlock
import Derived.Deep.RegionHeld3
import Derived.Laws.Rows
import Derived.Lib.AppendStr
import Derived.ArgAppend
import Derived.Laws.IdiomCopy
import Derived.OrdersHeld
import Derived.Laws.BitsLemmas
import Derived.RowKit
import Derived.ChangeKeysEq
import Derived.Laws.CopyRow
import Derived.Laws.Tables
import Derived.Laws.RangeString
import Derived.Laws.RangeAny
import Derived.LoopTactic
import Derived.Tactics2
import Derived.Handy
import Derived.Maps.OwnSet
import Derived.OpenShut
import Derived.StringKeys
import Derived.MapViews
import Derived.ProofKit
import Derived.Great.Walk
/- What the Go functions named below come to, as plain functions, each with its proof; written by this session's prt.py over the kit's print. -/
namespace Go.Proofs.YtiaohbbafaaibabGreatDoor.P
open Go.RowKit Go.Proofs.YtiaohbbafaaibabGreatDoorW.PrintWords Go.Proofs.YtiaohbbafaaibabGreatDoorW.PrintLast Go.Proofs.YtiaohbbafaaibabGreatDoorW.PrintMore
attribute [local go_sem] max2_int min2_int max_two min_two max_three min_three max_four min_four   -- for this text's walks alone
set_option linter.unusedVariables false
set_option linter.unusedSimpArgs false



def errW : Option Int → Value
 | none => .nilIface
 | some c => .iface 0 (.int .i64 c)
theorem errW_none : errW none = .nilIface := rfl
theorem errW_some (c : Int) : errW (some c) = .iface 0 (.int .i64 c) := rfl

theorem info2 : (Tryz.prog.info? 2).map (fun i => (i.zero, i.size, i.bytes)) = some (some (.int .i64 0), 1, 8) := by kernel_rfl
theorem info5 : (Tryz.prog.info? 5).map (fun i => (i.zero, i.size, i.bytes)) = some (some (.int .u8 0), 1, 1) := by kernel_rfl
theorem info65 : (Tryz.prog.info? 65).map (fun i => (i.zero, i.size, i.bytes)) = some (some (.agg #[(.string ⟨#[]⟩), (.int .i8 0), (.int .i64 0)]), 3, 32) := by kernel_rfl
theorem info78 : (Tryz.prog.info? 78).map (fun i => (i.zero, i.size, i.bytes)) = some (some (.int .u32 0), 1, 4) := by kernel_rfl
theorem info82 : (Tryz.prog.info? 82).map (fun i => (i.zero, i.size, i.bytes)) = some (some (.agg #[(.int .i64 0), (.int .i64 0)]), 2, 16) := by kernel_rfl
-- the values' own types
/-! #### struct type 65 -/
structure S65 where
  f0 : ByteArray
  f1 : Int
  f2 : Int
def z65 : S65 := ⟨(⟨#[]⟩ : ByteArray), (0 : Int), (0 : Int)⟩
def k65 : Kd S65 := Kd.iso (Kd.pair Kd.string (Kd.pair (Kd.int .i8) (Kd.int .i64))) (fun x : S65 => (x.f0, x.f1, x.f2))
theorem k65_open {w : World} {x : S65} {cs : List Value} (h : k65.K w x cs) : cs = [.string x.f0, .int .i8 x.f1, .int .i64 x.f2] := by
 obtain ⟨_, _, rfl, rfl, ⟨_, _, rfl, rfl, rfl⟩⟩ := h
 exact rfl
theorem k65_openM {w : World} {base : Nat} {ok : Nat → Prop} {x : S65} {cs : List Value} (h : k65.M w base ok x cs) : cs = [.string x.f0, .int .i8 x.f1, .int .i64 x.f2] := by
 obtain ⟨_, _, rfl, rfl, ⟨_, _, rfl, rfl, rfl⟩⟩ := h
 exact rfl
theorem k65_mkM (w : World) (base : Nat) (ok : Nat → Prop) (x : S65)  : k65.M w base ok x [.string x.f0, .int .i8 x.f1, .int .i64 x.f2] := ⟨[.string x.f0], [.int .i8 x.f1, .int .i64 x.f2], rfl, rfl, ⟨[.int .i8 x.f1], [.int .i64 x.f2], rfl, rfl, rfl⟩⟩
def rd_T65 (xs : List S65) (i : Int) : S65 := xs.getD i.toNat z65
theorem at_T65 {w : World} {A : Option Addr} {n : Nat} {xs : List S65} (h : Kd.C k65 w A n xs) (i : Int) (h0 : 0 ≤ i) (h1 : i < n) : ∃ ad , A = some ad ∧ w.cell? (ad.add (i.toNat * 3)) = some (.string (rd_T65 xs i).f0) ∧ w.cell? ⟨(ad.add (i.toNat * 3)).block, (ad.add (i.toNat * 3)).off + 1, none⟩ = some (.int .i8 (rd_T65 xs i).f1) ∧ w.cell? ⟨(ad.add (i.toNat * 3)).block, (ad.add (i.toNat * 3)).off + 2, none⟩ = some (.int .i64 (rd_T65 xs i).f2) := by
 obtain ⟨ad, c, e, _, hK, hc0⟩ := Kd.C_get h z65 i h0 h1
 have hc : ∀ j u, c[j]? = some u → w.cell? (ad.add (i.toNat * 3 + j)) = some u := hc0
 obtain rfl := k65_open hK
 exact ⟨ad, e, hc 0 _ rfl, by rw [← add_field _ _ 1 (by omega)]; exact hc 1 _ rfl, by rw [← add_field _ _ 2 (by omega)]; exact hc 2 _ rfl⟩

/-! #### struct type 82 -/
structure S82 where
  f0 : Int
  f1 : Int
def z82 : S82 := ⟨(0 : Int), (0 : Int)⟩
def k82 : Kd S82 := Kd.iso (Kd.pair (Kd.int .i64) (Kd.int .i64)) (fun x : S82 => (x.f0, x.f1))
theorem k82_open {w : World} {x : S82} {cs : List Value} (h : k82.K w x cs) : cs = [.int .i64 x.f0, .int .i64 x.f1] := by
 obtain ⟨_, _, rfl, rfl, rfl⟩ := h
 exact rfl
theorem k82_openM {w : World} {base : Nat} {ok : Nat → Prop} {x : S82} {cs : List Value} (h : k82.M w base ok x cs) : cs = [.int .i64 x.f0, .int .i64 x.f1] := by
 obtain ⟨_, _, rfl, rfl, rfl⟩ := h
 exact rfl
theorem k82_mkM (w : World) (base : Nat) (ok : Nat → Prop) (x : S82)  : k82.M w base ok x [.int .i64 x.f0, .int .i64 x.f1] := ⟨[.int .i64 x.f0], [.int .i64 x.f1], rfl, rfl, rfl⟩
def rd_T82 (xs : List S82) (i : Int) : S82 := xs.getD i.toNat z82
theorem at_T82 {w : World} {A : Option Addr} {n : Nat} {xs : List S82} (h : Kd.C k82 w A n xs) (i : Int) (h0 : 0 ≤ i) (h1 : i < n) : ∃ ad , A = some ad ∧ w.cell? (ad.add (i.toNat * 2)) = some (.int .i64 (rd_T82 xs i).f0) ∧ w.cell? ⟨(ad.add (i.toNat * 2)).block, (ad.add (i.toNat * 2)).off + 1, none⟩ = some (.int .i64 (rd_T82 xs i).f1) := by
 obtain ⟨ad, c, e, _, hK, hc0⟩ := Kd.C_get h z82 i h0 h1
 have hc : ∀ j u, c[j]? = some u → w.cell? (ad.add (i.toNat * 2 + j)) = some u := hc0
 obtain rfl := k82_open hK
 exact ⟨ad, e, hc 0 _ rfl, by rw [← add_field _ _ 1 (by omega)]; exact hc 1 _ rfl⟩

/-! #### struct type 140 -/
structure S140 where
  f0 : Int
  f1 : Int
  f2 : Int
  f3 : Int
  f4 : Int
/-! #### struct type 27 -/
structure S27 where
  f0 : ByteArray
  f1 : (List Int)
  f2 : Int
  f3 : (List Int)
  f4 : (List S65)
  f5 : (List S82)
def k27 : Kd S27 := Kd.iso (Kd.pair Kd.string (Kd.pair (Kd.slice 78 (Kd.int .u32)) (Kd.pair (Kd.int .i64) (Kd.pair (Kd.slice 2 (Kd.int .i64)) (Kd.pair (Kd.slice 65 k65) (Kd.slice 82 k82)))))) (fun x : S27 => (x.f0, x.f1, x.f2, x.f3, x.f4, x.f5))
theorem k27_open {w : World} {x : S27} {cs : List Value} (h : k27.K w x cs) : ∃ A1 c1 A3 c3 A4 c4 A5 c5, cs = [.string x.f0, .slice A1 x.f1.length c1, .int .i64 x.f2, .slice A3 x.f3.length c3, .slice A4 x.f4.length c4, .slice A5 x.f5.length c5] ∧ x.f1.length ≤ c1 ∧ (Kd.int .u32).C w A1 x.f1.length x.f1 ∧ x.f3.length ≤ c3 ∧ (Kd.int .i64).C w A3 x.f3.length x.f3 ∧ x.f4.length ≤ c4 ∧ k65.C w A4 x.f4.length x.f4 ∧ x.f5.length ≤ c5 ∧ k82.C w A5 x.f5.length x.f5 := by
 obtain ⟨_, _, rfl, rfl, ⟨_, _, rfl, ⟨A1, c1, rfl, l1, g1⟩, ⟨_, _, rfl, rfl, ⟨_, _, rfl, ⟨A3, c3, rfl, l3, g3⟩, ⟨_, _, rfl, ⟨A4, c4, rfl, l4, g4⟩, ⟨A5, c5, rfl, l5, g5⟩⟩⟩⟩⟩⟩ := h
 exact ⟨A1, c1, A3, c3, A4, c4, A5, c5, rfl, l1, g1, l3, g3, l4, g4, l5, g5⟩
/-! #### struct type 137 -/
structure S137 where
  f0 : Int
  f1 : Bool
/-! #### struct type 143 -/
structure S143 where
  f0 : Int
  f1 : Int
/-! #### struct type 146 -/
structure S146 where
  f0 : Int
  f1 : Int
/-! #### struct type 149 -/
structure S149 where
  f0 : Int
  f1 : Int
  f2 : Int
/-! #### struct type 152 -/
structure S152 where
  f0 : Int
  f1 : (List Int)
/-! #### struct type 155 -/
structure S155 where
  f0 : Int
  f1 : (List S149)
  f2 : Int
end Go.Proofs.YtiaohbbafaaibabGreatDoor.P

/- OWN TEXT: arrays in variables and by value: an element stored, the whole loaded, an index that is no constant; small words for walks by hand. -/
namespace Go.Proofs.YtiaohbbafaaibabGreatDoor.Arr
open Go.RowKit Go.Proofs.YtiaohbbafaaibabGreatDoorW.PrintWords
set_option linter.unusedVariables false
set_option linter.unusedSimpArgs false

theorem run_index_arr {P : Program} {w : World} {t e : TypeId} {n : Nat} {cs : Array Value} {k : IntKind} {i : Int} {v : Value} (h : P.underlying t = some (.array n e)) (hp : P.plainKey e = true) (hs : (sizeOf e).run P w = .ok 1 w)
  (h0 : 0 ≤ i) (hn : i < (n : Int)) (hv : cs[i.toNat]? = some v) : (Instr.index t (.agg cs) (.int k i)).run P w = .ok v w := by
 have hpart := run_part_plain (P := P) w hp hv
 simp only [Instr.index, asIntOf, Sem.run_bind, Sem.run_pure, Result.andThen_ok, run_underlying h, if_pos (And.intro h0 hn), hs, Nat.mul_one, hpart]

/-- What is known of a world in which block g alone has been written. -/
structure Put (W w1 : World) (g : Nat) (cs : Array Value) (e : TypeId) : Prop where
  blk : w1.heap[g]? = some (.cells cs e (0, 0))
  far : ∀ k, k ≠ g → w1.heap[k]? = W.heap[k]?
  size : w1.heap.size = W.heap.size
  below : ∀ {B : Nat} {w0 : World}, Below B w0 W → B ≤ g → Below B w0 w1

theorem put_set {W : World} {g j : Nat} {cs : Array Value} {e : TypeId} {x : Value} (hb : W.heap[g]? = some (.cells cs e (0, 0))) : Put W (W.setCell ⟨g, j, none⟩ x) g (cs.setIfInBounds j x) e :=
 ⟨blk_set hb j x, fun k hk => Below.heap_setCell W ⟨g, j, none⟩ x k hk, by simp [World.setCell], fun h hB => h.setCell hB x⟩

section
variable {P : Program} {ops : Array Oper} {rest : List Oper} {o : Oper} {a : Act} {Q : Exit → Act → World → Prop}
theorem run_store_one {W : World} {t : TypeId} {g j : Nat} {cs : Array Value} {e : TypeId} {x : Value} (hx1 : x.cells = #[x]) (h1 : x.oneCell' = true) (hs : (sizeOf t).run P W = .ok 1 W) (hb : W.heap[g]? = some (.cells cs e (0, 0))) (hj : j < cs.size) :
  (Instr.storeAt t (.pointer (some ⟨g, j, none⟩)) x).run P W = .ok () (W.setCell ⟨g, j, none⟩ x) := by
 have hst := run_storeCells_at P g j e [x] 0 cs W hb (by simp; omega) (by simpa using h1)
 have hrow : W.setRow g (cs.toList.take (j + 0) ++ [x] ++ cs.toList.drop (j + 0 + 1)).toArray = W.setCell ⟨g, j, none⟩ x := by
  have e2 : (cs.toList.take (j + 0) ++ [x] ++ cs.toList.drop (j + 0 + 1)).toArray = cs.setIfInBounds j x := by
   apply Array.ext'
   simp only [Array.toList_setIfInBounds, Nat.add_zero]
   rw [List.set_eq_take_append_cons_drop, if_pos (by simpa using hj)]
   simp
  rw [e2, setCell_eq_setRow W g j cs e (0, 0) x hb]
 simp only [Instr.storeAt, Instr.sureAddr, storeVar, Sem.run_bind, Sem.run_pure, Result.andThen_ok, hs, hx1]
 simp only [List.size_toArray, List.length_cons, List.length_nil, Nat.zero_add, ne_eq, not_true_eq_false, if_false, Sem.run_pure, Sem.run_bind, Result.andThen_ok]
 rw [← hrow]
 simpa using hst
theorem wpList_store_arr {W : World} (hgd : o.guard = none) (hN : o.dst = none) {t : TypeId} {p v : Operand} (ho : o.op = .store t p v) (g j : Nat) (cs : Array Value) (e : TypeId) (x : Value) (hp : a.eval p = .pointer (some ⟨g, j, none⟩)) (hv : a.eval v = x)
  (hx1 : x.cells = #[x]) (h1 : x.oneCell' = true) (hs : (sizeOf t).run P W = .ok 1 W) (hb : W.heap[g]? = some (.cells cs e (0, 0))) (hj : j < cs.size)
  (h : ∀ w1, Put W w1 g (cs.setIfInBounds j x) e → wpList P ops Q rest a w1) : wpList P ops Q (o :: rest) a W := by
 refine wpList_plain hgd fun K hK => ?_
 have hrun : (execOp a.eval o).run P W = .ok .skip (W.setCell ⟨g, j, none⟩ x) := by
  unfold execOp
  simp only [ho, hp, hv, Sem.run_bind, run_store_one hx1 h1 hs hb hj, Result.andThen_ok, Sem.run_pure]
 unfold Oper.wp
 rw [hrun]
 show K (a.put o.dst undef) _
 rw [hN]
 exact hK _ _ (h _ (put_set hb))
theorem wpList_store_arr_const {W : World} (hgd : o.guard = none) (hN : o.dst = none) {t : TypeId} {p : Operand} {x : Value} (ho : o.op = .store t p (.const x)) (g j : Nat) (cs cs' : Array Value) (e : TypeId) (hp : a.eval p = .pointer (some ⟨g, j, none⟩))
  (hx1 : x.cells = #[x]) (h1 : x.oneCell' = true) (hs : (sizeOf t).run P W = .ok 1 W) (hb : W.heap[g]? = some (.cells cs e (0, 0))) (hj : j < cs.size) (hcs : cs.setIfInBounds j x = cs')
  (h : ∀ w1, Put W w1 g cs' e → wpList P ops Q rest a w1) : wpList P ops Q (o :: rest) a W :=
 wpList_store_arr hgd hN ho g j cs e x hp rfl hx1 h1 hs hb hj (fun w1 hp => h w1 (hcs ▸ hp))
theorem put_row {W : World} {g : Nat} {old cs : Array Value} {e : TypeId} (hb : W.heap[g]? = some (.cells old e (0, 0))) : Put W (W.setRow g cs) g cs e :=
  ⟨setRow_heap W g old cs e (0, 0) hb, fun k hk => by simp [World.setRow, Array.getElem?_modify, Ne.symm hk], by simp [World.setRow], fun h hB => ⟨h.os, h.tape, h.output, by simpa [World.setRow] using h.size, fun i hi => by
    rw [← h.block i hi]
    simp [World.setRow, Array.getElem?_modify]
    intro e
    omega⟩⟩
theorem wpList_store_whole {W : World} (hgd : o.guard = none) (hN : o.dst = none) {t : TypeId} {p v : Operand} (ho : o.op = .store t p v) (g : Nat) (old cs : Array Value) (e : TypeId) (hp : a.eval p = .pointer (some ⟨g, 0, none⟩)) (hv : a.eval v = .agg cs)
  (hb : W.heap[g]? = some (.cells old e (0, 0))) (hi : (P.info? t).map (·.size) = some cs.size) (hsz : old.size = cs.size) (h1 : cs.all (·.oneCell') = true)
  (h : ∀ w1, Put W w1 g cs e → wpList P ops Q rest a w1) : wpList P ops Q (o :: rest) a W := by
 refine wpList_plain hgd fun K hK => ?_
 have hrun : (execOp a.eval o).run P W = .ok .skip (W.setRow g cs) := by
  unfold execOp
  have := run_storeVar_row (P := P) W g e t old cs hb hi hsz h1
  simp only [ho, hp, hv, Instr.storeAt, Instr.sureAddr, Sem.run_bind, Sem.run_pure, this, Result.andThen_ok]
 unfold Oper.wp
 rw [hrun]
 show K (a.put o.dst undef) _
 rw [hN]
 exact hK _ _ (h _ (put_row hb))
end

end Go.Proofs.YtiaohbbafaaibabGreatDoor.Arr

/- OWN TEXT: what object.Name comes to (it ranges over a text, which the print does not take), in the print's own form. -/
namespace Go.Proofs.YtiaohbbafaaibabGreatDoor.P
open Go.RowKit Go.Proofs.YtiaohbbafaaibabGreatDoorW.PrintWords Go.Proofs.YtiaohbbafaaibabGreatDoorW.PrintLast Go.Proofs.YtiaohbbafaaibabGreatDoorW.PrintMore
set_option linter.unusedVariables false
set_option linter.unusedSimpArgs false

def OkC (i : Nat) (c : Int) : Prop := (97 ≤ c ∧ c ≤ 122) ∨ (65 ≤ c ∧ c ≤ 90) ∨ c = 95 ∨ (0 < i ∧ ((48 ≤ c ∧ c ≤ 57) ∨ c = 46))
instance (i : Nat) (c : Int) : Decidable (OkC i c) := by unfold OkC; infer_instance
def nameS (s : ByteArray) : Bool := decide (0 < s.size ∧ s.size ≤ 24 ∧ ∀ j, j < s.size → OkC j (bt s (j : Int)))
def object_Name.f (a0 : ByteArray) : Option (Bool) := some (nameS a0)
theorem decode_bt (s : ByteArray) (pos : Nat) (h : pos < s.size) : (((Utf8.decode s pos).1 : Int) = bt s (pos : Int) ∧ (Utf8.decode s pos).2 = 1) ∨ (128 ≤ ((Utf8.decode s pos).1 : Int) ∧ 128 ≤ bt s (pos : Int) ∧ 1 ≤ (Utf8.decode s pos).2) := by
 have hb : ((s[pos]'h).toNat : Int) = bt s (pos : Int) := bt_at s (pos : Int) (by simpa using h)
 by_cases ha : (s[pos]'h).toNat < 128
 ·
  rw [decode_ascii s pos h ha]
  exact .inl ⟨hb, rfl⟩
 ·
  have := decode_high s pos h (by omega)
  exact .inr ⟨by omega, by omega, this.2⟩
set_option maxHeartbeats 4000000 in
set_option maxRecDepth 100000 in
theorem object_Name.calls (a0 : ByteArray) (r : Bool) (w : World) (h : object_Name.f a0 = some r) :
    Calls Tryz.prog 103 #[.string a0] w fun e w' => e = .returned (.bool r) ∧ Below w.heap.size w w' := by
  have h : nameS a0 = r := Option.some.inj h
  by_cases c0 : a0.size = 0
  · have hr : false = r := by rw [← h]; unfold nameS; exact (decide_eq_false (by omega)).symm
    subst hr
    have c0b : ((a0.size : Int) == 0) = true := by simp [c0]
    have c0c : (a0.size == 0) = true := by simp [c0]
    go_enter Tryz.func103, Tryz.ntmps103
    go_wp2
    go_ret
    exact ⟨rfl, Below.refl _ _⟩
  have c0b : ((a0.size : Int) == 0) = false := beq_eq_false_iff_ne.mpr (by omega)
  by_cases c1 : 24 < a0.size
  · have hr : false = r := by rw [← h]; unfold nameS; exact (decide_eq_false (by omega)).symm
    subst hr
    have c1b : decide ((24 : Int) < (a0.size : Int)) = true := decide_eq_true (by omega)
    go_enter Tryz.func103, Tryz.ntmps103
    go_wp2
    go_ret
    exact ⟨rfl, Below.refl _ _⟩
  have c1b : decide ((24 : Int) < (a0.size : Int)) = false := decide_eq_false (by omega)
  go_enter Tryz.func103, Tryz.ntmps103
  go_wp2
  go_loopw [15] (fun _ wr => ∃ pos : Nat, wr = w.iter a0 pos ∧ pos ≤ a0.size ∧ ∀ j, j < pos → OkC j (bt a0 (j : Int))) (fun _ wr => a0.size - wr.iterPos w.heap.size)
  case atStart => exact ⟨0, rfl, Nat.zero_le _, fun j hj => absurd hj (Nat.not_lt_zero _)⟩
  case round =>
    obtain ⟨pos, rfl, hle, hok⟩ := hrel
    by_cases hp : pos < a0.size
    · have hnx : ∀ ty, (Instr.next (.pointer (some ⟨w.heap.size, 0, none⟩)) true ty).run Tryz.prog (w.iter a0 pos) = _ := fun ty => run_next_any w a0 pos ty hp
      have hdec := decode_bt a0 pos hp
      generalize hd : Utf8.decode a0 pos = d at hnx hdec
      obtain ⟨c, wd⟩ := d
      simp only at hnx hdec
      by_cases hc : OkC pos (c : Int)
      · have hcb : (c : Int) = bt a0 (pos : Int) ∧ wd = 1 := by
          unfold OkC at hc
          omega
        obtain ⟨e1, e2⟩ := hcb
        subst e2
        have hnext : (∃ pos' : Nat, w.iter a0 (pos + 1) = w.iter a0 pos' ∧ pos' ≤ a0.size ∧ ∀ j, j < pos' → OkC j (bt a0 (j : Int))) := by
          refine ⟨pos + 1, rfl, by omega, fun j hj => ?_⟩
          by_cases e : j = pos
          · subst e; rw [← e1]; exact hc
          · exact hok j (by omega)
        clear hok hdec hd h e1
        unfold OkC at hc
        go_wp2
        all_goals first
          | (exfalso; simp at *; omega)
          | (go_roundw
             case rel => exact hnext
             case measure => simp; omega)
      · have hr : false = r := by
          rw [← h]
          unfold nameS
          refine (decide_eq_false (fun hall => ?_)).symm
          have := hall.2.2 pos hp
          unfold OkC at hc this
          omega
        subst hr
        clear hok hdec hd h
        unfold OkC at hc
        go_wp2
        all_goals first
          | (exfalso; simp at *; omega)
          | (go_ret; exact ⟨rfl, (Below.refl _ _).alloc (Nat.le_refl _) _⟩)
    · have hnx : ∀ ty, (Instr.next (.pointer (some ⟨w.heap.size, 0, none⟩)) true ty).run Tryz.prog (w.iter a0 pos) = _ := fun ty => run_next_end w a0 pos ty hp
      have hr : true = r := by
        rw [← h]
        unfold nameS
        exact (decide_eq_true ⟨by omega, by omega, fun j hj => hok j (by omega)⟩).symm
      subst hr
      go_wp2
      go_ret
      exact ⟨rfl, (Below.refl _ _).alloc (Nat.le_refl _) _⟩
end Go.Proofs.YtiaohbbafaaibabGreatDoor.P

/- OWN TEXT: a map[K]bool that a call has made and uses as a set: what it holds, how a look-up without 'ok' answers, how a store turns it. -/
namespace Go.Proofs.YtiaohbbafaaibabGreatDoor.MapB
open Go.RowKit Go.Maps Go.Proofs.YtiaohbbafaaibabGreatDoorW.PrintWords Go.Proofs.YtiaohbbafaaibabGreatDoor.Arr
set_option linter.unusedVariables false
set_option linter.unusedSimpArgs false

def Seen (w : World) (P : Program) (k e : TypeId) (b n : Nat) (S : Lit → Bool) : Prop :=
 ∃ D : DataW Unit, w.ownsMap P k (plainElem P e) b n D ∧ ∀ kl, WideAt.IsKeyLit kl → D.atKey kl (.lit (.bool false)) = .lit (.bool (S kl))
def addS (S : Lit → Bool) (kl : Lit) : Lit → Bool := fun l => l.sameKey kl || S l
variable {P : Program} {k e : TypeId} {w : World} {b n : Nat} {S : Lit → Bool}
theorem Seen.made (w : World) (P : Program) (k e : TypeId) : Seen (w.alloc (.map #[] 0)) P k e w.heap.size 0 (fun _ => false) :=
 ⟨.map [], World.ownsMap_made w P k _, fun kl _ => rfl⟩
theorem Seen.kept {w' : World} {row : Option Nat} (h : Seen w P k e b n S) (hg : w.grownBy w' row) (hne : some b ≠ row) : Seen w' P k e b n S := by
 obtain ⟨D, h1, h2⟩ := h
 exact ⟨D, h1.kept hg hne, h2⟩
theorem Seen.alloc (h : Seen w P k e b n S) (o : Obj) : Seen (w.alloc o) P k e b n S := h.kept (World.grownBy_alloc w o none) (by simp)
theorem Seen.below {w' : World} (h : Seen w P k e b n S) (hb : Below w.heap.size w w') : Seen w' P k e b n S := h.kept (grown_of_below hb none) (by simp)
theorem Seen.setCell (h : Seen w P k e b n S) {a : Addr} (ha : b ≠ a.block) (u : Value) : Seen (w.setCell a u) P k e b n S := by
 obtain ⟨D, h1, h2⟩ := h
 exact ⟨D, h1.setCell ha u, h2⟩
theorem Seen.mono (h : Seen w P k e b n S) {n' : Nat} (hn : n ≤ n') : Seen w P k e b n' S := by
 obtain ⟨D, h1, h2⟩ := h
 exact ⟨D, h1.mono hn, h2⟩
theorem Seen.to {S' : Lit → Bool} (h : Seen w P k e b n S) (e1 : S = S') : Seen w P k e b n S' := e1 ▸ h
theorem Seen.lt (h : Seen w P k e b n S) : b < w.heap.size := by
 obtain ⟨D, h1, h2⟩ := h
 exact h1.lt
theorem plainElem_bool_inv {H : Type} {P : Program} {e : TypeId} (he : P.underlying e = some .bool) {v : Value} {z : DataW H × List MemPlace} (h : plainElem P e v = some z) : ∃ x, v = .bool x ∧ z = (.lit (.bool x), []) := by
 unfold plainElem at h
 rw [he] at h
 cases v <;> simp at h
 exact ⟨_, rfl, h.symm⟩
theorem Seen.lookup {t : TypeId} (h : Seen w P k e b n S) (K : Keyed P k) (ht : P.underlying t = some (.map k e)) (he : P.underlying e = some .bool) (hz : (zeroValue e).run P w = .ok (.bool false) w)
  {key : Value} {kl : Lit} (hkey : keyOf P k key = some kl) (hkl : WideAt.IsKeyLit kl) : (Instr.lookup t (.map (some b)) key false).run P w = .ok (.bool (S kl)) w := by
 obtain ⟨D, h1, h2⟩ := h
 obtain ⟨v, ps, hrun, hv⟩ := h1.lookup K ht hz (plainElem_bool (H := Unit) he false) hkey
 obtain ⟨x, rfl, hx⟩ := plainElem_bool_inv he hv
 have hx1 := congrArg Prod.fst hx
 rw [h2 kl hkl] at hx1
 have hx2 : S kl = x := by
  have := DataW.lit.inj hx1
  injection this
 rw [hx2]
 exact hrun
theorem Seen.add {t : TypeId} (h : Seen w P k e b n S) (K : Keyed P k) (ht : P.underlying t = some (.map k e)) (he : P.underlying e = some .bool) (hn : n < maxLen)
  {key : Value} {kl : Lit} (hkey : keyOf P k key = some kl) (hkl : WideAt.IsKeyLit kl) : ∃ w', (Instr.mapUpdate t (.map (some b)) key (.bool true)).run P w = .ok () w' ∧ Seen w' P k e b (n + 1) (addS S kl) ∧ w.grownBy w' (some b) := by
 obtain ⟨D, h1, h2⟩ := h
 obtain ⟨w', r1, r2, r3⟩ := h1.update K ht hn hkey (plainElem_bool (H := Unit) he true)
 refine ⟨w', r1, ⟨_, r2, fun l hl => ?_⟩, r3⟩
 unfold addS
 by_cases hc : l = kl
 ·
  subst hc
  rw [atKey_put_same h1.isMap hkl, WideAt.sameKey_self hkl]
  rfl
 ·
  rw [atKey_put_other hc, h2 l hl, sameKey_ne hc]
  rfl
section
variable {ops : Array Oper} {rest : List Oper} {o : Oper} {a : Act} {Q : Exit → Act → World → Prop}
theorem wpList_lookup_seen (hg : o.guard = none) (m x : Operand) (t : TypeId) (hop : o.op = Op.lookup t m x false)
  (k e : TypeId) (K : Keyed P k) (ht : P.underlying t = some (.map k e)) (he : P.underlying e = some .bool) (hz : (zeroValue e).run P w = .ok (.bool false) w) (b n : Nat) (S : Lit → Bool)
  (hm : a.eval m = .map (some b)) (hs : Seen w P k e b n S) (key : Value) (kl : Lit) (hx : a.eval x = key) (hkey : keyOf P k key = some kl) (hkl : WideAt.IsKeyLit kl)
  (hK : wpList P ops Q rest (a.put o.dst (.bool (S kl))) w) : wpList P ops Q (o :: rest) a w := by
 refine wpList_plain hg fun K' hK' => ?_
 have hrun := hs.lookup K ht he hz hkey hkl
 unfold Oper.wp
 simp [execOp, hop, hm, hx, hrun, Result.andThen]
 exact hK' _ _ hK
theorem wpList_update_seen (hg : o.guard = none) (m x v : Operand) (t : TypeId) (hop : o.op = Op.mapUpdate t m x v)
  (k e : TypeId) (K : Keyed P k) (ht : P.underlying t = some (.map k e)) (he : P.underlying e = some .bool) (b n : Nat) (S : Lit → Bool)
  (hm : a.eval m = .map (some b)) (hs : Seen w P k e b n S) (hn : n < maxLen) (key : Value) (kl : Lit) (hx : a.eval x = key) (hv : a.eval v = .bool true) (hkey : keyOf P k key = some kl) (hkl : WideAt.IsKeyLit kl)
  (hK : ∀ w', Seen w' P k e b (n + 1) (addS S kl) → w.grownBy w' (some b) → wpList P ops Q rest (a.put o.dst undef) w') : wpList P ops Q (o :: rest) a w := by
 refine wpList_plain hg fun K' hK' => ?_
 obtain ⟨w', hrun, r1, r2⟩ := hs.add K ht he hn hkey hkl
 unfold Oper.wp
 simp [execOp, hop, hm, hx, hv, hrun, Result.andThen]
 exact hK' _ _ (hK w' r1 r2)
theorem wpList_make_map {W : World} (hgd : o.guard = none) {N : Tmp} (_hd : o.dst = some N) {t : TypeId} (hop : o.op = Op.makeMap t none)
  (hrun : (execOp a.eval o).run P W = .ok (.value (.map (some W.heap.size))) (W.alloc (.map #[] 0)))
  (h : ∀ g, g = W.heap.size → ∀ w1, Seen w1 P k e g 0 (fun _ => false) → Below W.heap.size W w1 → wpList P ops Q rest (a.put o.dst (.map (some g))) w1) : wpList P ops Q (o :: rest) a W :=
 Kd.event_run hgd hrun (h _ rfl _ (Seen.made W P k e) (below_alloc (Below.refl _ _) _))
end
end Go.Proofs.YtiaohbbafaaibabGreatDoor.MapB

/- OWN TEXT: small words for the pure statements: what a function with rounds comes to in the end. -/
set_option linter.unusedVariables false
set_option linter.unusedSimpArgs false
namespace Go.Proofs.YtiaohbbafaaibabGreatDoorW.PrintWords
open Go.RowKit

theorem Ev.succ {α : Type} {g : Nat → Option α} {r : α} (h : Ev (fun k => g (k + 1)) r) : Ev g r := Ev.step (fun _ => rfl) h
theorem Ev.val {α : Type} {a r : α} (h : a = r) : Ev (fun _ => some a) r := h ▸ Ev.now _
theorem Ev.bind0 {α β : Type} {g : Option α} {f : Nat → α → Option β} {a : α} {r : β} (h : g = some a) (k : Ev (fun n => f n a) r) : Ev (fun n => g.bind (f n)) r := by
 subst h; exact k
theorem Ev.iteT {α : Type} {c : Prop} [Decidable c] {a b : Nat → Option α} {r : α} (hc : c) (h : Ev a r) : Ev (fun k => if c then a k else b k) r := by
 simpa only [if_pos hc] using h
theorem Ev.iteF {α : Type} {c : Prop} [Decidable c] {a b : Nat → Option α} {r : α} (hc : ¬ c) (h : Ev b r) : Ev (fun k => if c then a k else b k) r := by
 simpa only [if_neg hc] using h
theorem Ev.ite2 {α : Type} {c : Prop} [Decidable c] {a b : Nat → Option α} {r : α} (h1 : c → Ev a r) (h2 : ¬ c → Ev b r) : Ev (fun k => if c then a k else b k) r := by
 by_cases hc : c
 ·
  exact Ev.iteT hc (h1 hc)
 ·
  exact Ev.iteF hc (h2 hc)
theorem Ev.to {α : Type} {g : Nat → Option α} {r r' : α} (h : Ev g r) (e : r = r') : Ev g r' := e ▸ h
theorem wrap64_id {x : Int} (h1 : -9223372036854775808 ≤ x) (h2 : x ≤ 9223372036854775807) : wrap64 x = x := by unfold wrap64; omega
theorem wf_u32 {x : Int} (h : (Lit.int .u32 x).wf = true) : 0 ≤ x ∧ x ≤ 4294967295 := by have := bounds_u32 h; omega

theorem rd_get {l : List Int} {i : Nat} (h : i < l.length) : rd l (i : Int) = l[i] := by
 unfold rd
 rw [Int.toNat_natCast, List.getD_eq_getElem?_getD, List.getElem?_eq_getElem h]
 rfl
theorem drop_get {α : Type} {l : List α} {i : Nat} (h : i < l.length) : l.drop i = l[i] :: l.drop (i + 1) := List.drop_eq_getElem_cons h

end Go.Proofs.YtiaohbbafaaibabGreatDoorW.PrintWords

/- OWN TEXT: what object.symbols comes to (it keeps a set of names in a map, which the print does not take). -/
namespace Go.Proofs.YtiaohbbafaaibabGreatDoor.P
open Go.RowKit Go.Maps Go.Proofs.YtiaohbbafaaibabGreatDoorW.PrintWords Go.Proofs.YtiaohbbafaaibabGreatDoorW.PrintLast Go.Proofs.YtiaohbbafaaibabGreatDoorW.PrintMore Go.Proofs.YtiaohbbafaaibabGreatDoor.Arr Go.Proofs.YtiaohbbafaaibabGreatDoor.MapB
set_option linter.unusedVariables false
set_option linter.unusedSimpArgs false

abbrev Sym := S65
def sy (l : List Sym) (i : Nat) : Sym := rd_T65 l (i : Int)
theorem lawN : Keyed Tryz.prog 9 := string_keyed Tryz.underlying9
theorem zeroBN (w : World) : (zeroValue 4).run Tryz.prog w = .ok (.bool false) w := by kernel_rfl
abbrev SeenN (W : World) (b n : Nat) (S : Lit → Bool) : Prop := Seen W Tryz.prog 9 4 b n S
def keyN (s : ByteArray) : Lit := .string s.data.toList
def nameSeen (l : List Sym) : Nat → Lit → Bool
 | 0 => fun _ => false
 | i + 1 => addS (nameSeen l i) (keyN (sy l i).f0)
def symE (l : List Sym) (n : Int) (i : Nat) : Int :=
 if nameS (sy l i).f0 = true then (if nameSeen l i (keyN (sy l i).f0) = true then 26 else if (sy l i).f1 < 0 then 23 else if (sy l i).f1 > 3 then 23 else if (sy l i).f2 < 0 then 22 else if (sy l i).f2 > n then 22 else if (sy l i).f1 = 3 then (if (sy l i).f2 = 0 then 0 else 22) else 0) else 20
theorem symE_eq (l : List Sym) (n : Int) (i : Nat) : symE l n i = if nameS (sy l i).f0 = true then (if nameSeen l i (keyN (sy l i).f0) = true then 26 else if (sy l i).f1 < 0 then 23 else if (sy l i).f1 > 3 then 23 else if (sy l i).f2 < 0 then 22 else if (sy l i).f2 > n then 22 else if (sy l i).f1 = 3 then (if (sy l i).f2 = 0 then 0 else 22) else 0) else 20 := rfl
def firstS (g : Nat → Int) (n : Nat) : Nat → Int × Int
 | 0 => (0, 0)
 | d + 1 => if g (n - (d + 1)) = 0 then firstS g n d else (g (n - (d + 1)), ((n - (d + 1) : Nat) : Int))
theorem firstS_step (g : Nat → Int) {n i : Nat} (h : i < n) : firstS g n (n - i) = if g i = 0 then firstS g n (n - (i + 1)) else (g i, (i : Int)) := by
 rw [show n - i = (n - (i + 1)) + 1 by omega]
 show (if g (n - (n - (i + 1) + 1)) = 0 then _ else _) = _
 rw [show n - (n - (i + 1) + 1) = i by omega]
def symsS (l : List Sym) (n : Int) : Int × Int := firstS (symE l n) l.length l.length
def ansCell (a b : Int) : Obj := .cells #[.int .i64 a, .int .i64 b] 121 (0, 0)
def objCell (a0_0 : ByteArray) (A0_1 : Option Addr) (n1 c0_1 : Nat) (a0_2 : Int) (A0_3 : Option Addr) (n3 c0_3 : Nat) (A0_4 : Option Addr) (n4 c0_4 : Nat) (A0_5 : Option Addr) (n5 c0_5 : Nat) : Obj :=
 .cells #[.string a0_0, .slice A0_1 n1 c0_1, .int .i64 a0_2, .slice A0_3 n3 c0_3, .slice A0_4 n4 c0_4, .slice A0_5 n5 c0_5] 27 (0, 0)
structure Ob (w W : World) (gb : Nat) (oi : Obj) (gr b n : Nat) (S : Lit → Bool) : Prop where
  low : Below w.heap.size w W
  obj : W.heap[gb]? = some oi
  res : W.heap[gr]? = some (ansCell 0 0)
  seen : SeenN W b n S
  n1 : gb ≠ b
  n2 : gr ≠ b
  g1 : w.heap.size ≤ gr
  g2 : w.heap.size ≤ b
theorem Ob.below {w W W1 : World} {gb gr b n : Nat} {oi : Obj} {S : Lit → Bool} (h : Ob w W gb oi gr b n S) (hb : Below W.heap.size W W1) : Ob w W1 gb oi gr b n S :=
 ⟨below_then h.low h.low.size hb, blk_below h.obj hb, blk_below h.res hb, h.seen.below hb, h.n1, h.n2, h.g1, h.g2⟩
theorem Ob.grown {w W W1 : World} {gb gr b n g : Nat} {oi : Obj} {S : Lit → Bool} (h : Ob w W gb oi gr b n S) (hg : W.grownBy W1 (some g)) (hw : w.heap.size ≤ g) (h1 : gb ≠ g) (h2 : gr ≠ g) (h3 : b ≠ g) : Ob w W1 gb oi gr b n S :=
 ⟨pw_below_grown h.low (some g) h.low.size hg (fun k hk => by have := Option.some.inj hk; omega), blk_grown h.obj hg (fun e => h1 (Option.some.inj e)), blk_grown h.res hg (fun e => h2 (Option.some.inj e)), h.seen.kept hg (fun e => h3 (Option.some.inj e)), h.n1, h.n2, h.g1, h.g2⟩
theorem Ob.add {w W W1 : World} {gb gr b n n' : Nat} {oi : Obj} {S S' : Lit → Bool} (h : Ob w W gb oi gr b n S) (hg : W.grownBy W1 (some b)) (hs : SeenN W1 b n' S') : Ob w W1 gb oi gr b n' S' :=
 ⟨pw_below_grown h.low (some b) h.low.size hg (fun k hk => by have := Option.some.inj hk; have := h.g2; omega), blk_grown h.obj hg (fun e => h.n1 (Option.some.inj e)), blk_grown h.res hg (fun e => h.n2 (Option.some.inj e)), hs, h.n1, h.n2, h.g1, h.g2⟩
theorem put_grownN {W w1 : World} {g : Nat} {cs : Array Value} {e : TypeId} (h : Put W w1 g cs e) : W.grownBy w1 (some g) := by
 have hb := h.below (Below.refl 0 W) (Nat.zero_le _)
 exact ⟨hb.os, hb.tape, hb.output, hb.size, fun k _ hne => h.far k (fun e => hne (by rw [e]))⟩
theorem two_one (a b : Int) : ((#[.int .i64 a, .int .i64 b] : Array Value).all fun v => v.oneCell') = true := by kernel_rfl
theorem sym_one (s : ByteArray) (a b : Int) : ((#[.string s, .int .i8 a, .int .i64 b] : Array Value).all fun v => v.oneCell') = true := by kernel_rfl
theorem nameS_len {s : ByteArray} (h : nameS s = true) : s.size ≤ 24 := (of_decide_eq_true h).2.1

set_option maxHeartbeats 8000000 in
set_option maxRecDepth 100000 in
theorem object_symbols.calls (a0_0 : ByteArray) (A0_1 : Option Addr) (c0_1 : Nat) (l0_1 : List Int) (a0_2 : Int) (A0_3 : Option Addr) (c0_3 : Nat) (l0_3 : List Int) (A0_4 : Option Addr) (c0_4 : Nat) (l0_4 : List (Sym)) (A0_5 : Option Addr) (c0_5 : Nat) (l0_5 : List (S82)) (r1 r2 : Int) (w : World) (hr0_1 : Kd.C (Kd.int .u32) w A0_1 l0_1.length l0_1) (hc0_1 : l0_1.length ≤ c0_1) (hr0_3 : Kd.C (Kd.int .i64) w A0_3 l0_3.length l0_3) (hc0_3 : l0_3.length ≤ c0_3) (hr0_4 : Kd.C k65 w A0_4 l0_4.length l0_4) (hc0_4 : l0_4.length ≤ c0_4) (hr0_5 : Kd.C k82 w A0_5 l0_5.length l0_5) (hc0_5 : l0_5.length ≤ c0_5) (hl : l0_4.length ≤ 1000000) (h : symsS l0_4 (l0_1.length : Int) = (r1, r2)) :
  Calls Tryz.prog 83 #[.agg #[.string a0_0, .slice A0_1 l0_1.length c0_1, .int .i64 a0_2, .slice A0_3 l0_3.length c0_3, .slice A0_4 l0_4.length c0_4, .slice A0_5 l0_5.length c0_5]] w fun e w' => e = .returned (.agg #[.int .i64 r1, .int .i64 r2]) ∧ Below w.heap.size w w' := by
 have hu1 := Tryz.underlying27
 have hu2 := Tryz.underlying121
 have hu3 := Tryz.underlying65
 have HR := Aside0.mk hr0_4
 clear hr0_1 hc0_1 hr0_3 hc0_3 hr0_4 hc0_4 hr0_5 hc0_5
 unfold symsS at h
 go_enter Tryz.func83, Tryz.ntmps83
 go_wp2_with (first | ((with_reducible refine gate_dst (N := 1) rfl ?_); refine box_event ?hg (N := 1) ?hd (cs := #[.string a0_0, .slice A0_1 l0_1.length c0_1, .int .i64 a0_2, .slice A0_3 l0_3.length c0_3, .slice A0_4 l0_4.length c0_4, .slice A0_5 l0_5.length c0_5]) (t := 27) ?hr ?_; (case hd => rfl); (case hg => rfl); (case hr => first | (go_simp; done) | (go_simp; rfl)); intro gb hgb w1 BK1 hb1; have HB := Aside0.mk (below_then (Below.refl w.heap.size w) (Nat.le_refl _) hb1); have BO := Aside0.mk (show w1.heap[gb]? = some (objCell a0_0 A0_1 l0_1.length c0_1 a0_2 A0_3 l0_3.length c0_3 A0_4 l0_4.length c0_4 A0_5 l0_5.length c0_5) from BK1); clear BK1 hb1 hgb) | ((with_reducible refine gate_dst (N := 2) rfl ?_); refine box_event ?hg (N := 2) ?hd (cs := #[.int .i64 0, .int .i64 0]) (t := 121) ?hr ?_; (case hd => rfl); (case hg => rfl); (case hr => first | (go_simp; done) | (go_simp; rfl)); intro gr hgr w2 BK2 hb2; have G1 := Aside0.mk (show w.heap.size ≤ gr by rw [hgr]; exact HB.out.size); have L1 := Aside0.mk (show gb < gr by rw [hgr]; exact blk_lt BO.out); replace HB := Aside0.mk (below_then HB.out HB.out.size hb2); replace BO := Aside0.mk (blk_below BO.out hb2); have BR := Aside0.mk (show w2.heap[gr]? = some (ansCell 0 0) from BK2); clear BK2 hb2 hgr) | ((with_reducible refine gate_dst (N := 6) rfl ?_); refine wpList_make_map (P := Tryz.prog) (k := 9) (e := 4) (t := 173) ?hg (N := 6) ?hd ?ho ?hr ?_; (case hd => rfl); (case hg => rfl); (case ho => rfl); (case hr => first | (go_simp; done) | (go_simp; rfl)); intro b hgb w3 hs0 hb; have HO := Aside0.mk (show Ob w w3 gb (objCell a0_0 A0_1 l0_1.length c0_1 a0_2 A0_3 l0_3.length c0_3 A0_4 l0_4.length c0_4 A0_5 l0_5.length c0_5) gr b 0 (fun _ => false) from ⟨below_then HB.out HB.out.size hb, blk_below BO.out hb, blk_below BR.out hb, hs0, by rw [hgb]; exact Nat.ne_of_lt (blk_lt BO.out), by rw [hgb]; exact Nat.ne_of_lt (blk_lt BR.out), G1.out, by rw [hgb]; exact HB.out.size⟩); clear HB BO BR hb hs0 hgb; have hco := blk_cell HO.out.obj 4; have hco1 := blk_cell HO.out.obj 1))
 go_loopw [10] (fun u10 wr => ∃ i : Nat, u10 = .int .i64 (i : Int) ∧ i ≤ l0_4.length ∧ Aside0 (firstS (symE l0_4 (l0_1.length : Int)) l0_4.length (l0_4.length - i) = (r1, r2)) ∧ Aside0 (Ob w wr gb (objCell a0_0 A0_1 l0_1.length c0_1 a0_2 A0_3 l0_3.length c0_3 A0_4 l0_4.length c0_4 A0_5 l0_5.length c0_5) gr b i (nameSeen l0_4 i))) (fun u10 _ => l0_4.length - (intOf u10).toNat)
 case atStart => exact ⟨0, rfl, Nat.zero_le _, ⟨h⟩, HO⟩
 case round =>
  clear HO hco hco1 h
  obtain ⟨i, rfl, hile, HF, HO⟩ := hrel
  have hco := blk_cell HO.out.obj 4
  have hco1 := blk_cell HO.out.obj 1
  by_cases hlt : i < l0_4.length
  ·
   have hstep := firstS_step (symE l0_4 (l0_1.length : Int)) hlt
   rw [HF.out] at hstep
   have hse := symE_eq l0_4 (l0_1.length : Int) i
   have hns : nameSeen l0_4 (i + 1) = addS (nameSeen l0_4 i) (keyN (sy l0_4 i).f0) := rfl
   have p0 : (0 : Int) ≤ (i : Int) := by omega
   have q0 : (i : Int) < (l0_4.length : Int) := by omega
   obtain ⟨ad, eA, hx0, hx1, hx2⟩ := at_T65 HR.out (i : Int) p0 q0
   subst eA
   rw [show ((i : Int)).toNat = i by omega] at hx0 hx1 hx2
   have hy0 := (HO.out.low.cell (World.block_lt_of_cell? w _ hx0)).trans hx0
   have hy1 := (HO.out.low.cell (World.block_lt_of_cell? w _ hx1)).trans hx1
   have hy2 := (HO.out.low.cell (World.block_lt_of_cell? w _ hx2)).trans hx2
   clear hx0 hx1 hx2
   rw [show rd_T65 l0_4 (i : Int) = sy l0_4 i from rfl] at hy0 hy1 hy2
   generalize sy l0_4 i = s at hy0 hy1 hy2 hse hns
   obtain ⟨sn, sk, sa⟩ := s
   simp only at hy0 hy1 hy2 hse hns
   generalize hmb : nameSeen l0_4 i (keyN sn) = mb at hse
   have HM := Aside0.mk hmb
   obtain ⟨nb, hnb⟩ : ∃ nb, nb = nameS sn := ⟨_, rfl⟩
   have HN := Aside0.mk (show object_Name.f sn = some nb by rw [hnb]; rfl)
   rw [← hnb] at hse
   have HL := Aside0.mk (show i ≤ 1000000 by omega)
   have HNS := Aside0.mk hns
   clear hns HF hmb
   have hwr : wrap64 ((i : Int) + 1) = ((i + 1 : Nat) : Int) := by rw [wrap64_id (by omega) (by omega)]; rfl
   replace p0 := eq_true p0
   replace q0 := eq_true q0
   have hltb : decide ((i : Int) < (l0_4.length : Int)) = true := decide_eq_true (by omega)

   by_cases cn : nb = true
   ·
    rw [if_pos cn] at hse
    subst cn
    have HKY := Aside0.mk (show keyOf Tryz.prog 9 (.string sn) = some (keyN sn) from Go.WideMaps.keyOf_string_mk Tryz.underlying9 (by have := nameS_len hnb.symm; unfold maxLen; omega))
    clear hnb
    by_cases cm : mb = true
    ·
     rw [if_pos cm] at hse
     subst cm
     rw [hse, if_neg (by decide)] at hstep
     injection hstep with e1 e2
     subst e1 e2
     clear hse
     go_wp2_with (first | ((with_reducible refine gate_dst (N := 5) rfl ?_); refine box_event ?hg (N := 5) ?hd (cs := #[.string ⟨#[]⟩, .int .i8 0, .int .i64 0]) (t := 65) ?hr ?_; (case hd => rfl); (case hg => rfl); (case hr => first | (go_simp; done) | (go_simp; rfl)); intro gs hgs w5 BK5 hb5; have LB := Aside0.mk (show b < gs by rw [hgs]; exact HO.out.seen.lt); have LG := Aside0.mk (show gb < gs by rw [hgs]; exact blk_lt HO.out.obj); have LR := Aside0.mk (show gr < gs by rw [hgs]; exact blk_lt HO.out.res); replace HO := Aside0.mk (HO.out.below hb5); have BS := Aside0.mk BK5; clear BK5 hb5 hgs) | ((with_reducible refine gate_store (t := 65) rfl ?_); refine wpList_store_whole rfl rfl rfl gs _ #[.string sn, .int .i8 sk, .int .i64 sa] _ rfl rfl BS.out (by kernel_rfl) rfl (sym_one _ _ _) ?_; intro w6 hp; replace HO := Aside0.mk (HO.out.grown (put_grownN hp) (by have := LB.out; have := HO.out.g2; omega) (by have := LG.out; omega) (by have := LR.out; omega) (by have := LB.out; omega)); replace BS := Aside0.mk hp.blk; clear hp; have hco := blk_cell HO.out.obj 4; have hco1 := blk_cell HO.out.obj 1; have hs0 := blk_cell BS.out 0; have hs1 := blk_cell BS.out 1; have hs2 := blk_cell BS.out 2) | (go_at_call 103; refine (object_Name.calls sn _ _ HN.out).mono ?_; rintro e w7 ⟨rfl, hb⟩; replace HO := Aside0.mk (HO.out.below hb); replace BS := Aside0.mk (blk_below BS.out hb); clear hb hs0 hs1 hs2; have hco := blk_cell HO.out.obj 4; have hco1 := blk_cell HO.out.obj 1; have hs0 := blk_cell BS.out 0; have hs1 := blk_cell BS.out 1; have hs2 := blk_cell BS.out 2) | (at_lookup; refine wpList_lookup_seen rfl _ _ 173 rfl 9 4 lawN Tryz.underlying173 Tryz.underlying4 (zeroBN _) b _ _ rfl HO.out.seen _ _ rfl HKY.out trivial ?_; rw [HM.out]) | ((with_reducible refine gate_store (t := 121) rfl ?_); refine wpList_store_whole rfl rfl rfl gr _ #[.int .i64 26, .int .i64 (i : Int)] _ rfl rfl HO.out.res (by kernel_rfl) rfl (two_one _ _) ?_; intro w9 hp; have HE := Aside0.mk (hp.below HO.out.low HO.out.g1); have HP := Aside0.mk hp.blk; clear hp))
     refine bodyPost_ret (results_cell_row rfl _ _ gr 121 #[.int .i64 26, .int .i64 (i : Int)] (0, 0) _ rfl HP.out Tryz.underlying121 rfl (by kernel_rfl)) rfl ?_
     exact ⟨rfl, HE.out⟩
    ·
     rw [if_neg cm] at hse
     have cm : mb = false := by simpa using cm
     subst cm
     by_cases c4 : sk < 0
     ·
      rw [if_pos c4] at hse
      have d4 : decide (sk < 0) = true := decide_eq_true c4
      clear c4
      rw [hse, if_neg (by decide)] at hstep
      injection hstep with e1 e2
      subst e1 e2
      clear hse
      go_wp2_with (first | ((with_reducible refine gate_dst (N := 5) rfl ?_); refine box_event ?hg (N := 5) ?hd (cs := #[.string ⟨#[]⟩, .int .i8 0, .int .i64 0]) (t := 65) ?hr ?_; (case hd => rfl); (case hg => rfl); (case hr => first | (go_simp; done) | (go_simp; rfl)); intro gs hgs w5 BK5 hb5; have LB := Aside0.mk (show b < gs by rw [hgs]; exact HO.out.seen.lt); have LG := Aside0.mk (show gb < gs by rw [hgs]; exact blk_lt HO.out.obj); have LR := Aside0.mk (show gr < gs by rw [hgs]; exact blk_lt HO.out.res); replace HO := Aside0.mk (HO.out.below hb5); have BS := Aside0.mk BK5; clear BK5 hb5 hgs) | ((with_reducible refine gate_store (t := 65) rfl ?_); refine wpList_store_whole rfl rfl rfl gs _ #[.string sn, .int .i8 sk, .int .i64 sa] _ rfl rfl BS.out (by kernel_rfl) rfl (sym_one _ _ _) ?_; intro w6 hp; replace HO := Aside0.mk (HO.out.grown (put_grownN hp) (by have := LB.out; have := HO.out.g2; omega) (by have := LG.out; omega) (by have := LR.out; omega) (by have := LB.out; omega)); replace BS := Aside0.mk hp.blk; clear hp; have hco := blk_cell HO.out.obj 4; have hco1 := blk_cell HO.out.obj 1; have hs0 := blk_cell BS.out 0; have hs1 := blk_cell BS.out 1; have hs2 := blk_cell BS.out 2) | (go_at_call 103; refine (object_Name.calls sn _ _ HN.out).mono ?_; rintro e w7 ⟨rfl, hb⟩; replace HO := Aside0.mk (HO.out.below hb); replace BS := Aside0.mk (blk_below BS.out hb); clear hb hs0 hs1 hs2; have hco := blk_cell HO.out.obj 4; have hco1 := blk_cell HO.out.obj 1; have hs0 := blk_cell BS.out 0; have hs1 := blk_cell BS.out 1; have hs2 := blk_cell BS.out 2) | (at_lookup; refine wpList_lookup_seen rfl _ _ 173 rfl 9 4 lawN Tryz.underlying173 Tryz.underlying4 (zeroBN _) b _ _ rfl HO.out.seen _ _ rfl HKY.out trivial ?_; rw [HM.out]) | ((with_reducible refine gate_store (t := 121) rfl ?_); refine wpList_store_whole rfl rfl rfl gr _ #[.int .i64 23, .int .i64 (i : Int)] _ rfl rfl HO.out.res (by kernel_rfl) rfl (two_one _ _) ?_; intro w9 hp; have HE := Aside0.mk (hp.below HO.out.low HO.out.g1); have HP := Aside0.mk hp.blk; clear hp))
      refine bodyPost_ret (results_cell_row rfl _ _ gr 121 #[.int .i64 23, .int .i64 (i : Int)] (0, 0) _ rfl HP.out Tryz.underlying121 rfl (by kernel_rfl)) rfl ?_
      exact ⟨rfl, HE.out⟩
     ·
      rw [if_neg c4] at hse
      have d4 : decide (sk < 0) = false := decide_eq_false c4
      clear c4
      by_cases c3 : sk > 3
      ·
       rw [if_pos c3] at hse
       have d3 : decide (3 < sk) = true := decide_eq_true c3
       clear c3
       rw [hse, if_neg (by decide)] at hstep
       injection hstep with e1 e2
       subst e1 e2
       clear hse
       go_wp2_with (first | ((with_reducible refine gate_dst (N := 5) rfl ?_); refine box_event ?hg (N := 5) ?hd (cs := #[.string ⟨#[]⟩, .int .i8 0, .int .i64 0]) (t := 65) ?hr ?_; (case hd => rfl); (case hg => rfl); (case hr => first | (go_simp; done) | (go_simp; rfl)); intro gs hgs w5 BK5 hb5; have LB := Aside0.mk (show b < gs by rw [hgs]; exact HO.out.seen.lt); have LG := Aside0.mk (show gb < gs by rw [hgs]; exact blk_lt HO.out.obj); have LR := Aside0.mk (show gr < gs by rw [hgs]; exact blk_lt HO.out.res); replace HO := Aside0.mk (HO.out.below hb5); have BS := Aside0.mk BK5; clear BK5 hb5 hgs) | ((with_reducible refine gate_store (t := 65) rfl ?_); refine wpList_store_whole rfl rfl rfl gs _ #[.string sn, .int .i8 sk, .int .i64 sa] _ rfl rfl BS.out (by kernel_rfl) rfl (sym_one _ _ _) ?_; intro w6 hp; replace HO := Aside0.mk (HO.out.grown (put_grownN hp) (by have := LB.out; have := HO.out.g2; omega) (by have := LG.out; omega) (by have := LR.out; omega) (by have := LB.out; omega)); replace BS := Aside0.mk hp.blk; clear hp; have hco := blk_cell HO.out.obj 4; have hco1 := blk_cell HO.out.obj 1; have hs0 := blk_cell BS.out 0; have hs1 := blk_cell BS.out 1; have hs2 := blk_cell BS.out 2) | (go_at_call 103; refine (object_Name.calls sn _ _ HN.out).mono ?_; rintro e w7 ⟨rfl, hb⟩; replace HO := Aside0.mk (HO.out.below hb); replace BS := Aside0.mk (blk_below BS.out hb); clear hb hs0 hs1 hs2; have hco := blk_cell HO.out.obj 4; have hco1 := blk_cell HO.out.obj 1; have hs0 := blk_cell BS.out 0; have hs1 := blk_cell BS.out 1; have hs2 := blk_cell BS.out 2) | (at_lookup; refine wpList_lookup_seen rfl _ _ 173 rfl 9 4 lawN Tryz.underlying173 Tryz.underlying4 (zeroBN _) b _ _ rfl HO.out.seen _ _ rfl HKY.out trivial ?_; rw [HM.out]) | ((with_reducible refine gate_store (t := 121) rfl ?_); refine wpList_store_whole rfl rfl rfl gr _ #[.int .i64 23, .int .i64 (i : Int)] _ rfl rfl HO.out.res (by kernel_rfl) rfl (two_one _ _) ?_; intro w9 hp; have HE := Aside0.mk (hp.below HO.out.low HO.out.g1); have HP := Aside0.mk hp.blk; clear hp))
       refine bodyPost_ret (results_cell_row rfl _ _ gr 121 #[.int .i64 23, .int .i64 (i : Int)] (0, 0) _ rfl HP.out Tryz.underlying121 rfl (by kernel_rfl)) rfl ?_
       exact ⟨rfl, HE.out⟩
      ·
       rw [if_neg c3] at hse
       have d3 : decide (3 < sk) = false := decide_eq_false c3
       clear c3
       by_cases c2 : sa < 0
       ·
        rw [if_pos c2] at hse
        have d2 : decide (sa < 0) = true := decide_eq_true c2
        clear c2
        rw [hse, if_neg (by decide)] at hstep
        injection hstep with e1 e2
        subst e1 e2
        clear hse
        go_wp2_with (first | ((with_reducible refine gate_dst (N := 5) rfl ?_); refine box_event ?hg (N := 5) ?hd (cs := #[.string ⟨#[]⟩, .int .i8 0, .int .i64 0]) (t := 65) ?hr ?_; (case hd => rfl); (case hg => rfl); (case hr => first | (go_simp; done) | (go_simp; rfl)); intro gs hgs w5 BK5 hb5; have LB := Aside0.mk (show b < gs by rw [hgs]; exact HO.out.seen.lt); have LG := Aside0.mk (show gb < gs by rw [hgs]; exact blk_lt HO.out.obj); have LR := Aside0.mk (show gr < gs by rw [hgs]; exact blk_lt HO.out.res); replace HO := Aside0.mk (HO.out.below hb5); have BS := Aside0.mk BK5; clear BK5 hb5 hgs) | ((with_reducible refine gate_store (t := 65) rfl ?_); refine wpList_store_whole rfl rfl rfl gs _ #[.string sn, .int .i8 sk, .int .i64 sa] _ rfl rfl BS.out (by kernel_rfl) rfl (sym_one _ _ _) ?_; intro w6 hp; replace HO := Aside0.mk (HO.out.grown (put_grownN hp) (by have := LB.out; have := HO.out.g2; omega) (by have := LG.out; omega) (by have := LR.out; omega) (by have := LB.out; omega)); replace BS := Aside0.mk hp.blk; clear hp; have hco := blk_cell HO.out.obj 4; have hco1 := blk_cell HO.out.obj 1; have hs0 := blk_cell BS.out 0; have hs1 := blk_cell BS.out 1; have hs2 := blk_cell BS.out 2) | (go_at_call 103; refine (object_Name.calls sn _ _ HN.out).mono ?_; rintro e w7 ⟨rfl, hb⟩; replace HO := Aside0.mk (HO.out.below hb); replace BS := Aside0.mk (blk_below BS.out hb); clear hb hs0 hs1 hs2; have hco := blk_cell HO.out.obj 4; have hco1 := blk_cell HO.out.obj 1; have hs0 := blk_cell BS.out 0; have hs1 := blk_cell BS.out 1; have hs2 := blk_cell BS.out 2) | (at_lookup; refine wpList_lookup_seen rfl _ _ 173 rfl 9 4 lawN Tryz.underlying173 Tryz.underlying4 (zeroBN _) b _ _ rfl HO.out.seen _ _ rfl HKY.out trivial ?_; rw [HM.out]) | ((with_reducible refine gate_store (t := 121) rfl ?_); refine wpList_store_whole rfl rfl rfl gr _ #[.int .i64 22, .int .i64 (i : Int)] _ rfl rfl HO.out.res (by kernel_rfl) rfl (two_one _ _) ?_; intro w9 hp; have HE := Aside0.mk (hp.below HO.out.low HO.out.g1); have HP := Aside0.mk hp.blk; clear hp))
        refine bodyPost_ret (results_cell_row rfl _ _ gr 121 #[.int .i64 22, .int .i64 (i : Int)] (0, 0) _ rfl HP.out Tryz.underlying121 rfl (by kernel_rfl)) rfl ?_
        exact ⟨rfl, HE.out⟩
       ·
        rw [if_neg c2] at hse
        have d2 : decide (sa < 0) = false := decide_eq_false c2
        clear c2
        by_cases c1 : sa > (l0_1.length : Int)
        ·
         rw [if_pos c1] at hse
         have d1 : decide ((l0_1.length : Int) < sa) = true := decide_eq_true c1
         clear c1
         rw [hse, if_neg (by decide)] at hstep
         injection hstep with e1 e2
         subst e1 e2
         clear hse
         go_wp2_with (first | ((with_reducible refine gate_dst (N := 5) rfl ?_); refine box_event ?hg (N := 5) ?hd (cs := #[.string ⟨#[]⟩, .int .i8 0, .int .i64 0]) (t := 65) ?hr ?_; (case hd => rfl); (case hg => rfl); (case hr => first | (go_simp; done) | (go_simp; rfl)); intro gs hgs w5 BK5 hb5; have LB := Aside0.mk (show b < gs by rw [hgs]; exact HO.out.seen.lt); have LG := Aside0.mk (show gb < gs by rw [hgs]; exact blk_lt HO.out.obj); have LR := Aside0.mk (show gr < gs by rw [hgs]; exact blk_lt HO.out.res); replace HO := Aside0.mk (HO.out.below hb5); have BS := Aside0.mk BK5; clear BK5 hb5 hgs) | ((with_reducible refine gate_store (t := 65) rfl ?_); refine wpList_store_whole rfl rfl rfl gs _ #[.string sn, .int .i8 sk, .int .i64 sa] _ rfl rfl BS.out (by kernel_rfl) rfl (sym_one _ _ _) ?_; intro w6 hp; replace HO := Aside0.mk (HO.out.grown (put_grownN hp) (by have := LB.out; have := HO.out.g2; omega) (by have := LG.out; omega) (by have := LR.out; omega) (by have := LB.out; omega)); replace BS := Aside0.mk hp.blk; clear hp; have hco := blk_cell HO.out.obj 4; have hco1 := blk_cell HO.out.obj 1; have hs0 := blk_cell BS.out 0; have hs1 := blk_cell BS.out 1; have hs2 := blk_cell BS.out 2) | (go_at_call 103; refine (object_Name.calls sn _ _ HN.out).mono ?_; rintro e w7 ⟨rfl, hb⟩; replace HO := Aside0.mk (HO.out.below hb); replace BS := Aside0.mk (blk_below BS.out hb); clear hb hs0 hs1 hs2; have hco := blk_cell HO.out.obj 4; have hco1 := blk_cell HO.out.obj 1; have hs0 := blk_cell BS.out 0; have hs1 := blk_cell BS.out 1; have hs2 := blk_cell BS.out 2) | (at_lookup; refine wpList_lookup_seen rfl _ _ 173 rfl 9 4 lawN Tryz.underlying173 Tryz.underlying4 (zeroBN _) b _ _ rfl HO.out.seen _ _ rfl HKY.out trivial ?_; rw [HM.out]) | ((with_reducible refine gate_store (t := 121) rfl ?_); refine wpList_store_whole rfl rfl rfl gr _ #[.int .i64 22, .int .i64 (i : Int)] _ rfl rfl HO.out.res (by kernel_rfl) rfl (two_one _ _) ?_; intro w9 hp; have HE := Aside0.mk (hp.below HO.out.low HO.out.g1); have HP := Aside0.mk hp.blk; clear hp))
         refine bodyPost_ret (results_cell_row rfl _ _ gr 121 #[.int .i64 22, .int .i64 (i : Int)] (0, 0) _ rfl HP.out Tryz.underlying121 rfl (by kernel_rfl)) rfl ?_
         exact ⟨rfl, HE.out⟩
        ·
         rw [if_neg c1] at hse
         have d1 : decide ((l0_1.length : Int) < sa) = false := decide_eq_false c1
         clear c1
         by_cases k3 : sk = 3
         ·
          rw [if_pos k3] at hse
          have k3b : (sk == 3) = true := beq_iff_eq.mpr k3
          by_cases a0 : sa = 0
          ·
           rw [if_pos a0] at hse
           have a0b : (sa == 0) = true := beq_iff_eq.mpr a0
           have a0c : (sa != 0) = false := bne_eq_false_iff_eq.mpr a0
           clear a0 k3
           rw [hse, if_pos rfl] at hstep
           have HF := Aside0.mk hstep.symm
           clear hstep hse
           go_wp2_with (first | ((with_reducible refine gate_dst (N := 5) rfl ?_); refine box_event ?hg (N := 5) ?hd (cs := #[.string ⟨#[]⟩, .int .i8 0, .int .i64 0]) (t := 65) ?hr ?_; (case hd => rfl); (case hg => rfl); (case hr => first | (go_simp; done) | (go_simp; rfl)); intro gs hgs w5 BK5 hb5; have LB := Aside0.mk (show b < gs by rw [hgs]; exact HO.out.seen.lt); have LG := Aside0.mk (show gb < gs by rw [hgs]; exact blk_lt HO.out.obj); have LR := Aside0.mk (show gr < gs by rw [hgs]; exact blk_lt HO.out.res); replace HO := Aside0.mk (HO.out.below hb5); have BS := Aside0.mk BK5; clear BK5 hb5 hgs) | ((with_reducible refine gate_store (t := 65) rfl ?_); refine wpList_store_whole rfl rfl rfl gs _ #[.string sn, .int .i8 sk, .int .i64 sa] _ rfl rfl BS.out (by kernel_rfl) rfl (sym_one _ _ _) ?_; intro w6 hp; replace HO := Aside0.mk (HO.out.grown (put_grownN hp) (by have := LB.out; have := HO.out.g2; omega) (by have := LG.out; omega) (by have := LR.out; omega) (by have := LB.out; omega)); replace BS := Aside0.mk hp.blk; clear hp; have hco := blk_cell HO.out.obj 4; have hco1 := blk_cell HO.out.obj 1; have hs0 := blk_cell BS.out 0; have hs1 := blk_cell BS.out 1; have hs2 := blk_cell BS.out 2) | (go_at_call 103; refine (object_Name.calls sn _ _ HN.out).mono ?_; rintro e w7 ⟨rfl, hb⟩; replace HO := Aside0.mk (HO.out.below hb); replace BS := Aside0.mk (blk_below BS.out hb); clear hb hs0 hs1 hs2; have hco := blk_cell HO.out.obj 4; have hco1 := blk_cell HO.out.obj 1; have hs0 := blk_cell BS.out 0; have hs1 := blk_cell BS.out 1; have hs2 := blk_cell BS.out 2) | (at_lookup; refine wpList_lookup_seen rfl _ _ 173 rfl 9 4 lawN Tryz.underlying173 Tryz.underlying4 (zeroBN _) b _ _ rfl HO.out.seen _ _ rfl HKY.out trivial ?_; rw [HM.out]) | (at_mapUpdate; refine wpList_update_seen rfl _ _ _ 173 rfl 9 4 lawN Tryz.underlying173 Tryz.underlying4 b _ _ rfl HO.out.seen (by have := HL.out; unfold maxLen; omega) _ _ rfl rfl HKY.out trivial ?_; intro w8 hs8 hg8; replace HO := Aside0.mk (HO.out.add hg8 hs8); clear hs8 hg8))
           go_roundw
           case measure => simp [intOf]; omega
           case rel => exact ⟨i + 1, by first | rfl | (simp; done) | (simp [*]; done), by omega, HF, ⟨by rw [HNS.out]; exact HO.out⟩⟩
          ·
           rw [if_neg a0] at hse
           have a0b : (sa == 0) = false := beq_eq_false_iff_ne.mpr a0
           have a0c : (sa != 0) = true := bne_iff_ne.mpr a0
           clear a0 k3
           rw [hse, if_neg (by decide)] at hstep
           injection hstep with e1 e2
           subst e1 e2
           clear hse
           go_wp2_with (first | ((with_reducible refine gate_dst (N := 5) rfl ?_); refine box_event ?hg (N := 5) ?hd (cs := #[.string ⟨#[]⟩, .int .i8 0, .int .i64 0]) (t := 65) ?hr ?_; (case hd => rfl); (case hg => rfl); (case hr => first | (go_simp; done) | (go_simp; rfl)); intro gs hgs w5 BK5 hb5; have LB := Aside0.mk (show b < gs by rw [hgs]; exact HO.out.seen.lt); have LG := Aside0.mk (show gb < gs by rw [hgs]; exact blk_lt HO.out.obj); have LR := Aside0.mk (show gr < gs by rw [hgs]; exact blk_lt HO.out.res); replace HO := Aside0.mk (HO.out.below hb5); have BS := Aside0.mk BK5; clear BK5 hb5 hgs) | ((with_reducible refine gate_store (t := 65) rfl ?_); refine wpList_store_whole rfl rfl rfl gs _ #[.string sn, .int .i8 sk, .int .i64 sa] _ rfl rfl BS.out (by kernel_rfl) rfl (sym_one _ _ _) ?_; intro w6 hp; replace HO := Aside0.mk (HO.out.grown (put_grownN hp) (by have := LB.out; have := HO.out.g2; omega) (by have := LG.out; omega) (by have := LR.out; omega) (by have := LB.out; omega)); replace BS := Aside0.mk hp.blk; clear hp; have hco := blk_cell HO.out.obj 4; have hco1 := blk_cell HO.out.obj 1; have hs0 := blk_cell BS.out 0; have hs1 := blk_cell BS.out 1; have hs2 := blk_cell BS.out 2) | (go_at_call 103; refine (object_Name.calls sn _ _ HN.out).mono ?_; rintro e w7 ⟨rfl, hb⟩; replace HO := Aside0.mk (HO.out.below hb); replace BS := Aside0.mk (blk_below BS.out hb); clear hb hs0 hs1 hs2; have hco := blk_cell HO.out.obj 4; have hco1 := blk_cell HO.out.obj 1; have hs0 := blk_cell BS.out 0; have hs1 := blk_cell BS.out 1; have hs2 := blk_cell BS.out 2) | (at_lookup; refine wpList_lookup_seen rfl _ _ 173 rfl 9 4 lawN Tryz.underlying173 Tryz.underlying4 (zeroBN _) b _ _ rfl HO.out.seen _ _ rfl HKY.out trivial ?_; rw [HM.out]) | ((with_reducible refine gate_store (t := 121) rfl ?_); refine wpList_store_whole rfl rfl rfl gr _ #[.int .i64 22, .int .i64 (i : Int)] _ rfl rfl HO.out.res (by kernel_rfl) rfl (two_one _ _) ?_; intro w9 hp; have HE := Aside0.mk (hp.below HO.out.low HO.out.g1); have HP := Aside0.mk hp.blk; clear hp))
           refine bodyPost_ret (results_cell_row rfl _ _ gr 121 #[.int .i64 22, .int .i64 (i : Int)] (0, 0) _ rfl HP.out Tryz.underlying121 rfl (by kernel_rfl)) rfl ?_
           exact ⟨rfl, HE.out⟩
         ·
          rw [if_neg k3] at hse
          have k3b : (sk == 3) = false := beq_eq_false_iff_ne.mpr k3
          clear k3
          rw [hse, if_pos rfl] at hstep
          have HF := Aside0.mk hstep.symm
          clear hstep hse
          go_wp2_with (first | ((with_reducible refine gate_dst (N := 5) rfl ?_); refine box_event ?hg (N := 5) ?hd (cs := #[.string ⟨#[]⟩, .int .i8 0, .int .i64 0]) (t := 65) ?hr ?_; (case hd => rfl); (case hg => rfl); (case hr => first | (go_simp; done) | (go_simp; rfl)); intro gs hgs w5 BK5 hb5; have LB := Aside0.mk (show b < gs by rw [hgs]; exact HO.out.seen.lt); have LG := Aside0.mk (show gb < gs by rw [hgs]; exact blk_lt HO.out.obj); have LR := Aside0.mk (show gr < gs by rw [hgs]; exact blk_lt HO.out.res); replace HO := Aside0.mk (HO.out.below hb5); have BS := Aside0.mk BK5; clear BK5 hb5 hgs) | ((with_reducible refine gate_store (t := 65) rfl ?_); refine wpList_store_whole rfl rfl rfl gs _ #[.string sn, .int .i8 sk, .int .i64 sa] _ rfl rfl BS.out (by kernel_rfl) rfl (sym_one _ _ _) ?_; intro w6 hp; replace HO := Aside0.mk (HO.out.grown (put_grownN hp) (by have := LB.out; have := HO.out.g2; omega) (by have := LG.out; omega) (by have := LR.out; omega) (by have := LB.out; omega)); replace BS := Aside0.mk hp.blk; clear hp; have hco := blk_cell HO.out.obj 4; have hco1 := blk_cell HO.out.obj 1; have hs0 := blk_cell BS.out 0; have hs1 := blk_cell BS.out 1; have hs2 := blk_cell BS.out 2) | (go_at_call 103; refine (object_Name.calls sn _ _ HN.out).mono ?_; rintro e w7 ⟨rfl, hb⟩; replace HO := Aside0.mk (HO.out.below hb); replace BS := Aside0.mk (blk_below BS.out hb); clear hb hs0 hs1 hs2; have hco := blk_cell HO.out.obj 4; have hco1 := blk_cell HO.out.obj 1; have hs0 := blk_cell BS.out 0; have hs1 := blk_cell BS.out 1; have hs2 := blk_cell BS.out 2) | (at_lookup; refine wpList_lookup_seen rfl _ _ 173 rfl 9 4 lawN Tryz.underlying173 Tryz.underlying4 (zeroBN _) b _ _ rfl HO.out.seen _ _ rfl HKY.out trivial ?_; rw [HM.out]) | (at_mapUpdate; refine wpList_update_seen rfl _ _ _ 173 rfl 9 4 lawN Tryz.underlying173 Tryz.underlying4 b _ _ rfl HO.out.seen (by have := HL.out; unfold maxLen; omega) _ _ rfl rfl HKY.out trivial ?_; intro w8 hs8 hg8; replace HO := Aside0.mk (HO.out.add hg8 hs8); clear hs8 hg8))
          go_roundw
          case measure => simp [intOf]; omega
          case rel => exact ⟨i + 1, by first | rfl | (simp; done) | (simp [*]; done), by omega, HF, ⟨by rw [HNS.out]; exact HO.out⟩⟩
   ·
    rw [if_neg cn] at hse
    have cn : nb = false := by simpa using cn
    subst cn
    clear hnb
    rw [hse, if_neg (by decide)] at hstep
    injection hstep with e1 e2
    subst e1 e2
    clear hse
    go_wp2_with (first | ((with_reducible refine gate_dst (N := 5) rfl ?_); refine box_event ?hg (N := 5) ?hd (cs := #[.string ⟨#[]⟩, .int .i8 0, .int .i64 0]) (t := 65) ?hr ?_; (case hd => rfl); (case hg => rfl); (case hr => first | (go_simp; done) | (go_simp; rfl)); intro gs hgs w5 BK5 hb5; have LB := Aside0.mk (show b < gs by rw [hgs]; exact HO.out.seen.lt); have LG := Aside0.mk (show gb < gs by rw [hgs]; exact blk_lt HO.out.obj); have LR := Aside0.mk (show gr < gs by rw [hgs]; exact blk_lt HO.out.res); replace HO := Aside0.mk (HO.out.below hb5); have BS := Aside0.mk BK5; clear BK5 hb5 hgs) | ((with_reducible refine gate_store (t := 65) rfl ?_); refine wpList_store_whole rfl rfl rfl gs _ #[.string sn, .int .i8 sk, .int .i64 sa] _ rfl rfl BS.out (by kernel_rfl) rfl (sym_one _ _ _) ?_; intro w6 hp; replace HO := Aside0.mk (HO.out.grown (put_grownN hp) (by have := LB.out; have := HO.out.g2; omega) (by have := LG.out; omega) (by have := LR.out; omega) (by have := LB.out; omega)); replace BS := Aside0.mk hp.blk; clear hp; have hco := blk_cell HO.out.obj 4; have hco1 := blk_cell HO.out.obj 1; have hs0 := blk_cell BS.out 0; have hs1 := blk_cell BS.out 1; have hs2 := blk_cell BS.out 2) | (go_at_call 103; refine (object_Name.calls sn _ _ HN.out).mono ?_; rintro e w7 ⟨rfl, hb⟩; replace HO := Aside0.mk (HO.out.below hb); replace BS := Aside0.mk (blk_below BS.out hb); clear hb hs0 hs1 hs2; have hco := blk_cell HO.out.obj 4; have hco1 := blk_cell HO.out.obj 1; have hs0 := blk_cell BS.out 0; have hs1 := blk_cell BS.out 1; have hs2 := blk_cell BS.out 2) | ((with_reducible refine gate_store (t := 121) rfl ?_); refine wpList_store_whole rfl rfl rfl gr _ #[.int .i64 20, .int .i64 (i : Int)] _ rfl rfl HO.out.res (by kernel_rfl) rfl (two_one _ _) ?_; intro w9 hp; have HE := Aside0.mk (hp.below HO.out.low HO.out.g1); have HP := Aside0.mk hp.blk; clear hp))
    refine bodyPost_ret (results_cell_row rfl _ _ gr 121 #[.int .i64 20, .int .i64 (i : Int)] (0, 0) _ rfl HP.out Tryz.underlying121 rfl (by kernel_rfl)) rfl ?_
    exact ⟨rfl, HE.out⟩
  ·
   have : i = l0_4.length := by omega
   subst this
   have hltb : decide ((l0_4.length : Int) < (l0_4.length : Int)) = false := by simp
   have hf : ((0 : Int), (0 : Int)) = (r1, r2) := by
    have := HF.out
    rw [Nat.sub_self] at this
    exact this
   injection hf with e1 e2
   subst e1 e2
   clear hlt hile
   go_wp2_with (first | ((with_reducible refine gate_store (t := 121) rfl ?_); refine wpList_store_whole rfl rfl rfl gr _ #[.int .i64 0, .int .i64 0] _ rfl rfl HO.out.res (by kernel_rfl) rfl (two_one _ _) ?_; intro w9 hp; have HE := Aside0.mk (hp.below HO.out.low HO.out.g1); have HP := Aside0.mk hp.blk; clear hp))
   refine bodyPost_ret (results_cell_row rfl _ _ gr 121 #[.int .i64 0, .int .i64 0] (0, 0) _ rfl HP.out Tryz.underlying121 rfl (by kernel_rfl)) rfl ?_
   exact ⟨rfl, HE.out⟩

end Go.Proofs.YtiaohbbafaaibabGreatDoor.P

/- OWN TEXT, written by mksq.py: short words for what the printed walks say again and again. -/
namespace Go.Proofs.YtiaohbbafaaibabGreatDoor.P
open Go.RowKit Go.Proofs.YtiaohbbafaaibabGreatDoorW.PrintWords Go.Proofs.YtiaohbbafaaibabGreatDoorW.PrintLast Go.Proofs.YtiaohbbafaaibabGreatDoorW.PrintMore
set_option linter.unusedVariables false
/-- two worlds that differ in what was drawn alone. -/
abbrev SmQ (W W0 : World) : Prop := W.heap = W0.heap ∧ W.os = W0.os ∧ W.tape = W0.tape ∧ W.output = W0.output
theorem bwQ {B : Nat} {w W W0 : World} (h : Below B w W0) (e : SmQ W W0 := by exact ⟨rfl, rfl, rfl, rfl⟩) : Below B w W := by
 obtain ⟨e1, e2, e3, e4⟩ := e
 exact ⟨e2.trans h.os, e3.trans h.tape, e4.trans h.output, by rw [e1]; exact h.size, fun k hk => by rw [e1]; exact h.block k hk⟩
theorem bsQ {w W W0 W1 : World} (hb : Below W.heap.size W W1) (h : Below w.heap.size w W0) (e : SmQ W W0 := by exact ⟨rfl, rfl, rfl, rfl⟩) : Below w.heap.size w W1 :=
 below_then (bwQ h e) (by rw [e.1]; exact h.size) hb
theorem bbQ {W W1 : World} {g : Nat} {o : Obj} (hb : Below W.heap.size W W1) (h : W.heap[g]? = some o) : W1.heap[g]? = some o := blk_below h hb
theorem gwQ {w W W0 : World} {g : Nat} (hg : g = W.heap.size) (h : Below w.heap.size w W0) (e : W.heap = W0.heap := by rfl) : w.heap.size ≤ g := by rw [hg, e]; exact h.size
theorem bs1Q {w W W1 : World} (hb : Below W.heap.size W W1) (h : Below w.heap.size w W) : Below w.heap.size w W1 := below_then h h.size hb
theorem gw1Q {w W : World} {g : Nat} (hg : g = W.heap.size) (h : Below w.heap.size w W) : w.heap.size ≤ g := by rw [hg]; exact h.size
theorem cbQ {α : Type} {d : Kd α} {w W W0 : World} {A : Option Addr} {n : Nat} {l : List α} (h : Below w.heap.size w W0) (hC : d.C w A n l) (e : SmQ W W0 := by exact ⟨rfl, rfl, rfl, rfl⟩) : d.C W A n l := Kd.C_below hC (bwQ h e)
theorem bcQ2 {W : World} {g t : Nat} {a0 a1 : Value} (h : W.heap[g]? = some (.cells #[a0, a1] t (0, 0))) : W.cell? ⟨g, 0, none⟩ = some a0 ∧ W.cell? ⟨g, 1, none⟩ = some a1 := ⟨blk_cell h 0, blk_cell h 1⟩
theorem bcQ3 {W : World} {g t : Nat} {a0 a1 a2 : Value} (h : W.heap[g]? = some (.cells #[a0, a1, a2] t (0, 0))) : W.cell? ⟨g, 0, none⟩ = some a0 ∧ W.cell? ⟨g, 1, none⟩ = some a1 ∧ W.cell? ⟨g, 2, none⟩ = some a2 := ⟨blk_cell h 0, blk_cell h 1, blk_cell h 2⟩
theorem bcQ5 {W : World} {g t : Nat} {a0 a1 a2 a3 a4 : Value} (h : W.heap[g]? = some (.cells #[a0, a1, a2, a3, a4] t (0, 0))) : W.cell? ⟨g, 0, none⟩ = some a0 ∧ W.cell? ⟨g, 1, none⟩ = some a1 ∧ W.cell? ⟨g, 2, none⟩ = some a2 ∧ W.cell? ⟨g, 3, none⟩ = some a3 ∧ W.cell? ⟨g, 4, none⟩ = some a4 := ⟨blk_cell h 0, blk_cell h 1, blk_cell h 2, blk_cell h 3, blk_cell h 4⟩
theorem bcQ6 {W : World} {g t : Nat} {a0 a1 a2 a3 a4 a5 : Value} (h : W.heap[g]? = some (.cells #[a0, a1, a2, a3, a4, a5] t (0, 0))) : W.cell? ⟨g, 0, none⟩ = some a0 ∧ W.cell? ⟨g, 1, none⟩ = some a1 ∧ W.cell? ⟨g, 2, none⟩ = some a2 ∧ W.cell? ⟨g, 3, none⟩ = some a3 ∧ W.cell? ⟨g, 4, none⟩ = some a4 ∧ W.cell? ⟨g, 5, none⟩ = some a5 := ⟨blk_cell h 0, blk_cell h 1, blk_cell h 2, blk_cell h 3, blk_cell h 4, blk_cell h 5⟩
theorem fzQ2 {W : World} {g t : Nat} {cs : Array Value} (h : W.heap[g]? = some (.cells cs t (0, 0))) : W.frozen? ⟨g, 0, none⟩ = false ∧ W.frozen? ⟨g, 1, none⟩ = false := ⟨blk_frozen h 0, blk_frozen h 1⟩
theorem fzQ3 {W : World} {g t : Nat} {cs : Array Value} (h : W.heap[g]? = some (.cells cs t (0, 0))) : W.frozen? ⟨g, 0, none⟩ = false ∧ W.frozen? ⟨g, 1, none⟩ = false ∧ W.frozen? ⟨g, 2, none⟩ = false := ⟨blk_frozen h 0, blk_frozen h 1, blk_frozen h 2⟩
theorem fzQ5 {W : World} {g t : Nat} {cs : Array Value} (h : W.heap[g]? = some (.cells cs t (0, 0))) : W.frozen? ⟨g, 0, none⟩ = false ∧ W.frozen? ⟨g, 1, none⟩ = false ∧ W.frozen? ⟨g, 2, none⟩ = false ∧ W.frozen? ⟨g, 3, none⟩ = false ∧ W.frozen? ⟨g, 4, none⟩ = false := ⟨blk_frozen h 0, blk_frozen h 1, blk_frozen h 2, blk_frozen h 3, blk_frozen h 4⟩
theorem fzQ6 {W : World} {g t : Nat} {cs : Array Value} (h : W.heap[g]? = some (.cells cs t (0, 0))) : W.frozen? ⟨g, 0, none⟩ = false ∧ W.frozen? ⟨g, 1, none⟩ = false ∧ W.frozen? ⟨g, 2, none⟩ = false ∧ W.frozen? ⟨g, 3, none⟩ = false ∧ W.frozen? ⟨g, 4, none⟩ = false ∧ W.frozen? ⟨g, 5, none⟩ = false := ⟨blk_frozen h 0, blk_frozen h 1, blk_frozen h 2, blk_frozen h 3, blk_frozen h 4, blk_frozen h 5⟩
theorem atQ65 {w W : World} {A : Option Addr} {n : Nat} {xs : List S65} (h : Kd.C k65 w A n xs) (hb : Below w.heap.size w W) (i : Int) (h0 : 0 ≤ i) (h1 : i < n) : ∃ ad , A = some ad ∧ W.cell? (ad.add (i.toNat * 3)) = some (.string (rd_T65 xs i).f0) ∧ W.cell? ⟨(ad.add (i.toNat * 3)).block, (ad.add (i.toNat * 3)).off + 1, none⟩ = some (.int .i8 (rd_T65 xs i).f1) ∧ W.cell? ⟨(ad.add (i.toNat * 3)).block, (ad.add (i.toNat * 3)).off + 2, none⟩ = some (.int .i64 (rd_T65 xs i).f2) := by
 obtain ⟨ad, e, x0, x1, x2⟩ := at_T65 h i h0 h1
 exact ⟨ad, e, pw_cell_below hb x0, pw_cell_below hb x1, pw_cell_below hb x2⟩
theorem atQ82 {w W : World} {A : Option Addr} {n : Nat} {xs : List S82} (h : Kd.C k82 w A n xs) (hb : Below w.heap.size w W) (i : Int) (h0 : 0 ≤ i) (h1 : i < n) : ∃ ad , A = some ad ∧ W.cell? (ad.add (i.toNat * 2)) = some (.int .i64 (rd_T82 xs i).f0) ∧ W.cell? ⟨(ad.add (i.toNat * 2)).block, (ad.add (i.toNat * 2)).off + 1, none⟩ = some (.int .i64 (rd_T82 xs i).f1) := by
 obtain ⟨ad, e, x0, x1⟩ := at_T82 h i h0 h1
 exact ⟨ad, e, pw_cell_below hb x0, pw_cell_below hb x1⟩
end Go.Proofs.YtiaohbbafaaibabGreatDoor.P

/- OWN TEXT: lists that are written full, grown and looked at (Bag.Apart): what memory holds of them. -/
namespace Go.Proofs.YtiaohbbafaaibabGreatDoor.P
open Go.RowKit Go.Proofs.YtiaohbbafaaibabGreatDoorW.PrintWords Go.Proofs.YtiaohbbafaaibabGreatDoorW.PrintLast Go.Proofs.YtiaohbbafaaibabGreatDoorW.PrintMore Go.Proofs.YtiaohbbafaaibabGreatDoor.Arr
set_option linter.unusedVariables false
set_option linter.unusedSimpArgs false
/-- cells, the first k elements of which are marks. -/
def FlC (cs : Array Value) (s : Nat) (mk : Nat → List Value) (k : Nat) : Prop := ∀ i, i < k → ∀ j u, (mk i)[j]? = some u → cs[i * s + j]? = some u
/-- a list (number n) whose first k elements are marks; own tells of each block which list's it is. -/
def Fl (W : World) (B0 e s : Nat) (own : Nat → Nat) (mk : Nat → Nat → List Value) (n : Nat) (A : Option Addr) (len cap k : Nat) : Prop :=
 (A = none ∧ len = 0 ∧ cap = 0 ∧ k = 0) ∨ ∃ b cs, A = some ⟨b, 0, none⟩ ∧ W.heap[b]? = some (.cells cs e (0, 0)) ∧ own b = n ∧ B0 ≤ b ∧ cs.size = cap * s ∧ len ≤ cap ∧ k ≤ len ∧ FlC cs s (mk n) k
/-- element i of block b (elements of s cells) written. -/
structure Wrote (W W1 : World) (b e s i : Nat) (vals : List Value) (cs : Array Value) : Prop where
  old : W.heap[b]? = some (.cells cs e (0, 0))
  new : ∃ cs1 : Array Value, W1.heap[b]? = some (.cells cs1 e (0, 0)) ∧ cs1.size = cs.size ∧ (∀ t u, vals[t]? = some u → cs1[i * s + t]? = some u) ∧ ∀ p, p < i * s ∨ i * s + s ≤ p → cs1[p]? = cs[p]?
  grown : W.grownBy W1 (some b)
theorem FlC.put {cs cs1 : Array Value} {s i k : Nat} {mk : Nat → List Value} (h : FlC cs s mk k) (hmk : ∀ i, (mk i).length = s) (h1 : ∀ t u, (mk i)[t]? = some u → cs1[i * s + t]? = some u) (h2 : ∀ p, p < i * s ∨ i * s + s ≤ p → cs1[p]? = cs[p]?) : FlC cs1 s mk k := by
 intro i' hi' j u hu
 by_cases he : i' = i
 ·
  subst he; exact h1 j u hu
 ·
  have hj : j < s := by
   have := (List.getElem?_eq_some_iff.1 hu).1
   rw [hmk] at this
   exact this
  rw [h2]
  ·
   exact h i' hi' j u hu
  ·
   rcases Nat.lt_or_gt_of_ne he with h | h
   ·
    left
    have := Nat.mul_le_mul_right s (Nat.succ_le_of_lt h)
    rw [Nat.succ_mul] at this
    omega
   ·
    right
    have := Nat.mul_le_mul_right s (Nat.succ_le_of_lt h)
    rw [Nat.succ_mul] at this
    omega
theorem FlC.more {cs cs1 : Array Value} {s k : Nat} {mk : Nat → List Value} (h : FlC cs s mk k) (hmk : ∀ i, (mk i).length = s) (h1 : ∀ t u, (mk k)[t]? = some u → cs1[k * s + t]? = some u) (h2 : ∀ p, p < k * s ∨ k * s + s ≤ p → cs1[p]? = cs[p]?) : FlC cs1 s mk (k + 1) := by
 intro i' hi' j u hu
 by_cases he : i' = k
 ·
  subst he; exact h1 j u hu
 ·
  exact h.put hmk h1 h2 i' (by omega) j u hu
section
variable {W W1 : World} {B0 e s n len cap k : Nat} {own : Nat → Nat} {mk : Nat → Nat → List Value} {A : Option Addr}
theorem Fl.keep (h : Fl W B0 e s own mk n A len cap k) (hk : ∀ (b : Nat) (cs : Array Value), W.heap[b]? = some (.cells cs e (0, 0)) → W1.heap[b]? = W.heap[b]?) : Fl W1 B0 e s own mk n A len cap k := by
 rcases h with h | ⟨b, cs, h1, h2, h3⟩
 ·
  exact .inl h
 ·
  exact .inr ⟨b, cs, h1, (hk b cs h2).trans h2, h3⟩
theorem Fl.below (h : Fl W B0 e s own mk n A len cap k) (hb : Below W.heap.size W W1) : Fl W1 B0 e s own mk n A len cap k := h.keep fun b cs hbk => hb.block b (blk_lt hbk)
theorem Fl.other (h : Fl W B0 e s own mk n A len cap k) {g t : Nat} {cs : Array Value} {fz : Nat × Nat} (hg : W.heap[g]? = some (.cells cs t fz)) (ht : t ≠ e) (hr : W.grownBy W1 (some g)) : Fl W1 B0 e s own mk n A len cap k := h.keep fun b cs' hbk => hr.block b (blk_lt hbk) (fun he => by
  obtain rfl := Option.some.inj he
  rw [hbk] at hg
  injection hg with hg
  injection hg with h1 h2 h3
  exact ht h2.symm)
theorem Fl.put (h : Fl W B0 e s own mk n A len cap k) (hmk : ∀ n i, (mk n i).length = s) {b m i : Nat} {cs : Array Value} (hw : Wrote W W1 b e s i (mk m i) cs) (ho : own b = m) : Fl W1 B0 e s own mk n A len cap k := by
 rcases h with h | ⟨b', cs', h1, h2, h3, h4, h5, h6, h7, h8⟩
 ·
  exact .inl h
 ·
  by_cases he : b' = b
  ·
   subst he
   obtain ⟨cs1, n1, n2, n3, n4⟩ := hw.new
   have hcs : cs' = cs := by
    have := h2.symm.trans hw.old
    injection this with this
    injection this
   subst hcs
   rw [h3] at ho
   subst ho
   exact .inr ⟨b', cs1, h1, n1, h3, h4, by rw [n2, h5], h6, h7, h8.put (hmk n) n3 n4⟩
  ·
   exact .inr ⟨b', cs', h1, (hw.grown.block b' (blk_lt h2) (fun z => he (Option.some.inj z))).trans h2, h3, h4, h5, h6, h7, h8⟩
/-- one element more is a mark: in the list (fill), or behind it (grow). -/
theorem Fl.fill {b : Nat} (h : Fl W B0 e s own mk n (some ⟨b, 0, none⟩) len cap k) (hmk : ∀ n i, (mk n i).length = s) {cs : Array Value} (hk : k < len) (hw : Wrote W W1 b e s k (mk n k) cs) : Fl W1 B0 e s own mk n (some ⟨b, 0, none⟩) len cap (k + 1) := by
 rcases h with ⟨h, _⟩ | ⟨b', cs', h1, h2, h3, h4, h5, h6, h7, h8⟩
 ·
  cases h
 ·
  obtain rfl : b = b' := by injection h1 with h1; injection h1
  obtain ⟨cs1, n1, n2, n3, n4⟩ := hw.new
  have hcs : cs' = cs := by
   have := h2.symm.trans hw.old
   injection this with this
   injection this
  subst hcs
  exact .inr ⟨b, cs1, rfl, n1, h3, h4, by rw [n2, h5], h6, hk, h8.more (hmk n) n3 n4⟩
theorem Fl.grow {b : Nat} (h : Fl W B0 e s own mk n (some ⟨b, 0, none⟩) len cap len) (hmk : ∀ n i, (mk n i).length = s) {cs : Array Value} (hk : len < cap) (hw : Wrote W W1 b e s len (mk n len) cs) : Fl W1 B0 e s own mk n (some ⟨b, 0, none⟩) (len + 1) cap (len + 1) := by
 rcases h with ⟨h, _⟩ | ⟨b', cs', h1, h2, h3, h4, h5, h6, h7, h8⟩
 ·
  cases h
 ·
  obtain rfl : b = b' := by injection h1 with h1; injection h1
  obtain ⟨cs1, n1, n2, n3, n4⟩ := hw.new
  have hcs : cs' = cs := by
   have := h2.symm.trans hw.old
   injection this with this
   injection this
  subst hcs
  exact .inr ⟨b, cs1, rfl, n1, h3, h4, by rw [n2, h5], hk, Nat.le_refl _, h8.more (hmk n) n3 n4⟩
theorem Fl.own1 {own1 : Nat → Nat} (h : Fl W B0 e s own mk n A len cap k) (ho : ∀ b, b < W.heap.size → own1 b = own b) : Fl W B0 e s own1 mk n A len cap k := by
 rcases h with h | ⟨b, cs, h1, h2, h3, h4⟩
 ·
  exact .inl h
 ·
  exact .inr ⟨b, cs, h1, h2, (ho b (blk_lt h2)).trans h3, h4⟩
theorem Fl.cell {b : Nat} (h : Fl W B0 e s own mk n (some ⟨b, 0, none⟩) len cap k) {i : Nat} (hi : i < k) {j : Nat} {u : Value} (hu : (mk n i)[j]? = some u) : W.cell? ⟨b, i * s + j, none⟩ = some u := by
 rcases h with ⟨h, _⟩ | ⟨b', cs', h1, h2, h3, h4, h5, h6, h7, h8⟩
 ·
  cases h
 ·
  obtain rfl : b = b' := by injection h1 with h1; injection h1
  exact (cell_of_row _ _ _ _ _ _ h2).trans (h8 i hi j u hu)
theorem Fl.blk (h : Fl W B0 e s own mk n A len cap k) (hl : 0 < len) : ∃ b cs, A = some ⟨b, 0, none⟩ ∧ W.heap[b]? = some (.cells cs e (0, 0)) ∧ own b = n ∧ B0 ≤ b ∧ cs.size = cap * s ∧ len ≤ cap := by
 rcases h with ⟨h1, h2, _⟩ | ⟨b, cs, h1, h2, h3, h4, h5, h6, _⟩
 ·
  omega
 ·
  exact ⟨b, cs, h1, h2, h3, h4, h5, h6⟩
end
/-- how a list's cells are changed by a write of one cell. -/
theorem Wrote.set {W : World} {b e i : Nat} {cs : Array Value} (u : Value) (h : W.heap[b]? = some (.cells cs e (0, 0))) (hi : i < cs.size) : Wrote W (W.setCell ⟨b, i, none⟩ u) b e 1 i [u] cs :=
  ⟨h, ⟨cs.setIfInBounds i u, blk_set h i u, Array.size_setIfInBounds .., fun t v hv => by
    cases t with
    | zero =>
      obtain rfl : u = v := Option.some.inj hv
      rw [Nat.mul_one, Nat.add_zero, Array.getElem?_setIfInBounds_self_of_lt hi]
    | succ t => simp at hv, fun p hp => by
    rw [Nat.mul_one] at hp
    rw [Array.getElem?_setIfInBounds_ne (by omega)]⟩, put_grownN (put_set h)⟩
/-- what a call that fills lists leaves: nothing of w0's is turned; of what was there at its beginning, rows of type e alone. -/
structure St (w0 w W : World) (e : Nat) : Prop where
  low : Below w0.heap.size w0 W
  sz : w.heap.size ≤ W.heap.size
  b0 : w0.heap.size ≤ w.heap.size
  far : ∀ k, k < w.heap.size → (∀ cs, w.heap[k]? ≠ some (.cells cs e (0, 0))) → W.heap[k]? = w.heap[k]?
section
variable {w0 w W W1 : World} {e : Nat}
theorem St.refl (h : Below w0.heap.size w0 w) : St w0 w w e := ⟨h, Nat.le_refl _, h.size, fun _ _ _ => rfl⟩
theorem St.below (h : St w0 w W e) (hb : Below W.heap.size W W1) : St w0 w W1 e := ⟨below_then h.low h.low.size hb, Nat.le_trans h.sz hb.size, h.b0, fun k hk hn => (hb.block k (Nat.lt_of_lt_of_le hk h.sz)).trans (h.far k hk hn)⟩
theorem St.fresh (h : St w0 w W e) (hg : W.grownBy W1 none) : St w0 w W1 e := h.below ⟨hg.os, hg.tape, hg.output, hg.size, fun q hq => hg.block q hq (by simp)⟩
theorem St.mine (h : St w0 w W e) {g : Nat} (hg : W.grownBy W1 (some g)) (hw : w.heap.size ≤ g) : St w0 w W1 e :=
 ⟨⟨hg.os.trans h.low.os, hg.tape.trans h.low.tape, hg.output.trans h.low.output, Nat.le_trans h.low.size hg.size, fun q hq => (hg.block q (Nat.lt_of_lt_of_le hq h.low.size) (fun z => by have := Option.some.inj z; have := h.b0; omega)).trans (h.low.block q hq)⟩, Nat.le_trans h.sz hg.size, h.b0, fun k hk hn => (hg.block k (Nat.lt_of_lt_of_le hk h.sz) (fun z => by have := Option.some.inj z; omega)).trans (h.far k hk hn)⟩
theorem St.row (h : St w0 w W e) {g : Nat} {cs : Array Value} (hg : W.grownBy W1 (some g)) (hb : W.heap[g]? = some (.cells cs e (0, 0))) (hw : w0.heap.size ≤ g) : St w0 w W1 e :=
  ⟨⟨hg.os.trans h.low.os, hg.tape.trans h.low.tape, hg.output.trans h.low.output, Nat.le_trans h.low.size hg.size, fun q hq => (hg.block q (Nat.lt_of_lt_of_le hq h.low.size) (fun z => by have := Option.some.inj z; omega)).trans (h.low.block q hq)⟩, Nat.le_trans h.sz hg.size, h.b0, fun k hk hn => (hg.block k (Nat.lt_of_lt_of_le hk h.sz) (fun z => by
    obtain rfl := Option.some.inj z
    have h1 := h.far k hk hn
    rw [hb] at h1
    exact hn cs h1.symm)).trans (h.far k hk hn)⟩
theorem St.blk (h : St w0 w W e) {g t : Nat} {cs : Array Value} {fz : Nat × Nat} (hb : w.heap[g]? = some (.cells cs t fz)) (ht : t ≠ e) : W.heap[g]? = some (.cells cs t fz) := (h.far g (blk_lt hb) (fun cs' hc => by
  rw [hb] at hc
  injection hc with hc
  injection hc with h1 h2 h3
  exact ht h2)).trans hb
end
section
variable {P : Program} {ops : Array Oper} {rest : List Oper} {o : Oper} {a : Act} {Q : Exit → Act → World → Prop}
theorem set_cells_wrote {W : World} {b e s i : Nat} {cs : Array Value} {vals : List Value} (h : W.heap[b]? = some (.cells cs e (0, 0))) (hl : vals.length = s) (hi : i * s + s ≤ cs.size) : Wrote W (W.setCells b (i * s) vals) b e s i vals cs := by
 obtain ⟨cs1, h1, h2, h3⟩ := setCells_row vals (i * s) W cs h (by omega)
 obtain ⟨k1, k2, k3, k4⟩ := setCells_same b vals (i * s) W
 refine ⟨h, ⟨cs1, h1, h2, fun t u hu => ?_, fun p hp => ?_⟩, ⟨k1, k2, k3, by omega, fun k _ hk => setCells_far vals (i * s) k (fun e => hk (by rw [e]))⟩⟩
 ·
  have ht : t < vals.length := (List.getElem?_eq_some_iff.1 hu).1
  have hsz : cs.toList.length = cs.size := Array.length_toList
  rw [← Array.getElem?_toList, h3, List.append_assoc, List.getElem?_append_right (by rw [List.length_take]; omega), List.length_take, hsz, Nat.min_eq_left (by omega), Nat.add_sub_cancel_left, List.getElem?_append_left ht]
  exact hu
 ·
  have hsz : cs.toList.length = cs.size := Array.length_toList
  rw [← Array.getElem?_toList, ← Array.getElem?_toList, h3]
  rcases hp with hp | hp
  ·
   rw [List.append_assoc, List.getElem?_append_left (by rw [List.length_take, hsz]; omega), List.getElem?_take_of_lt hp]
  ·
   rw [List.getElem?_append_right (by rw [List.length_append, List.length_take, hsz]; omega), List.length_append, List.length_take, hsz, Nat.min_eq_left (by omega), hl, List.getElem?_drop]
   congr 1
   omega
/-- a list of marks that has grown into a block of its own. -/
theorem fresh_case {w0 w W W1 : World} {e s n len : Nat} {own : Nat → Nat} {mk : Nat → Nat → List Value} {v1 : Value} {xs : List Value} {X : Value → World → Prop} (HS : St w0 w W e) (hmk : ∀ n i, (mk n i).length = s) (_ : 0 ≤ len) (hown : W1.ownsRow W.heap.size e s v1 (len + 1) xs) (hgr : W.grownBy W1 none) (hxs : ∀ i, i < len + 1 → ∀ j u, (mk n i)[j]? = some u → xs[i * s + j]? = some u)
  (h : ∀ A1 cap1 own1 W1, Fl W1 w0.heap.size e s own1 mk n A1 (len + 1) cap1 (len + 1) → St w0 w W1 e → W.heap.size ≤ W1.heap.size → (∀ k, k < W.heap.size → (∀ cs, W.heap[k]? ≠ some (.cells cs e (0, 0))) → W1.heap[k]? = W.heap[k]?) → (∀ m A' l' c' k', Fl W w0.heap.size e s own mk m A' l' c' k' → Fl W1 w0.heap.size e s own1 mk m A' l' c' k') → X (.slice A1 (len + 1) cap1) W1) : X v1 W1 := by
 obtain ⟨hl, hv⟩ := hown
 rcases hv with ⟨_, h0⟩ | ⟨g, cap1, cur, rfl, hg1, hg2, hg3, hg4, hg5, hg6⟩
 ·
  omega
 ·
  refine h (some ⟨g, 0, none⟩) cap1 (fun b => if b = g then n else own b) W1 (.inr ⟨g, cur, rfl, hg2, if_pos rfl, Nat.le_trans HS.b0 (Nat.le_trans HS.sz hg1), hg5, hg3, Nat.le_refl _, fun i hi j u hu => ?_⟩) (HS.fresh hgr) hgr.size (fun k hk _ => hgr.block k hk (by simp)) (fun m A' l' c' k' hm => ?_)
  ·
   have h1 := hxs i hi j u hu
   rw [← hg6] at h1
   have hj := (List.getElem?_eq_some_iff.1 h1).1
   rw [List.length_take] at hj
   rw [List.getElem?_take_of_lt (by omega), Array.getElem?_toList] at h1
   exact h1
  ·
   refine (hm.own1 (own1 := fun b => if b = g then n else own b) (fun b hb => if_neg (by omega))).keep (fun b cs hb => hgr.block b (blk_lt hb) (by simp))
/-- one element appended to a list of marks. -/
theorem Fl.append {w0 w W : World} {e s n len cap : Nat} {own : Nat → Nat} {mk : Nat → Nat → List Value} {A : Option Addr} (H : Fl W w0.heap.size e s own mk n A len cap len) (HS : St w0 w W e) (hmk : ∀ n i, (mk n i).length = s)
    (hg : o.guard = none) (x1 x2 : Operand) (t : TypeId) (hop : o.op = Op.call { callee := Callee.builtin Builtin.append, args := #[x1, x2], argTypes := #[t, t] })
    (i : TypeInfo) (z : Value) (bytes : Nat) (h1 : P.underlying t = some (.slice e)) (h2 : P.info? e = some i) (h3 : i.zero = some z) (h4 : i.size = s) (h5 : i.bytes = bytes) (h6 : z.cells.size = s) (h7 : 0 < s)
    (hs : a.eval x1 = .slice A len cap) (ad : Addr) (c : Nat) (hx : a.eval x2 = .slice (some ad) 1 c) (hc : ∀ j u, (mk n len)[j]? = some u → W.cell? (ad.add j) = some u) (h1c : ∀ u ∈ mk n len, u.oneCell' = true)
    (b1 : len + 1 ≤ maxLen) (b2 : (len + 1) * bytes ≤ 140737488355328)
    (h : ∀ A1 cap1 own1 W1, Fl W1 w0.heap.size e s own1 mk n A1 (len + 1) cap1 (len + 1) → St w0 w W1 e → W.heap.size ≤ W1.heap.size → (∀ k, k < W.heap.size → (∀ cs, W.heap[k]? ≠ some (.cells cs e (0, 0))) → W1.heap[k]? = W.heap[k]?) → (∀ m A' l' c' k', Fl W w0.heap.size e s own mk m A' l' c' k' → Fl W1 w0.heap.size e s own1 mk m A' l' c' k') → wpList P ops Q rest (a.put o.dst (.slice A1 (len + 1) cap1)) W1) :
    wpList P ops Q (o :: rest) a W := by
  rcases H with ⟨rfl, rfl, rfl, _⟩ | ⟨b, cs, rfl, hb, ho, hB, hsz, hlc, _, hF⟩
  · refine wpList_append_grows W hg x1 x2 t hop e i z s bytes h1 h2 h3 h4 h5 h6 h7 none 0 0 [] hs (fun _ => ⟨rfl, rfl⟩) (by simp) (fun b hb => by cases hb) ad 1 c (mk n 0) hx (by rw [hmk]; omega) hc h1c (by omega) b1 b2 ?_
    intro v1 W1 hown hgr
    rw [List.nil_append] at hown
    exact fresh_case (own := own) (n := n) (X := fun v W => wpList P ops Q rest (a.put o.dst v) W) HS hmk (by omega) hown hgr (fun i hi j u hu => by
      have : i = 0 := by omega
      subst this
      rw [Nat.zero_mul, Nat.zero_add]
      exact hu) h
  · have holds : ∀ j u, (cs.toList.take (len * s))[j]? = some u → W.cell? ⟨b, 0 + j, none⟩ = some u := by
      intro j u hu
      have hj : j < len * s := by
        have := (List.getElem?_eq_some_iff.1 hu).1
        rw [List.length_take] at this
        omega
      rw [Nat.zero_add]
      refine (cell_of_row _ _ _ _ _ _ hb).trans ?_
      rw [List.getElem?_take_of_lt hj, Array.getElem?_toList] at hu
      exact hu
    have hle : len * s ≤ cap * s := Nat.mul_le_mul_right s hlc
    have hlo : (cs.toList.take (len * s)).length = len * s := by rw [List.length_take, Array.length_toList]; omega
    refine wpList_append_arg W hg x1 x2 t hop e i z s bytes h1 h2 h3 h4 h5 h6 h7 b 0 len cap (cs.toList.take (len * s)) hs hlo holds ad 1 c (mk n len) hx (by rw [hmk]; omega) hc h1c ?_ b1 b2 ?_ ?_
    · intro hroom j hj
      rw [hmk] at hj
      have h8 : (len + 1) * s ≤ cap * s := Nat.mul_le_mul_right s hroom
      rw [Nat.succ_mul] at h8
      refine ⟨?_, blk_frozen hb _⟩
      rw [cell_of_row _ _ _ _ _ _ hb, Nat.zero_add, Array.getElem?_eq_getElem (by omega)]
      rfl
    · intro hroom
      have h8 : (len + 1) * s ≤ cap * s := Nat.mul_le_mul_right s hroom
      rw [Nat.succ_mul] at h8
      rw [Nat.zero_add]
      have hw := set_cells_wrote (W := W) (i := len) (vals := mk n len) hb (hmk n len) (by omega)
      have HF : Fl W w0.heap.size e s own mk n (some ⟨b, 0, none⟩) len cap len := .inr ⟨b, cs, rfl, hb, ho, hB, hsz, hlc, Nat.le_refl _, hF⟩
      refine h (some ⟨b, 0, none⟩) cap own _ (HF.grow hmk (by omega) hw) (HS.row hw.grown hb hB) hw.grown.size (fun k hk hn => hw.grown.block k hk (fun z => by
        obtain rfl := Option.some.inj z
        exact hn cs hb)) (fun m A' l' c' k' hm => hm.put hmk hw ho)
    · intro hfull v1 W1 hown hgr
      refine fresh_case (own := own) (n := n) (X := fun v W => wpList P ops Q rest (a.put o.dst v) W) HS hmk (Nat.zero_le _) hown hgr (fun i hi j u hu => ?_) h
      have hj : j < s := by
        have := (List.getElem?_eq_some_iff.1 hu).1
        rw [hmk] at this
        exact this
      by_cases he : i = len
      · subst he
        rw [List.getElem?_append_right (by omega), hlo, Nat.add_sub_cancel_left]
        exact hu
      · have h9 : (i + 1) * s ≤ len * s := Nat.mul_le_mul_right s (by omega)
        rw [Nat.succ_mul] at h9
        rw [List.getElem?_append_left (by omega), List.getElem?_take_of_lt (by omega), Array.getElem?_toList]
        exact hF i (by omega) j u hu

end
end Go.Proofs.YtiaohbbafaaibabGreatDoor.P

/- OWN TEXT: lists that are written full, grown and looked at (Bag.Apart): what is held on the way, and what each append does to it. -/
namespace Go.Proofs.YtiaohbbafaaibabGreatDoor.P
open Go.RowKit Go.Proofs.YtiaohbbafaaibabGreatDoorW.PrintWords Go.Proofs.YtiaohbbafaaibabGreatDoorW.PrintLast Go.Proofs.YtiaohbbafaaibabGreatDoorW.PrintMore Go.Proofs.YtiaohbbafaaibabGreatDoor.Arr
set_option linter.unusedVariables false
set_option linter.unusedSimpArgs false
abbrev Tri := Option Addr × Nat × Nat
def slT (p : Tri) : Value := .slice p.1 p.2.1 p.2.2
theorem slT_one (p : Tri) : (slT p).oneCell' = true := rfl
abbrev KS : Kd Tri := Kd.scalar slT slT_one
/-- lists that were gathered, by number: each d longer than the bag's, each full of marks. -/
def Col (W : World) (base E1 B0 E s : Nat) (own : Nat → Nat) (mk : Nat → Nat → List Value) (L : Nat → Nat) (d n : Nat) (u : Value) : Prop :=
 ∃ ts : List Tri, ts.length = n ∧ KS.R E1 W base (fun _ => True) u ts ∧ ∀ m p, ts[m]? = some p → p.2.1 = L m + d ∧ Fl W B0 E s own mk m p.1 (L m + d) p.2.2 (L m + d)
section
variable {W W1 : World} {base E1 B0 E s d n : Nat} {own own1 : Nat → Nat} {mk : Nat → Nat → List Value} {L : Nat → Nat} {u : Value}
theorem Col.nil : Col W base E1 B0 E s own mk L d 0 (.slice none 0 0) := ⟨[], rfl, Kd.R_nil _ _ _ _ _, fun m p h => by simp at h⟩
theorem Col.form (h : Col W base E1 B0 E s own mk L d n u) : ∃ A c, u = .slice A n c := by
 obtain ⟨ts, rfl, hR, _⟩ := h
 exact Kd.R_slice hR
theorem Col.at (h : Col W base E1 B0 E s own mk L d n u) {m : Nat} (hm : m < n) : ∃ g c A' c', u = .slice (some ⟨g, 0, none⟩) n c ∧ W.cell? ⟨g, m, none⟩ = some (.slice A' (L m + d) c') ∧ Fl W B0 E s own mk m A' (L m + d) c' (L m + d) := by
 obtain ⟨ts, rfl, hR, hF⟩ := h
 obtain ⟨g, c, rfl, _⟩ := Kd.R_form hR (by omega)
 have h1 := (Kd.R_celln ((none, 0, 0) : Tri) hR (m : Int) (by omega) (by omega)).1
 have h2 := List.getElem?_eq_getElem hm
 have h3 := hF m _ h2
 have h4 : rdOf ((none, 0, 0) : Tri) ts (m : Int) = ts[m] := by
  unfold rdOf
  rw [Int.toNat_natCast, List.getD_eq_getElem?_getD, h2]
  rfl
 rw [h4, Int.toNat_natCast] at h1
 refine ⟨g, c, ts[m].1, ts[m].2.2, rfl, ?_, h3.2⟩
 rw [h1]
 unfold slT
 rw [h3.1]
theorem Col.move (h : Col W base E1 B0 E s own mk L d n u) (hb : ∀ (k : Nat) (cs : Array Value), u.ownBlock = some k → W.heap[k]? = some (.cells cs E1 (0, 0)) → W1.heap[k]? = W.heap[k]?) (hF : ∀ m A' l' c' k', Fl W B0 E s own mk m A' l' c' k' → Fl W1 B0 E s own1 mk m A' l' c' k') : Col W1 base E1 B0 E s own1 mk L d n u := by
 obtain ⟨ts, h1, hR, h2⟩ := h
 refine ⟨ts, h1, ?_, fun m p hp => ⟨(h2 m p hp).1, hF m _ _ _ _ (h2 m p hp).2⟩⟩
 have hR1 : KS.R E1 W base (fun k => u.ownBlock = some k) u ts := Kd.R_of_own (Kd.own_of_R hR) (fun k hk => hk)
 refine Kd.R_mono (Kd.R_move (Kd.R_bound hR1) (fun k hk => ?_)) (fun _ _ => trivial)
 obtain ⟨hk1, _, _, q, hq, cells, hc⟩ := hk
 obtain rfl : q = E1 := by
  rcases List.mem_cons.1 hq with h | h
  ·
   exact h
  ·
   cases h
 exact hb k cells hk1 hc
theorem Col.typed (h : Col W base E1 B0 E s own mk L d n u) {k : Nat} (hk : u.ownBlock = some k) : k < W.heap.size ∧ base ≤ k ∧ ∃ cs, W.heap[k]? = some (.cells cs E1 (0, 0)) := by
 obtain ⟨ts, h1, hR, h2⟩ := h
 have h3 : KS.R E1 W base (fun k => u.ownBlock = some k) u ts := Kd.R_of_own (Kd.own_of_R hR) (fun k hk => hk)
 have := (Kd.R_bound h3).1 k hk
 obtain ⟨_, h4, h5, q, hq, cells, hc⟩ := this
 obtain rfl : q = E1 := by
  rcases List.mem_cons.1 hq with h | h
  ·
   exact h
  ·
   cases h
 exact ⟨h5, h4, cells, hc⟩
end
section
variable {W W1 w0 w : World} {E1 B0 E s d n : Nat} {own : Nat → Nat} {mk : Nat → Nat → List Value} {L : Nat → Nat} {u : Value}
theorem Col.flat {base : Nat} (h : Col W base E1 B0 E s own mk L d n u) (hE : E1 ≠ E) (hg : W.grownBy W1 u.ownBlock) : ∀ m A' l' c' k', Fl W B0 E s own mk m A' l' c' k' → Fl W1 B0 E s own mk m A' l' c' k' := fun m A' l' c' k' hF => hF.keep (fun b cs hb => hg.block b (blk_lt hb) (fun z => by
  obtain ⟨_, _, cs', hc⟩ := h.typed z.symm
  rw [hb] at hc
  injection hc with hc
  injection hc with h1 h2 h3
  exact hE h2.symm))
theorem Col.st (h : Col W w.heap.size E1 B0 E s own mk L d n u) (hS : St w0 w W E) (hg : W.grownBy W1 u.ownBlock) : St w0 w W1 E := by
 cases hu : u.ownBlock with
 | none => rw [hu] at hg; exact hS.fresh hg
 | some k => rw [hu] at hg; exact hS.mine hg (h.typed hu).2.1
end
/-- what is held while the lists are grown: `one` (each longer by one), `more` (by seventy). -/
structure P2 (E E1 s : Nat) (mk : Nat → Nat → List Value) (w0 w W : World) (M : Nat) (A : Nat → Option Addr) (L C : Nat → Nat) (own : Nat → Nat) (n5 n6 : Nat) (u5 u6 : Value) : Prop where
  st : St w0 w W E
  rows : ∀ m, m < M → Fl W w0.heap.size E s own mk m (A m) (L m) (C m) (L m)
  one : Col W w.heap.size E1 w0.heap.size E s own mk L 1 n5 u5
  more : Col W w.heap.size E1 w0.heap.size E s own mk L 70 n6 u6
  ne : ∀ k, u5.ownBlock = some k → u6.ownBlock ≠ some k
section
variable {E E1 s : Nat} {mk : Nat → Nat → List Value} {w0 w W W1 : World} {M : Nat} {A : Nat → Option Addr} {L C : Nat → Nat} {own own1 : Nat → Nat} {n5 n6 : Nat} {u5 u6 : Value}
theorem P2.below (h : P2 E E1 s mk w0 w W M A L C own n5 n6 u5 u6) (hb : Below W.heap.size W W1) : P2 E E1 s mk w0 w W1 M A L C own n5 n6 u5 u6 :=
 ⟨h.st.below hb, fun m hm => (h.rows m hm).below hb, h.one.move (fun k cs _ hc => hb.block k (blk_lt hc)) (fun _ _ _ _ _ hF => hF.below hb), h.more.move (fun k cs _ hc => hb.block k (blk_lt hc)) (fun _ _ _ _ _ hF => hF.below hb), h.ne⟩
/-- rows of the lists' own type have been written. -/
theorem P2.mine (h : P2 E E1 s mk w0 w W M A L C own n5 n6 u5 u6) (hE : E1 ≠ E) (hS : St w0 w W1 E) (hfar : ∀ k, k < W.heap.size → (∀ cs, W.heap[k]? ≠ some (.cells cs E (0, 0))) → W1.heap[k]? = W.heap[k]?) (hF : ∀ m A' l' c' k', Fl W w0.heap.size E s own mk m A' l' c' k' → Fl W1 w0.heap.size E s own1 mk m A' l' c' k') : P2 E E1 s mk w0 w W1 M A L C own1 n5 n6 u5 u6 := by
  have hb : ∀ (u : Value) (k : Nat) (cs : Array Value), u.ownBlock = some k → W.heap[k]? = some (.cells cs E1 (0, 0)) → W1.heap[k]? = W.heap[k]? := fun u k cs _ hc => hfar k (blk_lt hc) (fun cs' hc' => by
    rw [hc] at hc'
    injection hc' with hc'
    injection hc' with h1 h2 h3
    exact hE h2)
  exact ⟨hS, fun m hm => hF m _ _ _ _ (h.rows m hm), h.one.move (hb u5) hF, h.more.move (hb u6) hF, h.ne⟩
section
variable {P : Program} {ops : Array Oper} {rest : List Oper} {o : Oper} {a : Act} {Q : Exit → Act → World → Prop}
/-- `l = append(l, mark)`. -/
theorem P2.app_l (h : P2 E E1 s mk w0 w W M A L C own n5 n6 u5 u6) (hE : E1 ≠ E) (hmk : ∀ n i, (mk n i).length = s) (h1c : ∀ n i, ∀ u ∈ mk n i, u.oneCell' = true) (hg : o.guard = none) (x1 x2 : Operand) (t : TypeId) (hop : o.op = Op.call { callee := Callee.builtin Builtin.append, args := #[x1, x2], argTypes := #[t, t] })
  (z : Value) (bytes : Nat) (h1 : P.underlying t = some (.slice E)) (hinfo : (P.info? E).map (fun i => (i.zero, i.size, i.bytes)) = some (some z, s, bytes)) (h6 : z.cells.size = s) (h7 : 0 < s)
  {n len cap : Nat} {Al : Option Addr} (H : Fl W w0.heap.size E s own mk n Al len cap len) (hs : a.eval x1 = .slice Al len cap) (hx : a.eval x2 = .slice (some ⟨W.heap.size, 0, none⟩) 1 1) (hlen : len ≤ 1000000000000) (hby : bytes ≤ 128)
  (cs : Array Value) (hcs : cs = (mk n len).toArray)
  (k : ∀ A1 cap1 own1 W1, P2 E E1 s mk w0 w W1 M A L C own1 n5 n6 u5 u6 → Fl W1 w0.heap.size E s own1 mk n A1 (len + 1) cap1 (len + 1) → wpList P ops Q rest (a.put o.dst (.slice A1 (len + 1) cap1)) W1) :
  wpList P ops Q (o :: rest) a (W.alloc (.cells cs E)) := by
 subst hcs
 obtain ⟨i, hi, hz⟩ := Option.map_eq_some_iff.1 hinfo
 simp only [Prod.mk.injEq] at hz
 have hb := below_alloc (Below.refl W.heap.size W) (.cells (mk n len).toArray E)
 have h2 := h.below hb
 have hblk : (W.alloc (.cells (mk n len).toArray E)).heap[W.heap.size]? = some (.cells (mk n len).toArray E (0, 0)) := blk_new W _
 have hbig : (len + 1) * bytes ≤ 140737488355328 := Nat.le_trans (Nat.mul_le_mul (Nat.succ_le_succ hlen) hby) (by decide)
 refine (H.below hb).append h2.st hmk hg x1 x2 t hop i z bytes h1 hi hz.1 hz.2.1 hz.2.2 h6 h7 hs ⟨W.heap.size, 0, none⟩ 1 hx (fun j u hu => ?_) (h1c n len) (by simp only [maxLen]; omega) hbig ?_
 ·
  rw [add_plain, cell_of_row _ _ j _ _ _ hblk, ← Array.getElem?_toList]
  exact hu
 ·
  intro A1 cap1 own1 W1 hF hS hsz hfar hmv
  exact k A1 cap1 own1 W1 (h2.mine hE hS hfar hmv) hF
/-- `one = append(one, l)`. -/
theorem P2.app_one (h : P2 E E1 s mk w0 w W M A L C own n5 n6 u5 u6) (hE : E1 ≠ E) (hg : o.guard = none) (x1 x2 : Operand) (t : TypeId) (hop : o.op = Op.call { callee := Callee.builtin Builtin.append, args := #[x1, x2], argTypes := #[t, t] })
  (h1 : P.underlying t = some (.slice E1)) (hinfo : (P.info? E1).map (fun i => (i.zero, i.size, i.bytes)) = some (some (.slice none 0 0), 1, 24))
  (hs : a.eval x1 = u5) (hx : a.eval x2 = .slice (some ⟨W.heap.size, 0, none⟩) 1 1) (hn : n5 ≤ 1000) {Al : Option Addr} {cap : Nat} (H : Fl W w0.heap.size E s own mk n5 Al (L n5 + 1) cap (L n5 + 1))
  (k : ∀ v1 W1, P2 E E1 s mk w0 w W1 M A L C own (n5 + 1) n6 v1 u6 → (∀ m A' l' c' k', Fl W w0.heap.size E s own mk m A' l' c' k' → Fl W1 w0.heap.size E s own mk m A' l' c' k') → wpList P ops Q rest (a.put o.dst v1) W1) :
  wpList P ops Q (o :: rest) a (W.alloc (.cells #[.slice Al (L n5 + 1) cap] E1)) := by
 obtain ⟨ts, hts, hR, hT⟩ := h.one
 refine Kd.R_append KS (w0 := W) (W := W) w.heap.size hg x1 x2 t E1 (.slice none 0 0) 24 hop h1 hinfo rfl (by decide) (by decide) u5 ts ((Al, L n5 + 1, cap) : Tri) [slT (Al, L n5 + 1, cap)] (fun _ => True) (fun _ => False) hs hx rfl (fun _ hk => hk.elim) (fun _ _ => trivial) hR (Below.refl _ _) h.st.sz (by rw [hts]; omega) ?_
 intro v1 W1 hR1 _ hg1 halt
 have hmv := h.one.flat hE hg1
 refine k v1 W1 ⟨h.one.st h.st hg1, fun m hm => hmv m _ _ _ _ (h.rows m hm), ⟨ts ++ [(Al, L n5 + 1, cap)], by rw [List.length_append, hts]; rfl, hR1, fun m p hp => ?_⟩, h.more.move (fun q cs hq hc => hg1.block q (blk_lt hc) (fun z => h.ne q z.symm hq)) hmv, fun q hq hq6 => ?_⟩ hmv
 ·
  rcases Nat.lt_or_ge m ts.length with hm | hm
  ·
   rw [List.getElem?_append_left hm] at hp
   exact ⟨(hT m p hp).1, hmv m _ _ _ _ (hT m p hp).2⟩
  ·
   rw [List.getElem?_append_right hm] at hp
   have hm2 : m = ts.length := by
    have := (List.getElem?_eq_some_iff.1 hp).1
    simp at this
    omega
   subst hm2
   rw [Nat.sub_self] at hp
   obtain rfl : (Al, L n5 + 1, cap) = p := Option.some.inj hp
   rw [hts]
   exact ⟨rfl, hmv n5 _ _ _ _ H⟩
 ·
  rcases halt with he | ⟨b, hb1, hb2⟩
  ·
   exact h.ne q (he.symm.trans hq) hq6
  ·
   rw [hq] at hb1
   obtain rfl := Option.some.inj hb1
   have := (h.more.typed hq6).1
   omega
/-- `more = append(more, l)`. -/
theorem P2.app_more (h : P2 E E1 s mk w0 w W M A L C own n5 n6 u5 u6) (hE : E1 ≠ E) (hg : o.guard = none) (x1 x2 : Operand) (t : TypeId) (hop : o.op = Op.call { callee := Callee.builtin Builtin.append, args := #[x1, x2], argTypes := #[t, t] })
  (h1 : P.underlying t = some (.slice E1)) (hinfo : (P.info? E1).map (fun i => (i.zero, i.size, i.bytes)) = some (some (.slice none 0 0), 1, 24))
  (hs : a.eval x1 = u6) (hx : a.eval x2 = .slice (some ⟨W.heap.size, 0, none⟩) 1 1) (hn : n6 ≤ 1000) {Al : Option Addr} {cap : Nat} (H : Fl W w0.heap.size E s own mk n6 Al (L n6 + 70) cap (L n6 + 70))
  (k : ∀ v1 W1, P2 E E1 s mk w0 w W1 M A L C own n5 (n6 + 1) u5 v1 → wpList P ops Q rest (a.put o.dst v1) W1) :
  wpList P ops Q (o :: rest) a (W.alloc (.cells #[.slice Al (L n6 + 70) cap] E1)) := by
 obtain ⟨ts, hts, hR, hT⟩ := h.more
 refine Kd.R_append KS (w0 := W) (W := W) w.heap.size hg x1 x2 t E1 (.slice none 0 0) 24 hop h1 hinfo rfl (by decide) (by decide) u6 ts ((Al, L n6 + 70, cap) : Tri) [slT (Al, L n6 + 70, cap)] (fun _ => True) (fun _ => False) hs hx rfl (fun _ hk => hk.elim) (fun _ _ => trivial) hR (Below.refl _ _) h.st.sz (by rw [hts]; omega) ?_
 intro v1 W1 hR1 _ hg1 halt
 have hmv := h.more.flat hE hg1
 refine k v1 W1 ⟨h.more.st h.st hg1, fun m hm => hmv m _ _ _ _ (h.rows m hm), h.one.move (fun q cs hq hc => hg1.block q (blk_lt hc) (fun z => h.ne q hq z.symm)) hmv, ⟨ts ++ [(Al, L n6 + 70, cap)], by rw [List.length_append, hts]; rfl, hR1, fun m p hp => ?_⟩, fun q hq hq6 => ?_⟩
 ·
  rcases Nat.lt_or_ge m ts.length with hm | hm
  ·
   rw [List.getElem?_append_left hm] at hp
   exact ⟨(hT m p hp).1, hmv m _ _ _ _ (hT m p hp).2⟩
  ·
   rw [List.getElem?_append_right hm] at hp
   have hm2 : m = ts.length := by
    have := (List.getElem?_eq_some_iff.1 hp).1
    simp at this
    omega
   subst hm2
   rw [Nat.sub_self] at hp
   obtain rfl : (Al, L n6 + 70, cap) = p := Option.some.inj hp
   rw [hts]
   exact ⟨rfl, hmv n6 _ _ _ _ H⟩
 ·
  rcases halt with he | ⟨b, hb1, hb2⟩
  ·
   exact h.ne q hq (he.symm.trans hq6)
  ·
   rw [hq6] at hb1
   obtain rfl := Option.some.inj hb1
   have := (h.one.typed hq).1
   omega
end
end
end Go.Proofs.YtiaohbbafaaibabGreatDoor.P

/- OWN TEXT: Bag.AddBytes walked: one list more is gathered. -/
namespace Go.Proofs.YtiaohbbafaaibabGreatDoor.P
open Go.RowKit Go.Proofs.YtiaohbbafaaibabGreatDoorW.PrintWords Go.Proofs.YtiaohbbafaaibabGreatDoorW.PrintLast Go.Proofs.YtiaohbbafaaibabGreatDoorW.PrintMore Go.Proofs.YtiaohbbafaaibabGreatDoor.Arr
set_option linter.unusedVariables false
set_option linter.unusedSimpArgs false
theorem infoAddBytes : (Tryz.prog.info? 31).map (fun i => (i.zero, i.size, i.bytes)) = some (some (.slice none 0 0), 1, 24) := by kernel_rfl
theorem row_not_bag {W : World} {g e t base : Nat} {cs : Array Value} {ok : Nat → Prop} {v : Value} {ts : List Tri} (hb : W.heap[g]? = some (.cells cs t (0, 0))) (hr : KS.R e W base ok v ts) (ht : e ≠ t) : some g ≠ v.ownBlock := fun h => by
 obtain ⟨_, _, _, q, hq, cells, hc⟩ := (Kd.R_bound hr).1 g h.symm
 obtain rfl : q = e := by
  rcases List.mem_cons.1 hq with h | h
  ·
   exact h
  ·
   cases h
 rw [hc] at hb
 injection hb with hb
 injection hb with h1 h2
 exact ht h2
set_option maxHeartbeats 8000000 in
set_option maxRecDepth 100000 in
theorem addBytes.calls (w0 w : World) (g : Nat) (cg : Array Value) (ts : List Tri) (v : Value) (hb : w.heap[g]? = some (.cells cg 56 (0, 0))) (hc : cg[0]? = some v) (hg : w0.heap.size ≤ g) (low : Below w0.heap.size w0 w) (hR : KS.R 31 w w0.heap.size (fun _ => True) v ts) (hn : ts.length < 300) (p : Tri) :
    Calls Tryz.prog 13 #[.pointer (some ⟨g, 0, none⟩), .slice p.1 p.2.1 p.2.2] w fun e w' => e = .returned (.tuple #[]) ∧ ∃ v1, w'.heap[g]? = some (.cells (cg.setIfInBounds 0 v1) 56 (0, 0)) ∧ KS.R 31 w' w0.heap.size (fun _ => True) v1 (ts ++ [p]) ∧ Below w0.heap.size w0 w' ∧ ∀ k, k < w.heap.size → k ≠ g → (∀ cs, w.heap[k]? ≠ some (.cells cs 31 (0, 0))) → w'.heap[k]? = w.heap[k]? := by
  have HB := Aside0.mk hb
  have HC := Aside0.mk hc
  have HG := Aside0.mk hg
  have LOW := Aside0.mk low
  have HR := Aside0.mk hR
  have HN := Aside0.mk hn
  have hz0 := (blk_cell hb 0).trans hc
  obtain ⟨A0, c0, e0⟩ := Kd.R_slice hR
  subst e0
  have hlt : decide ((ts.length : Int) < 300) = true := decide_eq_true (by omega)
  clear hb hc hg low hR hn
  go_enter Tryz.func13, Tryz.ntmps13
  go_wp2_with (((with_reducible refine gate_builtin (b := .append) (xs := #[.tmp 14, .tmp 16]) rfl ?_); at_builtin; refine Kd.R_append KS (w0 := w0) (W := w) w0.heap.size rfl (.tmp 14) (.tmp 16) 38 31 (.slice none 0 0) 24 rfl Tryz.underlying38 infoAddBytes rfl (by decide) (by decide) (.slice A0 ts.length c0) ts p [slT p] (fun _ => True) (fun _ => False) rfl rfl rfl (fun _ hk => hk.elim) (fun _ _ => trivial) HR.out LOW.out LOW.out.size (by have := HN.out; omega) ?_; intro v1 w1 hr1 hlow hgr _; obtain ⟨Ao, co, eo⟩ := Kd.R_slice hr1; obtain ⟨nn, hnn⟩ : ∃ nn, nn = (ts ++ [p]).length := ⟨_, rfl⟩; rw [← hnn] at eo; subst eo; have hnb := row_not_bag HB.out HR.out (by decide); have hbk := (hgr.block g (blk_lt HB.out) hnb).trans HB.out; have HB1 := Aside0.mk hbk; have hz1 := (blk_cell hbk 0).trans HC.out; have hzf := blk_frozen hbk 0; have HR1 := Aside0.mk hr1; have LOW1 := Aside0.mk hlow; have HG1 := Aside0.mk hgr; clear hr1 hlow hgr hnb hbk hnn))
  refine Go.Great.bodyPost_end0 rfl rfl ?_
  refine ⟨rfl, .slice Ao nn co, blk_set HB1.out 0 _, ?_, ?_, ?_⟩
  · exact Kd.R_set HR1.out HB1.out (fun q hq => by
      rcases List.mem_cons.1 hq with h | h
      · rw [h]; decide
      · cases h) 0 _
  · exact below_set LOW1.out HG.out
  · intro k hk hkg hkt
    refine (Below.heap_setCell _ _ _ k hkg).trans (HG1.out.block k hk (fun h => ?_))
    obtain ⟨_, _, _, q, hq, cells, hcc⟩ := (Kd.R_bound HR.out).1 k h.symm
    rcases List.mem_cons.1 hq with h | h
    · subst h; exact hkt cells hcc
    · cases h
end Go.Proofs.YtiaohbbafaaibabGreatDoor.P
