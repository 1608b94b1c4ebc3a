/- OWN TEXT and printed parts of this claim, laid together: P0, HArr, HObjN, HMap, Ev, HObjS, Sq, HRd. -/
import Derived.Test.YtiaohbbafaaibabGreatDoorProg
import Derived.Test.YtiaohbbafaaibabGreatDoorZrWWords
import Derived.Test.YtiaohbbafaaibabGreatDoorZrWLast
import Derived.Test.YtiaohbbafaaibabGreatDoorZrWTab
import Derived.Test.YtiaohbbafaaibabGreatDoorZrWApart
import Derived.Test.YtiaohbbafaaibabGreatDoorZrWFoot
import Derived.Test.YtiaohbbafaaibabGreatDoorZrWKept
import Derived.Test.YtiaohbbafaaibabGreatDoorZrWShare
import Derived.Test.YtiaohbbafaaibabGreatDoorZrWN
import Derived.Test.YtiaohbbafaaibabGreatDoorZrWEqStruct
import Derived.Test.YtiaohbbafaaibabGreatDoorZrWRepsOne
import Derived.Test.YtiaohbbafaaibabGreatDoorZrWInv
import Derived.Test.YtiaohbbafaaibabGreatDoorZrWGuard
import Derived.Test.YtiaohbbafaaibabGreatDoorZrWMore
import Derived.Below
import Derived.Deep.Draws
import Derived.Deep.AppendLies
import Derived.Maps.AppendAt
import Derived.OwnWalk
import Derived.Laws.BytesArg
import Derived.Laws.MakeOwn
import Derived.Laws.OwnMore
import Derived.Deep.OwnRows
import Derived.Tactics
import Derived.Lib.ConvBytes
import Derived.Laws.Slices
import Derived.WalkKit
import Derived.KernelRfl
import Derived.RowKit3
import Derived.Deep.LoopGhost
import Derived.Deep.QuietTactic
import Derived.BigQuiet
import Derived.WideLaws
import Derived.Deep.DeepCutAuto
import Derived.Deep.CutBlock
import Derived.Deep.RegionHeld3
import Derived.Laws.Rows
import Derived.Lib.AppendStr
import Derived.ArgAppend
import Derived.Laws.IdiomCopy
import Derived.OrdersHeld
import Derived.Laws.BitsLemmas
import Derived.RowKit
import Derived.ChangeKeysEq
import Derived.Laws.CopyRow
import Derived.Laws.Tables
import Derived.Laws.RangeString
import Derived.Laws.RangeAny
import Derived.LoopTactic
import Derived.Tactics2
import Derived.Handy
import Derived.Maps.OwnSet
import Derived.OpenShut
import Derived.StringKeys
import Derived.MapViews
import Derived.ProofKit
import Derived.WalkMore
import Derived.Great.Walk
/- What the Go functions named below come to, as plain functions, each with its proof; written by this session's prt.py over the kit's print. -/
namespace Go.Proofs.YtiaohbbafaaibabGreatDoor.P
open Go.RowKit Go.Proofs.YtiaohbbafaaibabGreatDoorW.PrintWords Go.Proofs.YtiaohbbafaaibabGreatDoorW.PrintLast Go.Proofs.YtiaohbbafaaibabGreatDoorW.PrintMore
attribute [local go_sem] max2_int min2_int max_two min_two max_three min_three max_four min_four   -- for this text's walks alone
set_option linter.unusedVariables false
set_option linter.unusedSimpArgs false



def errW : Option Int → Value
 | none => .nilIface
 | some c => .iface 0 (.int .i64 c)
theorem errW_none : errW none = .nilIface := rfl
theorem errW_some (c : Int) : errW (some c) = .iface 0 (.int .i64 c) := rfl

theorem info5 : (Tryz.prog.info? 5).map (fun i => (i.zero, i.size, i.bytes)) = some (some (.int .u8 0), 1, 1) := by kernel_rfl
theorem info65 : (Tryz.prog.info? 65).map (fun i => (i.zero, i.size, i.bytes)) = some (some (.agg #[(.string ⟨#[]⟩), (.int .i8 0), (.int .i64 0)]), 3, 32) := by kernel_rfl
theorem info82 : (Tryz.prog.info? 82).map (fun i => (i.zero, i.size, i.bytes)) = some (some (.agg #[(.int .i64 0), (.int .i64 0)]), 2, 16) := by kernel_rfl
-- the values' own types
structure S65 where
  f0 : ByteArray
  f1 : Int
  f2 : Int
def z65 : S65 := ⟨(⟨#[]⟩ : ByteArray), (0 : Int), (0 : Int)⟩
def k65 : Kd S65 := Kd.iso (Kd.pair Kd.string (Kd.pair (Kd.int .i8) (Kd.int .i64))) (fun x : S65 => (x.f0, x.f1, x.f2))
theorem k65_open {w : World} {x : S65} {cs : List Value} (h : k65.K w x cs) : cs = [.string x.f0, .int .i8 x.f1, .int .i64 x.f2] := by
 obtain ⟨_, _, rfl, rfl, ⟨_, _, rfl, rfl, rfl⟩⟩ := h
 exact rfl
theorem k65_mkM (w : World) (base : Nat) (ok : Nat → Prop) (x : S65)  : k65.M w base ok x [.string x.f0, .int .i8 x.f1, .int .i64 x.f2] := ⟨[.string x.f0], [.int .i8 x.f1, .int .i64 x.f2], rfl, rfl, ⟨[.int .i8 x.f1], [.int .i64 x.f2], rfl, rfl, rfl⟩⟩
def rd_T65 (xs : List S65) (i : Int) : S65 := xs.getD i.toNat z65
theorem at_T65 {w : World} {A : Option Addr} {n : Nat} {xs : List S65} (h : Kd.C k65 w A n xs) (i : Int) (h0 : 0 ≤ i) (h1 : i < n) : ∃ ad , A = some ad ∧ w.cell? (ad.add (i.toNat * 3)) = some (.string (rd_T65 xs i).f0) ∧ w.cell? ⟨(ad.add (i.toNat * 3)).block, (ad.add (i.toNat * 3)).off + 1, none⟩ = some (.int .i8 (rd_T65 xs i).f1) ∧ w.cell? ⟨(ad.add (i.toNat * 3)).block, (ad.add (i.toNat * 3)).off + 2, none⟩ = some (.int .i64 (rd_T65 xs i).f2) := by
 obtain ⟨ad, c, e, _, hK, hc0⟩ := Kd.C_get h z65 i h0 h1
 have hc : ∀ j u, c[j]? = some u → w.cell? (ad.add (i.toNat * 3 + j)) = some u := hc0
 obtain rfl := k65_open hK
 exact ⟨ad, e, hc 0 _ rfl, by rw [← add_field _ _ 1 (by omega)]; exact hc 1 _ rfl, by rw [← add_field _ _ 2 (by omega)]; exact hc 2 _ rfl⟩

structure S82 where
  f0 : Int
  f1 : Int
def z82 : S82 := ⟨(0 : Int), (0 : Int)⟩
def k82 : Kd S82 := Kd.iso (Kd.pair (Kd.int .i64) (Kd.int .i64)) (fun x : S82 => (x.f0, x.f1))
theorem k82_open {w : World} {x : S82} {cs : List Value} (h : k82.K w x cs) : cs = [.int .i64 x.f0, .int .i64 x.f1] := by
 obtain ⟨_, _, rfl, rfl, rfl⟩ := h
 exact rfl
theorem k82_mkM (w : World) (base : Nat) (ok : Nat → Prop) (x : S82)  : k82.M w base ok x [.int .i64 x.f0, .int .i64 x.f1] := ⟨[.int .i64 x.f0], [.int .i64 x.f1], rfl, rfl, rfl⟩
def rd_T82 (xs : List S82) (i : Int) : S82 := xs.getD i.toNat z82
theorem at_T82 {w : World} {A : Option Addr} {n : Nat} {xs : List S82} (h : Kd.C k82 w A n xs) (i : Int) (h0 : 0 ≤ i) (h1 : i < n) : ∃ ad , A = some ad ∧ w.cell? (ad.add (i.toNat * 2)) = some (.int .i64 (rd_T82 xs i).f0) ∧ w.cell? ⟨(ad.add (i.toNat * 2)).block, (ad.add (i.toNat * 2)).off + 1, none⟩ = some (.int .i64 (rd_T82 xs i).f1) := by
 obtain ⟨ad, c, e, _, hK, hc0⟩ := Kd.C_get h z82 i h0 h1
 have hc : ∀ j u, c[j]? = some u → w.cell? (ad.add (i.toNat * 2 + j)) = some u := hc0
 obtain rfl := k82_open hK
 exact ⟨ad, e, hc 0 _ rfl, by rw [← add_field _ _ 1 (by omega)]; exact hc 1 _ rfl⟩

structure S140 where
  f0 : Int
  f1 : Int
  f2 : Int
  f3 : Int
  f4 : Int
structure S27 where
  f0 : ByteArray
  f1 : (List Int)
  f2 : Int
  f3 : (List Int)
  f4 : (List S65)
  f5 : (List S82)
def k27 : Kd S27 := Kd.iso (Kd.pair Kd.string (Kd.pair (Kd.slice 78 (Kd.int .u32)) (Kd.pair (Kd.int .i64) (Kd.pair (Kd.slice 2 (Kd.int .i64)) (Kd.pair (Kd.slice 65 k65) (Kd.slice 82 k82)))))) (fun x : S27 => (x.f0, x.f1, x.f2, x.f3, x.f4, x.f5))
structure S137 where
  f0 : Int
  f1 : Bool
structure S143 where
  f0 : Int
  f1 : Int
structure S146 where
  f0 : Int
  f1 : Int
structure S149 where
  f0 : Int
  f1 : Int
  f2 : Int
structure S152 where
  f0 : Int
  f1 : (List Int)
structure S155 where
  f0 : Int
  f1 : (List S149)
  f2 : Int
end Go.Proofs.YtiaohbbafaaibabGreatDoor.P

/- OWN TEXT: arrays in variables and by value: an element stored, the whole loaded, an index that is no constant; small words for walks by hand. -/
namespace Go.Proofs.YtiaohbbafaaibabGreatDoor.Arr
open Go.RowKit Go.Proofs.YtiaohbbafaaibabGreatDoorW.PrintWords
set_option linter.unusedVariables false
set_option linter.unusedSimpArgs false

theorem run_index_arr {P : Program} {w : World} {t e : TypeId} {n : Nat} {cs : Array Value} {k : IntKind} {i : Int} {v : Value} (h : P.underlying t = some (.array n e)) (hp : P.plainKey e = true) (hs : (sizeOf e).run P w = .ok 1 w)
  (h0 : 0 ≤ i) (hn : i < (n : Int)) (hv : cs[i.toNat]? = some v) : (Instr.index t (.agg cs) (.int k i)).run P w = .ok v w := by
 have hpart := run_part_plain (P := P) w hp hv
 simp only [Instr.index, asIntOf, Sem.run_bind, Sem.run_pure, Result.andThen_ok, run_underlying h, if_pos (And.intro h0 hn), hs, Nat.mul_one, hpart]

structure Put (W w1 : World) (g : Nat) (cs : Array Value) (e : TypeId) : Prop where
  blk : w1.heap[g]? = some (.cells cs e (0, 0))
  far : ∀ k, k ≠ g → w1.heap[k]? = W.heap[k]?
  size : w1.heap.size = W.heap.size
  below : ∀ {B : Nat} {w0 : World}, Below B w0 W → B ≤ g → Below B w0 w1

theorem put_set {W : World} {g j : Nat} {cs : Array Value} {e : TypeId} {x : Value} (hb : W.heap[g]? = some (.cells cs e (0, 0))) : Put W (W.setCell ⟨g, j, none⟩ x) g (cs.setIfInBounds j x) e :=
 ⟨blk_set hb j x, fun k hk => Below.heap_setCell W ⟨g, j, none⟩ x k hk, by simp [World.setCell], fun h hB => h.setCell hB x⟩

section
variable {P : Program} {ops : Array Oper} {rest : List Oper} {o : Oper} {a : Act} {Q : Exit → Act → World → Prop}
theorem run_store_one {W : World} {t : TypeId} {g j : Nat} {cs : Array Value} {e : TypeId} {x : Value} (hx1 : x.cells = #[x]) (h1 : x.oneCell' = true) (hs : (sizeOf t).run P W = .ok 1 W) (hb : W.heap[g]? = some (.cells cs e (0, 0))) (hj : j < cs.size) :
  (Instr.storeAt t (.pointer (some ⟨g, j, none⟩)) x).run P W = .ok () (W.setCell ⟨g, j, none⟩ x) := by
 have hst := run_storeCells_at P g j e [x] 0 cs W hb (by simp; omega) (by simpa using h1)
 have hrow : W.setRow g (cs.toList.take (j + 0) ++ [x] ++ cs.toList.drop (j + 0 + 1)).toArray = W.setCell ⟨g, j, none⟩ x := by
  have e2 : (cs.toList.take (j + 0) ++ [x] ++ cs.toList.drop (j + 0 + 1)).toArray = cs.setIfInBounds j x := by
   apply Array.ext'
   simp only [Array.toList_setIfInBounds, Nat.add_zero]
   rw [List.set_eq_take_append_cons_drop, if_pos (by simpa using hj)]
   simp
  rw [e2, setCell_eq_setRow W g j cs e (0, 0) x hb]
 simp only [Instr.storeAt, Instr.sureAddr, storeVar, Sem.run_bind, Sem.run_pure, Result.andThen_ok, hs, hx1]
 simp only [List.size_toArray, List.length_cons, List.length_nil, Nat.zero_add, ne_eq, not_true_eq_false, if_false, Sem.run_pure, Sem.run_bind, Result.andThen_ok]
 rw [← hrow]
 simpa using hst
theorem wpList_store_arr {W : World} (hgd : o.guard = none) (hN : o.dst = none) {t : TypeId} {p v : Operand} (ho : o.op = .store t p v) (g j : Nat) (cs : Array Value) (e : TypeId) (x : Value) (hp : a.eval p = .pointer (some ⟨g, j, none⟩)) (hv : a.eval v = x)
  (hx1 : x.cells = #[x]) (h1 : x.oneCell' = true) (hs : (sizeOf t).run P W = .ok 1 W) (hb : W.heap[g]? = some (.cells cs e (0, 0))) (hj : j < cs.size)
  (h : ∀ w1, Put W w1 g (cs.setIfInBounds j x) e → wpList P ops Q rest a w1) : wpList P ops Q (o :: rest) a W := by
 refine wpList_plain hgd fun K hK => ?_
 have hrun : (execOp a.eval o).run P W = .ok .skip (W.setCell ⟨g, j, none⟩ x) := by
  unfold execOp
  simp only [ho, hp, hv, Sem.run_bind, run_store_one hx1 h1 hs hb hj, Result.andThen_ok, Sem.run_pure]
 unfold Oper.wp
 rw [hrun]
 show K (a.put o.dst undef) _
 rw [hN]
 exact hK _ _ (h _ (put_set hb))
theorem wpList_store_arr_const {W : World} (hgd : o.guard = none) (hN : o.dst = none) {t : TypeId} {p : Operand} {x : Value} (ho : o.op = .store t p (.const x)) (g j : Nat) (cs cs' : Array Value) (e : TypeId) (hp : a.eval p = .pointer (some ⟨g, j, none⟩))
  (hx1 : x.cells = #[x]) (h1 : x.oneCell' = true) (hs : (sizeOf t).run P W = .ok 1 W) (hb : W.heap[g]? = some (.cells cs e (0, 0))) (hj : j < cs.size) (hcs : cs.setIfInBounds j x = cs')
  (h : ∀ w1, Put W w1 g cs' e → wpList P ops Q rest a w1) : wpList P ops Q (o :: rest) a W :=
 wpList_store_arr hgd hN ho g j cs e x hp rfl hx1 h1 hs hb hj (fun w1 hp => h w1 (hcs ▸ hp))
theorem put_row {W : World} {g : Nat} {old cs : Array Value} {e : TypeId} (hb : W.heap[g]? = some (.cells old e (0, 0))) : Put W (W.setRow g cs) g cs e :=
  ⟨setRow_heap W g old cs e (0, 0) hb, fun k hk => by simp [World.setRow, Array.getElem?_modify, Ne.symm hk], by simp [World.setRow], fun h hB => ⟨h.os, h.tape, h.output, by simpa [World.setRow] using h.size, fun i hi => by
    rw [← h.block i hi]
    simp [World.setRow, Array.getElem?_modify]
    intro e
    omega⟩⟩
theorem wpList_store_whole {W : World} (hgd : o.guard = none) (hN : o.dst = none) {t : TypeId} {p v : Operand} (ho : o.op = .store t p v) (g : Nat) (old cs : Array Value) (e : TypeId) (hp : a.eval p = .pointer (some ⟨g, 0, none⟩)) (hv : a.eval v = .agg cs)
  (hb : W.heap[g]? = some (.cells old e (0, 0))) (hi : (P.info? t).map (·.size) = some cs.size) (hsz : old.size = cs.size) (h1 : cs.all (·.oneCell') = true)
  (h : ∀ w1, Put W w1 g cs e → wpList P ops Q rest a w1) : wpList P ops Q (o :: rest) a W := by
 refine wpList_plain hgd fun K hK => ?_
 have hrun : (execOp a.eval o).run P W = .ok .skip (W.setRow g cs) := by
  unfold execOp
  have := run_storeVar_row (P := P) W g e t old cs hb hi hsz h1
  simp only [ho, hp, hv, Instr.storeAt, Instr.sureAddr, Sem.run_bind, Sem.run_pure, this, Result.andThen_ok]
 unfold Oper.wp
 rw [hrun]
 show K (a.put o.dst undef) _
 rw [hN]
 exact hK _ _ (h _ (put_row hb))
end

end Go.Proofs.YtiaohbbafaaibabGreatDoor.Arr

/- OWN TEXT: what object.Name comes to (it ranges over a text, which the print does not take), in the print's own form. -/
namespace Go.Proofs.YtiaohbbafaaibabGreatDoor.P
open Go.RowKit Go.Proofs.YtiaohbbafaaibabGreatDoorW.PrintWords Go.Proofs.YtiaohbbafaaibabGreatDoorW.PrintLast Go.Proofs.YtiaohbbafaaibabGreatDoorW.PrintMore
set_option linter.unusedVariables false
set_option linter.unusedSimpArgs false

def OkC (i : Nat) (c : Int) : Prop := (97 ≤ c ∧ c ≤ 122) ∨ (65 ≤ c ∧ c ≤ 90) ∨ c = 95 ∨ (0 < i ∧ ((48 ≤ c ∧ c ≤ 57) ∨ c = 46))
instance (i : Nat) (c : Int) : Decidable (OkC i c) := by unfold OkC; infer_instance
def nameS (s : ByteArray) : Bool := decide (0 < s.size ∧ s.size ≤ 24 ∧ ∀ j, j < s.size → OkC j (bt s (j : Int)))
def object_Name.f (a0 : ByteArray) : Option (Bool) := some (nameS a0)
theorem decode_bt (s : ByteArray) (pos : Nat) (h : pos < s.size) : (((Utf8.decode s pos).1 : Int) = bt s (pos : Int) ∧ (Utf8.decode s pos).2 = 1) ∨ (128 ≤ ((Utf8.decode s pos).1 : Int) ∧ 128 ≤ bt s (pos : Int) ∧ 1 ≤ (Utf8.decode s pos).2) := by
 have hb : ((s[pos]'h).toNat : Int) = bt s (pos : Int) := bt_at s (pos : Int) (by simpa using h)
 by_cases ha : (s[pos]'h).toNat < 128
 ·
  rw [decode_ascii s pos h ha]
  exact .inl ⟨hb, rfl⟩
 ·
  have := decode_high s pos h (by omega)
  exact .inr ⟨by omega, by omega, this.2⟩
set_option maxHeartbeats 4000000 in
set_option maxRecDepth 100000 in
theorem object_Name.calls (a0 : ByteArray) (r : Bool) (w : World) (h : object_Name.f a0 = some r) :
    Calls Tryz.prog 103 #[.string a0] w fun e w' => e = .returned (.bool r) ∧ Below w.heap.size w w' := by
  have h : nameS a0 = r := Option.some.inj h
  by_cases c0 : a0.size = 0
  · have hr : false = r := by rw [← h]; unfold nameS; exact (decide_eq_false (by omega)).symm
    subst hr
    have c0b : ((a0.size : Int) == 0) = true := by simp [c0]
    have c0c : (a0.size == 0) = true := by simp [c0]
    go_enter Tryz.func103, Tryz.ntmps103
    go_wp2
    go_ret
    exact ⟨rfl, Below.refl _ _⟩
  have c0b : ((a0.size : Int) == 0) = false := beq_eq_false_iff_ne.mpr (by omega)
  by_cases c1 : 24 < a0.size
  · have hr : false = r := by rw [← h]; unfold nameS; exact (decide_eq_false (by omega)).symm
    subst hr
    have c1b : decide ((24 : Int) < (a0.size : Int)) = true := decide_eq_true (by omega)
    go_enter Tryz.func103, Tryz.ntmps103
    go_wp2
    go_ret
    exact ⟨rfl, Below.refl _ _⟩
  have c1b : decide ((24 : Int) < (a0.size : Int)) = false := decide_eq_false (by omega)
  go_enter Tryz.func103, Tryz.ntmps103
  go_wp2
  go_loopw [15] (fun _ wr => ∃ pos : Nat, wr = w.iter a0 pos ∧ pos ≤ a0.size ∧ ∀ j, j < pos → OkC j (bt a0 (j : Int))) (fun _ wr => a0.size - wr.iterPos w.heap.size)
  case atStart => exact ⟨0, rfl, Nat.zero_le _, fun j hj => absurd hj (Nat.not_lt_zero _)⟩
  case round =>
    obtain ⟨pos, rfl, hle, hok⟩ := hrel
    by_cases hp : pos < a0.size
    · have hnx : ∀ ty, (Instr.next (.pointer (some ⟨w.heap.size, 0, none⟩)) true ty).run Tryz.prog (w.iter a0 pos) = _ := fun ty => run_next_any w a0 pos ty hp
      have hdec := decode_bt a0 pos hp
      generalize hd : Utf8.decode a0 pos = d at hnx hdec
      obtain ⟨c, wd⟩ := d
      simp only at hnx hdec
      by_cases hc : OkC pos (c : Int)
      · have hcb : (c : Int) = bt a0 (pos : Int) ∧ wd = 1 := by
          unfold OkC at hc
          omega
        obtain ⟨e1, e2⟩ := hcb
        subst e2
        have hnext : (∃ pos' : Nat, w.iter a0 (pos + 1) = w.iter a0 pos' ∧ pos' ≤ a0.size ∧ ∀ j, j < pos' → OkC j (bt a0 (j : Int))) := by
          refine ⟨pos + 1, rfl, by omega, fun j hj => ?_⟩
          by_cases e : j = pos
          · subst e; rw [← e1]; exact hc
          · exact hok j (by omega)
        clear hok hdec hd h e1
        unfold OkC at hc
        go_wp2
        all_goals first
          | (exfalso; simp at *; omega)
          | (go_roundw
             case rel => exact hnext
             case measure => simp; omega)
      · have hr : false = r := by
          rw [← h]
          unfold nameS
          refine (decide_eq_false (fun hall => ?_)).symm
          have := hall.2.2 pos hp
          unfold OkC at hc this
          omega
        subst hr
        clear hok hdec hd h
        unfold OkC at hc
        go_wp2
        all_goals first
          | (exfalso; simp at *; omega)
          | (go_ret; exact ⟨rfl, (Below.refl _ _).alloc (Nat.le_refl _) _⟩)
    · have hnx : ∀ ty, (Instr.next (.pointer (some ⟨w.heap.size, 0, none⟩)) true ty).run Tryz.prog (w.iter a0 pos) = _ := fun ty => run_next_end w a0 pos ty hp
      have hr : true = r := by
        rw [← h]
        unfold nameS
        exact (decide_eq_true ⟨by omega, by omega, fun j hj => hok j (by omega)⟩).symm
      subst hr
      go_wp2
      go_ret
      exact ⟨rfl, (Below.refl _ _).alloc (Nat.le_refl _) _⟩
end Go.Proofs.YtiaohbbafaaibabGreatDoor.P

/- OWN TEXT: a map[K]bool that a call has made and uses as a set: what it holds, how a look-up without 'ok' answers, how a store turns it. -/
namespace Go.Proofs.YtiaohbbafaaibabGreatDoor.MapB
open Go.RowKit Go.Maps Go.Proofs.YtiaohbbafaaibabGreatDoorW.PrintWords Go.Proofs.YtiaohbbafaaibabGreatDoor.Arr
set_option linter.unusedVariables false
set_option linter.unusedSimpArgs false

def Seen (w : World) (P : Program) (k e : TypeId) (b n : Nat) (S : Lit → Bool) : Prop :=
 ∃ D : DataW Unit, w.ownsMap P k (plainElem P e) b n D ∧ ∀ kl, WideAt.IsKeyLit kl → D.atKey kl (.lit (.bool false)) = .lit (.bool (S kl))
def addS (S : Lit → Bool) (kl : Lit) : Lit → Bool := fun l => l.sameKey kl || S l
variable {P : Program} {k e : TypeId} {w : World} {b n : Nat} {S : Lit → Bool}
theorem Seen.made (w : World) (P : Program) (k e : TypeId) : Seen (w.alloc (.map #[] 0)) P k e w.heap.size 0 (fun _ => false) :=
 ⟨.map [], World.ownsMap_made w P k _, fun kl _ => rfl⟩
theorem Seen.kept {w' : World} {row : Option Nat} (h : Seen w P k e b n S) (hg : w.grownBy w' row) (hne : some b ≠ row) : Seen w' P k e b n S := by
 obtain ⟨D, h1, h2⟩ := h
 exact ⟨D, h1.kept hg hne, h2⟩
theorem Seen.alloc (h : Seen w P k e b n S) (o : Obj) : Seen (w.alloc o) P k e b n S := h.kept (World.grownBy_alloc w o none) (by simp)
theorem Seen.below {w' : World} (h : Seen w P k e b n S) (hb : Below w.heap.size w w') : Seen w' P k e b n S := h.kept (grown_of_below hb none) (by simp)
theorem Seen.setCell (h : Seen w P k e b n S) {a : Addr} (ha : b ≠ a.block) (u : Value) : Seen (w.setCell a u) P k e b n S := by
 obtain ⟨D, h1, h2⟩ := h
 exact ⟨D, h1.setCell ha u, h2⟩
theorem Seen.mono (h : Seen w P k e b n S) {n' : Nat} (hn : n ≤ n') : Seen w P k e b n' S := by
 obtain ⟨D, h1, h2⟩ := h
 exact ⟨D, h1.mono hn, h2⟩
theorem Seen.to {S' : Lit → Bool} (h : Seen w P k e b n S) (e1 : S = S') : Seen w P k e b n S' := e1 ▸ h
theorem Seen.lt (h : Seen w P k e b n S) : b < w.heap.size := by
 obtain ⟨D, h1, h2⟩ := h
 exact h1.lt
theorem plainElem_bool_inv {H : Type} {P : Program} {e : TypeId} (he : P.underlying e = some .bool) {v : Value} {z : DataW H × List MemPlace} (h : plainElem P e v = some z) : ∃ x, v = .bool x ∧ z = (.lit (.bool x), []) := by
 unfold plainElem at h
 rw [he] at h
 cases v <;> simp at h
 exact ⟨_, rfl, h.symm⟩
theorem Seen.lookup {t : TypeId} (h : Seen w P k e b n S) (K : Keyed P k) (ht : P.underlying t = some (.map k e)) (he : P.underlying e = some .bool) (hz : (zeroValue e).run P w = .ok (.bool false) w)
  {key : Value} {kl : Lit} (hkey : keyOf P k key = some kl) (hkl : WideAt.IsKeyLit kl) : (Instr.lookup t (.map (some b)) key false).run P w = .ok (.bool (S kl)) w := by
 obtain ⟨D, h1, h2⟩ := h
 obtain ⟨v, ps, hrun, hv⟩ := h1.lookup K ht hz (plainElem_bool (H := Unit) he false) hkey
 obtain ⟨x, rfl, hx⟩ := plainElem_bool_inv he hv
 have hx1 := congrArg Prod.fst hx
 rw [h2 kl hkl] at hx1
 have hx2 : S kl = x := by
  have := DataW.lit.inj hx1
  injection this
 rw [hx2]
 exact hrun
theorem Seen.add {t : TypeId} (h : Seen w P k e b n S) (K : Keyed P k) (ht : P.underlying t = some (.map k e)) (he : P.underlying e = some .bool) (hn : n < maxLen)
  {key : Value} {kl : Lit} (hkey : keyOf P k key = some kl) (hkl : WideAt.IsKeyLit kl) : ∃ w', (Instr.mapUpdate t (.map (some b)) key (.bool true)).run P w = .ok () w' ∧ Seen w' P k e b (n + 1) (addS S kl) ∧ w.grownBy w' (some b) := by
 obtain ⟨D, h1, h2⟩ := h
 obtain ⟨w', r1, r2, r3⟩ := h1.update K ht hn hkey (plainElem_bool (H := Unit) he true)
 refine ⟨w', r1, ⟨_, r2, fun l hl => ?_⟩, r3⟩
 unfold addS
 by_cases hc : l = kl
 ·
  subst hc
  rw [atKey_put_same h1.isMap hkl, WideAt.sameKey_self hkl]
  rfl
 ·
  rw [atKey_put_other hc, h2 l hl, sameKey_ne hc]
  rfl
section
variable {ops : Array Oper} {rest : List Oper} {o : Oper} {a : Act} {Q : Exit → Act → World → Prop}
theorem wpList_lookup_seen (hg : o.guard = none) (m x : Operand) (t : TypeId) (hop : o.op = Op.lookup t m x false)
  (k e : TypeId) (K : Keyed P k) (ht : P.underlying t = some (.map k e)) (he : P.underlying e = some .bool) (hz : (zeroValue e).run P w = .ok (.bool false) w) (b n : Nat) (S : Lit → Bool)
  (hm : a.eval m = .map (some b)) (hs : Seen w P k e b n S) (key : Value) (kl : Lit) (hx : a.eval x = key) (hkey : keyOf P k key = some kl) (hkl : WideAt.IsKeyLit kl)
  (hK : wpList P ops Q rest (a.put o.dst (.bool (S kl))) w) : wpList P ops Q (o :: rest) a w := by
 refine wpList_plain hg fun K' hK' => ?_
 have hrun := hs.lookup K ht he hz hkey hkl
 unfold Oper.wp
 simp [execOp, hop, hm, hx, hrun, Result.andThen]
 exact hK' _ _ hK
theorem wpList_update_seen (hg : o.guard = none) (m x v : Operand) (t : TypeId) (hop : o.op = Op.mapUpdate t m x v)
  (k e : TypeId) (K : Keyed P k) (ht : P.underlying t = some (.map k e)) (he : P.underlying e = some .bool) (b n : Nat) (S : Lit → Bool)
  (hm : a.eval m = .map (some b)) (hs : Seen w P k e b n S) (hn : n < maxLen) (key : Value) (kl : Lit) (hx : a.eval x = key) (hv : a.eval v = .bool true) (hkey : keyOf P k key = some kl) (hkl : WideAt.IsKeyLit kl)
  (hK : ∀ w', Seen w' P k e b (n + 1) (addS S kl) → w.grownBy w' (some b) → wpList P ops Q rest (a.put o.dst undef) w') : wpList P ops Q (o :: rest) a w := by
 refine wpList_plain hg fun K' hK' => ?_
 obtain ⟨w', hrun, r1, r2⟩ := hs.add K ht he hn hkey hkl
 unfold Oper.wp
 simp [execOp, hop, hm, hx, hv, hrun, Result.andThen]
 exact hK' _ _ (hK w' r1 r2)
theorem wpList_make_map {W : World} (hgd : o.guard = none) {N : Tmp} (_hd : o.dst = some N) {t : TypeId} (hop : o.op = Op.makeMap t none)
  (hrun : (execOp a.eval o).run P W = .ok (.value (.map (some W.heap.size))) (W.alloc (.map #[] 0)))
  (h : ∀ g, g = W.heap.size → ∀ w1, Seen w1 P k e g 0 (fun _ => false) → Below W.heap.size W w1 → wpList P ops Q rest (a.put o.dst (.map (some g))) w1) : wpList P ops Q (o :: rest) a W :=
 Kd.event_run hgd hrun (h _ rfl _ (Seen.made W P k e) (below_alloc (Below.refl _ _) _))
end
end Go.Proofs.YtiaohbbafaaibabGreatDoor.MapB

/- OWN TEXT: small words for the pure statements: what a function with rounds comes to in the end. -/
set_option linter.unusedVariables false
set_option linter.unusedSimpArgs false
namespace Go.Proofs.YtiaohbbafaaibabGreatDoorW.PrintWords
open Go.RowKit

theorem Ev.succ {α : Type} {g : Nat → Option α} {r : α} (h : Ev (fun k => g (k + 1)) r) : Ev g r := Ev.step (fun _ => rfl) h
theorem Ev.val {α : Type} {a r : α} (h : a = r) : Ev (fun _ => some a) r := h ▸ Ev.now _
theorem Ev.bind0 {α β : Type} {g : Option α} {f : Nat → α → Option β} {a : α} {r : β} (h : g = some a) (k : Ev (fun n => f n a) r) : Ev (fun n => g.bind (f n)) r := by
 subst h; exact k
theorem Ev.iteT {α : Type} {c : Prop} [Decidable c] {a b : Nat → Option α} {r : α} (hc : c) (h : Ev a r) : Ev (fun k => if c then a k else b k) r := by
 simpa only [if_pos hc] using h
theorem Ev.iteF {α : Type} {c : Prop} [Decidable c] {a b : Nat → Option α} {r : α} (hc : ¬ c) (h : Ev b r) : Ev (fun k => if c then a k else b k) r := by
 simpa only [if_neg hc] using h
theorem Ev.ite2 {α : Type} {c : Prop} [Decidable c] {a b : Nat → Option α} {r : α} (h1 : c → Ev a r) (h2 : ¬ c → Ev b r) : Ev (fun k => if c then a k else b k) r := by
 by_cases hc : c
 ·
  exact Ev.iteT hc (h1 hc)
 ·
  exact Ev.iteF hc (h2 hc)
theorem Ev.to {α : Type} {g : Nat → Option α} {r r' : α} (h : Ev g r) (e : r = r') : Ev g r' := e ▸ h
theorem wrap64_id {x : Int} (h1 : -9223372036854775808 ≤ x) (h2 : x ≤ 9223372036854775807) : wrap64 x = x := by unfold wrap64; omega
theorem wf_u8 {x : Int} (h : (Lit.int .u8 x).wf = true) : 0 ≤ x ∧ x ≤ 255 := by have := bounds_u8 h; omega
theorem rd_get {l : List Int} {i : Nat} (h : i < l.length) : rd l (i : Int) = l[i] := by
 unfold rd
 rw [Int.toNat_natCast, List.getD_eq_getElem?_getD, List.getElem?_eq_getElem h]
 rfl
theorem drop_get {α : Type} {l : List α} {i : Nat} (h : i < l.length) : l.drop i = l[i] :: l.drop (i + 1) := List.drop_eq_getElem_cons h

end Go.Proofs.YtiaohbbafaaibabGreatDoorW.PrintWords

/- OWN TEXT: what object.symbols comes to (it keeps a set of names in a map, which the print does not take). -/
namespace Go.Proofs.YtiaohbbafaaibabGreatDoor.P
open Go.RowKit Go.Maps Go.Proofs.YtiaohbbafaaibabGreatDoorW.PrintWords Go.Proofs.YtiaohbbafaaibabGreatDoorW.PrintLast Go.Proofs.YtiaohbbafaaibabGreatDoorW.PrintMore Go.Proofs.YtiaohbbafaaibabGreatDoor.Arr Go.Proofs.YtiaohbbafaaibabGreatDoor.MapB
set_option linter.unusedVariables false
set_option linter.unusedSimpArgs false

abbrev Sym := S65
def sy (l : List Sym) (i : Nat) : Sym := rd_T65 l (i : Int)
theorem lawN : Keyed Tryz.prog 9 := string_keyed Tryz.underlying9
theorem zeroBN (w : World) : (zeroValue 4).run Tryz.prog w = .ok (.bool false) w := by kernel_rfl
abbrev SeenN (W : World) (b n : Nat) (S : Lit → Bool) : Prop := Seen W Tryz.prog 9 4 b n S
def keyN (s : ByteArray) : Lit := .string s.data.toList
def nameSeen (l : List Sym) : Nat → Lit → Bool
 | 0 => fun _ => false
 | i + 1 => addS (nameSeen l i) (keyN (sy l i).f0)
def symE (l : List Sym) (n : Int) (i : Nat) : Int :=
 if nameS (sy l i).f0 = true then (if nameSeen l i (keyN (sy l i).f0) = true then 26 else if (sy l i).f1 < 0 then 23 else if (sy l i).f1 > 3 then 23 else if (sy l i).f2 < 0 then 22 else if (sy l i).f2 > n then 22 else if (sy l i).f1 = 3 then (if (sy l i).f2 = 0 then 0 else 22) else 0) else 20
theorem symE_eq (l : List Sym) (n : Int) (i : Nat) : symE l n i = if nameS (sy l i).f0 = true then (if nameSeen l i (keyN (sy l i).f0) = true then 26 else if (sy l i).f1 < 0 then 23 else if (sy l i).f1 > 3 then 23 else if (sy l i).f2 < 0 then 22 else if (sy l i).f2 > n then 22 else if (sy l i).f1 = 3 then (if (sy l i).f2 = 0 then 0 else 22) else 0) else 20 := rfl
def firstS (g : Nat → Int) (n : Nat) : Nat → Int × Int
 | 0 => (0, 0)
 | d + 1 => if g (n - (d + 1)) = 0 then firstS g n d else (g (n - (d + 1)), ((n - (d + 1) : Nat) : Int))
theorem firstS_step (g : Nat → Int) {n i : Nat} (h : i < n) : firstS g n (n - i) = if g i = 0 then firstS g n (n - (i + 1)) else (g i, (i : Int)) := by
 rw [show n - i = (n - (i + 1)) + 1 by omega]
 show (if g (n - (n - (i + 1) + 1)) = 0 then _ else _) = _
 rw [show n - (n - (i + 1) + 1) = i by omega]
def symsS (l : List Sym) (n : Int) : Int × Int := firstS (symE l n) l.length l.length
def ansCell (a b : Int) : Obj := .cells #[.int .i64 a, .int .i64 b] 121 (0, 0)
def objCell (a0_0 : ByteArray) (A0_1 : Option Addr) (n1 c0_1 : Nat) (a0_2 : Int) (A0_3 : Option Addr) (n3 c0_3 : Nat) (A0_4 : Option Addr) (n4 c0_4 : Nat) (A0_5 : Option Addr) (n5 c0_5 : Nat) : Obj :=
 .cells #[.string a0_0, .slice A0_1 n1 c0_1, .int .i64 a0_2, .slice A0_3 n3 c0_3, .slice A0_4 n4 c0_4, .slice A0_5 n5 c0_5] 27 (0, 0)
structure Ob (w W : World) (gb : Nat) (oi : Obj) (gr b n : Nat) (S : Lit → Bool) : Prop where
  low : Below w.heap.size w W
  obj : W.heap[gb]? = some oi
  res : W.heap[gr]? = some (ansCell 0 0)
  seen : SeenN W b n S
  n1 : gb ≠ b
  n2 : gr ≠ b
  g1 : w.heap.size ≤ gr
  g2 : w.heap.size ≤ b
theorem Ob.below {w W W1 : World} {gb gr b n : Nat} {oi : Obj} {S : Lit → Bool} (h : Ob w W gb oi gr b n S) (hb : Below W.heap.size W W1) : Ob w W1 gb oi gr b n S :=
 ⟨below_then h.low h.low.size hb, blk_below h.obj hb, blk_below h.res hb, h.seen.below hb, h.n1, h.n2, h.g1, h.g2⟩
theorem Ob.grown {w W W1 : World} {gb gr b n g : Nat} {oi : Obj} {S : Lit → Bool} (h : Ob w W gb oi gr b n S) (hg : W.grownBy W1 (some g)) (hw : w.heap.size ≤ g) (h1 : gb ≠ g) (h2 : gr ≠ g) (h3 : b ≠ g) : Ob w W1 gb oi gr b n S :=
 ⟨pw_below_grown h.low (some g) h.low.size hg (fun k hk => by have := Option.some.inj hk; omega), blk_grown h.obj hg (fun e => h1 (Option.some.inj e)), blk_grown h.res hg (fun e => h2 (Option.some.inj e)), h.seen.kept hg (fun e => h3 (Option.some.inj e)), h.n1, h.n2, h.g1, h.g2⟩
theorem Ob.add {w W W1 : World} {gb gr b n n' : Nat} {oi : Obj} {S S' : Lit → Bool} (h : Ob w W gb oi gr b n S) (hg : W.grownBy W1 (some b)) (hs : SeenN W1 b n' S') : Ob w W1 gb oi gr b n' S' :=
 ⟨pw_below_grown h.low (some b) h.low.size hg (fun k hk => by have := Option.some.inj hk; have := h.g2; omega), blk_grown h.obj hg (fun e => h.n1 (Option.some.inj e)), blk_grown h.res hg (fun e => h.n2 (Option.some.inj e)), hs, h.n1, h.n2, h.g1, h.g2⟩
theorem put_grownN {W w1 : World} {g : Nat} {cs : Array Value} {e : TypeId} (h : Put W w1 g cs e) : W.grownBy w1 (some g) := by
 have hb := h.below (Below.refl 0 W) (Nat.zero_le _)
 exact ⟨hb.os, hb.tape, hb.output, hb.size, fun k _ hne => h.far k (fun e => hne (by rw [e]))⟩
theorem two_one (a b : Int) : ((#[.int .i64 a, .int .i64 b] : Array Value).all fun v => v.oneCell') = true := by kernel_rfl
theorem sym_one (s : ByteArray) (a b : Int) : ((#[.string s, .int .i8 a, .int .i64 b] : Array Value).all fun v => v.oneCell') = true := by kernel_rfl
theorem nameS_len {s : ByteArray} (h : nameS s = true) : s.size ≤ 24 := (of_decide_eq_true h).2.1

set_option maxHeartbeats 8000000 in
set_option maxRecDepth 100000 in
theorem object_symbols.calls (a0_0 : ByteArray) (A0_1 : Option Addr) (c0_1 : Nat) (l0_1 : List Int) (a0_2 : Int) (A0_3 : Option Addr) (c0_3 : Nat) (l0_3 : List Int) (A0_4 : Option Addr) (c0_4 : Nat) (l0_4 : List (Sym)) (A0_5 : Option Addr) (c0_5 : Nat) (l0_5 : List (S82)) (r1 r2 : Int) (w : World) (hr0_1 : Kd.C (Kd.int .u32) w A0_1 l0_1.length l0_1) (hc0_1 : l0_1.length ≤ c0_1) (hr0_3 : Kd.C (Kd.int .i64) w A0_3 l0_3.length l0_3) (hc0_3 : l0_3.length ≤ c0_3) (hr0_4 : Kd.C k65 w A0_4 l0_4.length l0_4) (hc0_4 : l0_4.length ≤ c0_4) (hr0_5 : Kd.C k82 w A0_5 l0_5.length l0_5) (hc0_5 : l0_5.length ≤ c0_5) (hl : l0_4.length ≤ 1000000) (h : symsS l0_4 (l0_1.length : Int) = (r1, r2)) :
  Calls Tryz.prog 83 #[.agg #[.string a0_0, .slice A0_1 l0_1.length c0_1, .int .i64 a0_2, .slice A0_3 l0_3.length c0_3, .slice A0_4 l0_4.length c0_4, .slice A0_5 l0_5.length c0_5]] w fun e w' => e = .returned (.agg #[.int .i64 r1, .int .i64 r2]) ∧ Below w.heap.size w w' := by
 have hu1 := Tryz.underlying27
 have hu2 := Tryz.underlying121
 have hu3 := Tryz.underlying65
 have HR := Aside0.mk hr0_4
 clear hr0_1 hc0_1 hr0_3 hc0_3 hr0_4 hc0_4 hr0_5 hc0_5
 unfold symsS at h
 go_enter Tryz.func83, Tryz.ntmps83
 go_wp2_with (first | ((with_reducible refine gate_dst (N := 1) rfl ?_); refine box_event ?hg (N := 1) ?hd (cs := #[.string a0_0, .slice A0_1 l0_1.length c0_1, .int .i64 a0_2, .slice A0_3 l0_3.length c0_3, .slice A0_4 l0_4.length c0_4, .slice A0_5 l0_5.length c0_5]) (t := 27) ?hr ?_; (case hd => rfl); (case hg => rfl); (case hr => first | (go_simp; done) | (go_simp; rfl)); intro gb hgb w1 BK1 hb1; have HB := Aside0.mk (below_then (Below.refl w.heap.size w) (Nat.le_refl _) hb1); have BO := Aside0.mk (show w1.heap[gb]? = some (objCell a0_0 A0_1 l0_1.length c0_1 a0_2 A0_3 l0_3.length c0_3 A0_4 l0_4.length c0_4 A0_5 l0_5.length c0_5) from BK1); clear BK1 hb1 hgb) | ((with_reducible refine gate_dst (N := 2) rfl ?_); refine box_event ?hg (N := 2) ?hd (cs := #[.int .i64 0, .int .i64 0]) (t := 121) ?hr ?_; (case hd => rfl); (case hg => rfl); (case hr => first | (go_simp; done) | (go_simp; rfl)); intro gr hgr w2 BK2 hb2; have G1 := Aside0.mk (show w.heap.size ≤ gr by rw [hgr]; exact HB.out.size); have L1 := Aside0.mk (show gb < gr by rw [hgr]; exact blk_lt BO.out); replace HB := Aside0.mk (below_then HB.out HB.out.size hb2); replace BO := Aside0.mk (blk_below BO.out hb2); have BR := Aside0.mk (show w2.heap[gr]? = some (ansCell 0 0) from BK2); clear BK2 hb2 hgr) | ((with_reducible refine gate_dst (N := 6) rfl ?_); refine wpList_make_map (P := Tryz.prog) (k := 9) (e := 4) (t := 173) ?hg (N := 6) ?hd ?ho ?hr ?_; (case hd => rfl); (case hg => rfl); (case ho => rfl); (case hr => first | (go_simp; done) | (go_simp; rfl)); intro b hgb w3 hs0 hb; have HO := Aside0.mk (show Ob w w3 gb (objCell a0_0 A0_1 l0_1.length c0_1 a0_2 A0_3 l0_3.length c0_3 A0_4 l0_4.length c0_4 A0_5 l0_5.length c0_5) gr b 0 (fun _ => false) from ⟨below_then HB.out HB.out.size hb, blk_below BO.out hb, blk_below BR.out hb, hs0, by rw [hgb]; exact Nat.ne_of_lt (blk_lt BO.out), by rw [hgb]; exact Nat.ne_of_lt (blk_lt BR.out), G1.out, by rw [hgb]; exact HB.out.size⟩); clear HB BO BR hb hs0 hgb; have hco := blk_cell HO.out.obj 4; have hco1 := blk_cell HO.out.obj 1))
 go_loopw [10] (fun u10 wr => ∃ i : Nat, u10 = .int .i64 (i : Int) ∧ i ≤ l0_4.length ∧ Aside0 (firstS (symE l0_4 (l0_1.length : Int)) l0_4.length (l0_4.length - i) = (r1, r2)) ∧ Aside0 (Ob w wr gb (objCell a0_0 A0_1 l0_1.length c0_1 a0_2 A0_3 l0_3.length c0_3 A0_4 l0_4.length c0_4 A0_5 l0_5.length c0_5) gr b i (nameSeen l0_4 i))) (fun u10 _ => l0_4.length - (intOf u10).toNat)
 case atStart => exact ⟨0, rfl, Nat.zero_le _, ⟨h⟩, HO⟩
 case round =>
  clear HO hco hco1 h
  obtain ⟨i, rfl, hile, HF, HO⟩ := hrel
  have hco := blk_cell HO.out.obj 4
  have hco1 := blk_cell HO.out.obj 1
  by_cases hlt : i < l0_4.length
  ·
   have hstep := firstS_step (symE l0_4 (l0_1.length : Int)) hlt
   rw [HF.out] at hstep
   have hse := symE_eq l0_4 (l0_1.length : Int) i
   have hns : nameSeen l0_4 (i + 1) = addS (nameSeen l0_4 i) (keyN (sy l0_4 i).f0) := rfl
   have p0 : (0 : Int) ≤ (i : Int) := by omega
   have q0 : (i : Int) < (l0_4.length : Int) := by omega
   obtain ⟨ad, eA, hx0, hx1, hx2⟩ := at_T65 HR.out (i : Int) p0 q0
   subst eA
   rw [show ((i : Int)).toNat = i by omega] at hx0 hx1 hx2
   have hy0 := (HO.out.low.cell (World.block_lt_of_cell? w _ hx0)).trans hx0
   have hy1 := (HO.out.low.cell (World.block_lt_of_cell? w _ hx1)).trans hx1
   have hy2 := (HO.out.low.cell (World.block_lt_of_cell? w _ hx2)).trans hx2
   clear hx0 hx1 hx2
   rw [show rd_T65 l0_4 (i : Int) = sy l0_4 i from rfl] at hy0 hy1 hy2
   generalize sy l0_4 i = s at hy0 hy1 hy2 hse hns
   obtain ⟨sn, sk, sa⟩ := s
   simp only at hy0 hy1 hy2 hse hns
   generalize hmb : nameSeen l0_4 i (keyN sn) = mb at hse
   have HM := Aside0.mk hmb
   obtain ⟨nb, hnb⟩ : ∃ nb, nb = nameS sn := ⟨_, rfl⟩
   have HN := Aside0.mk (show object_Name.f sn = some nb by rw [hnb]; rfl)
   rw [← hnb] at hse
   have HL := Aside0.mk (show i ≤ 1000000 by omega)
   have HNS := Aside0.mk hns
   clear hns HF hmb
   have hwr : wrap64 ((i : Int) + 1) = ((i + 1 : Nat) : Int) := by rw [wrap64_id (by omega) (by omega)]; rfl
   replace p0 := eq_true p0
   replace q0 := eq_true q0
   have hltb : decide ((i : Int) < (l0_4.length : Int)) = true := decide_eq_true (by omega)

   by_cases cn : nb = true
   ·
    rw [if_pos cn] at hse
    subst cn
    have HKY := Aside0.mk (show keyOf Tryz.prog 9 (.string sn) = some (keyN sn) from Go.WideMaps.keyOf_string_mk Tryz.underlying9 (by have := nameS_len hnb.symm; unfold maxLen; omega))
    clear hnb
    by_cases cm : mb = true
    ·
     rw [if_pos cm] at hse
     subst cm
     rw [hse, if_neg (by decide)] at hstep
     injection hstep with e1 e2
     subst e1 e2
     clear hse
     go_wp2_with (first | ((with_reducible refine gate_dst (N := 5) rfl ?_); refine box_event ?hg (N := 5) ?hd (cs := #[.string ⟨#[]⟩, .int .i8 0, .int .i64 0]) (t := 65) ?hr ?_; (case hd => rfl); (case hg => rfl); (case hr => first | (go_simp; done) | (go_simp; rfl)); intro gs hgs w5 BK5 hb5; have LB := Aside0.mk (show b < gs by rw [hgs]; exact HO.out.seen.lt); have LG := Aside0.mk (show gb < gs by rw [hgs]; exact blk_lt HO.out.obj); have LR := Aside0.mk (show gr < gs by rw [hgs]; exact blk_lt HO.out.res); replace HO := Aside0.mk (HO.out.below hb5); have BS := Aside0.mk BK5; clear BK5 hb5 hgs) | ((with_reducible refine gate_store (t := 65) rfl ?_); refine wpList_store_whole rfl rfl rfl gs _ #[.string sn, .int .i8 sk, .int .i64 sa] _ rfl rfl BS.out (by kernel_rfl) rfl (sym_one _ _ _) ?_; intro w6 hp; replace HO := Aside0.mk (HO.out.grown (put_grownN hp) (by have := LB.out; have := HO.out.g2; omega) (by have := LG.out; omega) (by have := LR.out; omega) (by have := LB.out; omega)); replace BS := Aside0.mk hp.blk; clear hp; have hco := blk_cell HO.out.obj 4; have hco1 := blk_cell HO.out.obj 1; have hs0 := blk_cell BS.out 0; have hs1 := blk_cell BS.out 1; have hs2 := blk_cell BS.out 2) | (go_at_call 103; refine (object_Name.calls sn _ _ HN.out).mono ?_; rintro e w7 ⟨rfl, hb⟩; replace HO := Aside0.mk (HO.out.below hb); replace BS := Aside0.mk (blk_below BS.out hb); clear hb hs0 hs1 hs2; have hco := blk_cell HO.out.obj 4; have hco1 := blk_cell HO.out.obj 1; have hs0 := blk_cell BS.out 0; have hs1 := blk_cell BS.out 1; have hs2 := blk_cell BS.out 2) | (at_lookup; refine wpList_lookup_seen rfl _ _ 173 rfl 9 4 lawN Tryz.underlying173 Tryz.underlying4 (zeroBN _) b _ _ rfl HO.out.seen _ _ rfl HKY.out trivial ?_; rw [HM.out]) | ((with_reducible refine gate_store (t := 121) rfl ?_); refine wpList_store_whole rfl rfl rfl gr _ #[.int .i64 26, .int .i64 (i : Int)] _ rfl rfl HO.out.res (by kernel_rfl) rfl (two_one _ _) ?_; intro w9 hp; have HE := Aside0.mk (hp.below HO.out.low HO.out.g1); have HP := Aside0.mk hp.blk; clear hp))
     refine bodyPost_ret (results_cell_row rfl _ _ gr 121 #[.int .i64 26, .int .i64 (i : Int)] (0, 0) _ rfl HP.out Tryz.underlying121 rfl (by kernel_rfl)) rfl ?_
     exact ⟨rfl, HE.out⟩
    ·
     rw [if_neg cm] at hse
     have cm : mb = false := by simpa using cm
     subst cm
     by_cases c4 : sk < 0
     ·
      rw [if_pos c4] at hse
      have d4 : decide (sk < 0) = true := decide_eq_true c4
      clear c4
      rw [hse, if_neg (by decide)] at hstep
      injection hstep with e1 e2
      subst e1 e2
      clear hse
      go_wp2_with (first | ((with_reducible refine gate_dst (N := 5) rfl ?_); refine box_event ?hg (N := 5) ?hd (cs := #[.string ⟨#[]⟩, .int .i8 0, .int .i64 0]) (t := 65) ?hr ?_; (case hd => rfl); (case hg => rfl); (case hr => first | (go_simp; done) | (go_simp; rfl)); intro gs hgs w5 BK5 hb5; have LB := Aside0.mk (show b < gs by rw [hgs]; exact HO.out.seen.lt); have LG := Aside0.mk (show gb < gs by rw [hgs]; exact blk_lt HO.out.obj); have LR := Aside0.mk (show gr < gs by rw [hgs]; exact blk_lt HO.out.res); replace HO := Aside0.mk (HO.out.below hb5); have BS := Aside0.mk BK5; clear BK5 hb5 hgs) | ((with_reducible refine gate_store (t := 65) rfl ?_); refine wpList_store_whole rfl rfl rfl gs _ #[.string sn, .int .i8 sk, .int .i64 sa] _ rfl rfl BS.out (by kernel_rfl) rfl (sym_one _ _ _) ?_; intro w6 hp; replace HO := Aside0.mk (HO.out.grown (put_grownN hp) (by have := LB.out; have := HO.out.g2; omega) (by have := LG.out; omega) (by have := LR.out; omega) (by have := LB.out; omega)); replace BS := Aside0.mk hp.blk; clear hp; have hco := blk_cell HO.out.obj 4; have hco1 := blk_cell HO.out.obj 1; have hs0 := blk_cell BS.out 0; have hs1 := blk_cell BS.out 1; have hs2 := blk_cell BS.out 2) | (go_at_call 103; refine (object_Name.calls sn _ _ HN.out).mono ?_; rintro e w7 ⟨rfl, hb⟩; replace HO := Aside0.mk (HO.out.below hb); replace BS := Aside0.mk (blk_below BS.out hb); clear hb hs0 hs1 hs2; have hco := blk_cell HO.out.obj 4; have hco1 := blk_cell HO.out.obj 1; have hs0 := blk_cell BS.out 0; have hs1 := blk_cell BS.out 1; have hs2 := blk_cell BS.out 2) | (at_lookup; refine wpList_lookup_seen rfl _ _ 173 rfl 9 4 lawN Tryz.underlying173 Tryz.underlying4 (zeroBN _) b _ _ rfl HO.out.seen _ _ rfl HKY.out trivial ?_; rw [HM.out]) | ((with_reducible refine gate_store (t := 121) rfl ?_); refine wpList_store_whole rfl rfl rfl gr _ #[.int .i64 23, .int .i64 (i : Int)] _ rfl rfl HO.out.res (by kernel_rfl) rfl (two_one _ _) ?_; intro w9 hp; have HE := Aside0.mk (hp.below HO.out.low HO.out.g1); have HP := Aside0.mk hp.blk; clear hp))
      refine bodyPost_ret (results_cell_row rfl _ _ gr 121 #[.int .i64 23, .int .i64 (i : Int)] (0, 0) _ rfl HP.out Tryz.underlying121 rfl (by kernel_rfl)) rfl ?_
      exact ⟨rfl, HE.out⟩
     ·
      rw [if_neg c4] at hse
      have d4 : decide (sk < 0) = false := decide_eq_false c4
      clear c4
      by_cases c3 : sk > 3
      ·
       rw [if_pos c3] at hse
       have d3 : decide (3 < sk) = true := decide_eq_true c3
       clear c3
       rw [hse, if_neg (by decide)] at hstep
       injection hstep with e1 e2
       subst e1 e2
       clear hse
       go_wp2_with (first | ((with_reducible refine gate_dst (N := 5) rfl ?_); refine box_event ?hg (N := 5) ?hd (cs := #[.string ⟨#[]⟩, .int .i8 0, .int .i64 0]) (t := 65) ?hr ?_; (case hd => rfl); (case hg => rfl); (case hr => first | (go_simp; done) | (go_simp; rfl)); intro gs hgs w5 BK5 hb5; have LB := Aside0.mk (show b < gs by rw [hgs]; exact HO.out.seen.lt); have LG := Aside0.mk (show gb < gs by rw [hgs]; exact blk_lt HO.out.obj); have LR := Aside0.mk (show gr < gs by rw [hgs]; exact blk_lt HO.out.res); replace HO := Aside0.mk (HO.out.below hb5); have BS := Aside0.mk BK5; clear BK5 hb5 hgs) | ((with_reducible refine gate_store (t := 65) rfl ?_); refine wpList_store_whole rfl rfl rfl gs _ #[.string sn, .int .i8 sk, .int .i64 sa] _ rfl rfl BS.out (by kernel_rfl) rfl (sym_one _ _ _) ?_; intro w6 hp; replace HO := Aside0.mk (HO.out.grown (put_grownN hp) (by have := LB.out; have := HO.out.g2; omega) (by have := LG.out; omega) (by have := LR.out; omega) (by have := LB.out; omega)); replace BS := Aside0.mk hp.blk; clear hp; have hco := blk_cell HO.out.obj 4; have hco1 := blk_cell HO.out.obj 1; have hs0 := blk_cell BS.out 0; have hs1 := blk_cell BS.out 1; have hs2 := blk_cell BS.out 2) | (go_at_call 103; refine (object_Name.calls sn _ _ HN.out).mono ?_; rintro e w7 ⟨rfl, hb⟩; replace HO := Aside0.mk (HO.out.below hb); replace BS := Aside0.mk (blk_below BS.out hb); clear hb hs0 hs1 hs2; have hco := blk_cell HO.out.obj 4; have hco1 := blk_cell HO.out.obj 1; have hs0 := blk_cell BS.out 0; have hs1 := blk_cell BS.out 1; have hs2 := blk_cell BS.out 2) | (at_lookup; refine wpList_lookup_seen rfl _ _ 173 rfl 9 4 lawN Tryz.underlying173 Tryz.underlying4 (zeroBN _) b _ _ rfl HO.out.seen _ _ rfl HKY.out trivial ?_; rw [HM.out]) | ((with_reducible refine gate_store (t := 121) rfl ?_); refine wpList_store_whole rfl rfl rfl gr _ #[.int .i64 23, .int .i64 (i : Int)] _ rfl rfl HO.out.res (by kernel_rfl) rfl (two_one _ _) ?_; intro w9 hp; have HE := Aside0.mk (hp.below HO.out.low HO.out.g1); have HP := Aside0.mk hp.blk; clear hp))
       refine bodyPost_ret (results_cell_row rfl _ _ gr 121 #[.int .i64 23, .int .i64 (i : Int)] (0, 0) _ rfl HP.out Tryz.underlying121 rfl (by kernel_rfl)) rfl ?_
       exact ⟨rfl, HE.out⟩
      ·
       rw [if_neg c3] at hse
       have d3 : decide (3 < sk) = false := decide_eq_false c3
       clear c3
       by_cases c2 : sa < 0
       ·
        rw [if_pos c2] at hse
        have d2 : decide (sa < 0) = true := decide_eq_true c2
        clear c2
        rw [hse, if_neg (by decide)] at hstep
        injection hstep with e1 e2
        subst e1 e2
        clear hse
        go_wp2_with (first | ((with_reducible refine gate_dst (N := 5) rfl ?_); refine box_event ?hg (N := 5) ?hd (cs := #[.string ⟨#[]⟩, .int .i8 0, .int .i64 0]) (t := 65) ?hr ?_; (case hd => rfl); (case hg => rfl); (case hr => first | (go_simp; done) | (go_simp; rfl)); intro gs hgs w5 BK5 hb5; have LB := Aside0.mk (show b < gs by rw [hgs]; exact HO.out.seen.lt); have LG := Aside0.mk (show gb < gs by rw [hgs]; exact blk_lt HO.out.obj); have LR := Aside0.mk (show gr < gs by rw [hgs]; exact blk_lt HO.out.res); replace HO := Aside0.mk (HO.out.below hb5); have BS := Aside0.mk BK5; clear BK5 hb5 hgs) | ((with_reducible refine gate_store (t := 65) rfl ?_); refine wpList_store_whole rfl rfl rfl gs _ #[.string sn, .int .i8 sk, .int .i64 sa] _ rfl rfl BS.out (by kernel_rfl) rfl (sym_one _ _ _) ?_; intro w6 hp; replace HO := Aside0.mk (HO.out.grown (put_grownN hp) (by have := LB.out; have := HO.out.g2; omega) (by have := LG.out; omega) (by have := LR.out; omega) (by have := LB.out; omega)); replace BS := Aside0.mk hp.blk; clear hp; have hco := blk_cell HO.out.obj 4; have hco1 := blk_cell HO.out.obj 1; have hs0 := blk_cell BS.out 0; have hs1 := blk_cell BS.out 1; have hs2 := blk_cell BS.out 2) | (go_at_call 103; refine (object_Name.calls sn _ _ HN.out).mono ?_; rintro e w7 ⟨rfl, hb⟩; replace HO := Aside0.mk (HO.out.below hb); replace BS := Aside0.mk (blk_below BS.out hb); clear hb hs0 hs1 hs2; have hco := blk_cell HO.out.obj 4; have hco1 := blk_cell HO.out.obj 1; have hs0 := blk_cell BS.out 0; have hs1 := blk_cell BS.out 1; have hs2 := blk_cell BS.out 2) | (at_lookup; refine wpList_lookup_seen rfl _ _ 173 rfl 9 4 lawN Tryz.underlying173 Tryz.underlying4 (zeroBN _) b _ _ rfl HO.out.seen _ _ rfl HKY.out trivial ?_; rw [HM.out]) | ((with_reducible refine gate_store (t := 121) rfl ?_); refine wpList_store_whole rfl rfl rfl gr _ #[.int .i64 22, .int .i64 (i : Int)] _ rfl rfl HO.out.res (by kernel_rfl) rfl (two_one _ _) ?_; intro w9 hp; have HE := Aside0.mk (hp.below HO.out.low HO.out.g1); have HP := Aside0.mk hp.blk; clear hp))
        refine bodyPost_ret (results_cell_row rfl _ _ gr 121 #[.int .i64 22, .int .i64 (i : Int)] (0, 0) _ rfl HP.out Tryz.underlying121 rfl (by kernel_rfl)) rfl ?_
        exact ⟨rfl, HE.out⟩
       ·
        rw [if_neg c2] at hse
        have d2 : decide (sa < 0) = false := decide_eq_false c2
        clear c2
        by_cases c1 : sa > (l0_1.length : Int)
        ·
         rw [if_pos c1] at hse
         have d1 : decide ((l0_1.length : Int) < sa) = true := decide_eq_true c1
         clear c1
         rw [hse, if_neg (by decide)] at hstep
         injection hstep with e1 e2
         subst e1 e2
         clear hse
         go_wp2_with (first | ((with_reducible refine gate_dst (N := 5) rfl ?_); refine box_event ?hg (N := 5) ?hd (cs := #[.string ⟨#[]⟩, .int .i8 0, .int .i64 0]) (t := 65) ?hr ?_; (case hd => rfl); (case hg => rfl); (case hr => first | (go_simp; done) | (go_simp; rfl)); intro gs hgs w5 BK5 hb5; have LB := Aside0.mk (show b < gs by rw [hgs]; exact HO.out.seen.lt); have LG := Aside0.mk (show gb < gs by rw [hgs]; exact blk_lt HO.out.obj); have LR := Aside0.mk (show gr < gs by rw [hgs]; exact blk_lt HO.out.res); replace HO := Aside0.mk (HO.out.below hb5); have BS := Aside0.mk BK5; clear BK5 hb5 hgs) | ((with_reducible refine gate_store (t := 65) rfl ?_); refine wpList_store_whole rfl rfl rfl gs _ #[.string sn, .int .i8 sk, .int .i64 sa] _ rfl rfl BS.out (by kernel_rfl) rfl (sym_one _ _ _) ?_; intro w6 hp; replace HO := Aside0.mk (HO.out.grown (put_grownN hp) (by have := LB.out; have := HO.out.g2; omega) (by have := LG.out; omega) (by have := LR.out; omega) (by have := LB.out; omega)); replace BS := Aside0.mk hp.blk; clear hp; have hco := blk_cell HO.out.obj 4; have hco1 := blk_cell HO.out.obj 1; have hs0 := blk_cell BS.out 0; have hs1 := blk_cell BS.out 1; have hs2 := blk_cell BS.out 2) | (go_at_call 103; refine (object_Name.calls sn _ _ HN.out).mono ?_; rintro e w7 ⟨rfl, hb⟩; replace HO := Aside0.mk (HO.out.below hb); replace BS := Aside0.mk (blk_below BS.out hb); clear hb hs0 hs1 hs2; have hco := blk_cell HO.out.obj 4; have hco1 := blk_cell HO.out.obj 1; have hs0 := blk_cell BS.out 0; have hs1 := blk_cell BS.out 1; have hs2 := blk_cell BS.out 2) | (at_lookup; refine wpList_lookup_seen rfl _ _ 173 rfl 9 4 lawN Tryz.underlying173 Tryz.underlying4 (zeroBN _) b _ _ rfl HO.out.seen _ _ rfl HKY.out trivial ?_; rw [HM.out]) | ((with_reducible refine gate_store (t := 121) rfl ?_); refine wpList_store_whole rfl rfl rfl gr _ #[.int .i64 22, .int .i64 (i : Int)] _ rfl rfl HO.out.res (by kernel_rfl) rfl (two_one _ _) ?_; intro w9 hp; have HE := Aside0.mk (hp.below HO.out.low HO.out.g1); have HP := Aside0.mk hp.blk; clear hp))
         refine bodyPost_ret (results_cell_row rfl _ _ gr 121 #[.int .i64 22, .int .i64 (i : Int)] (0, 0) _ rfl HP.out Tryz.underlying121 rfl (by kernel_rfl)) rfl ?_
         exact ⟨rfl, HE.out⟩
        ·
         rw [if_neg c1] at hse
         have d1 : decide ((l0_1.length : Int) < sa) = false := decide_eq_false c1
         clear c1
         by_cases k3 : sk = 3
         ·
          rw [if_pos k3] at hse
          have k3b : (sk == 3) = true := beq_iff_eq.mpr k3
          by_cases a0 : sa = 0
          ·
           rw [if_pos a0] at hse
           have a0b : (sa == 0) = true := beq_iff_eq.mpr a0
           have a0c : (sa != 0) = false := bne_eq_false_iff_eq.mpr a0
           clear a0 k3
           rw [hse, if_pos rfl] at hstep
           have HF := Aside0.mk hstep.symm
           clear hstep hse
           go_wp2_with (first | ((with_reducible refine gate_dst (N := 5) rfl ?_); refine box_event ?hg (N := 5) ?hd (cs := #[.string ⟨#[]⟩, .int .i8 0, .int .i64 0]) (t := 65) ?hr ?_; (case hd => rfl); (case hg => rfl); (case hr => first | (go_simp; done) | (go_simp; rfl)); intro gs hgs w5 BK5 hb5; have LB := Aside0.mk (show b < gs by rw [hgs]; exact HO.out.seen.lt); have LG := Aside0.mk (show gb < gs by rw [hgs]; exact blk_lt HO.out.obj); have LR := Aside0.mk (show gr < gs by rw [hgs]; exact blk_lt HO.out.res); replace HO := Aside0.mk (HO.out.below hb5); have BS := Aside0.mk BK5; clear BK5 hb5 hgs) | ((with_reducible refine gate_store (t := 65) rfl ?_); refine wpList_store_whole rfl rfl rfl gs _ #[.string sn, .int .i8 sk, .int .i64 sa] _ rfl rfl BS.out (by kernel_rfl) rfl (sym_one _ _ _) ?_; intro w6 hp; replace HO := Aside0.mk (HO.out.grown (put_grownN hp) (by have := LB.out; have := HO.out.g2; omega) (by have := LG.out; omega) (by have := LR.out; omega) (by have := LB.out; omega)); replace BS := Aside0.mk hp.blk; clear hp; have hco := blk_cell HO.out.obj 4; have hco1 := blk_cell HO.out.obj 1; have hs0 := blk_cell BS.out 0; have hs1 := blk_cell BS.out 1; have hs2 := blk_cell BS.out 2) | (go_at_call 103; refine (object_Name.calls sn _ _ HN.out).mono ?_; rintro e w7 ⟨rfl, hb⟩; replace HO := Aside0.mk (HO.out.below hb); replace BS := Aside0.mk (blk_below BS.out hb); clear hb hs0 hs1 hs2; have hco := blk_cell HO.out.obj 4; have hco1 := blk_cell HO.out.obj 1; have hs0 := blk_cell BS.out 0; have hs1 := blk_cell BS.out 1; have hs2 := blk_cell BS.out 2) | (at_lookup; refine wpList_lookup_seen rfl _ _ 173 rfl 9 4 lawN Tryz.underlying173 Tryz.underlying4 (zeroBN _) b _ _ rfl HO.out.seen _ _ rfl HKY.out trivial ?_; rw [HM.out]) | (at_mapUpdate; refine wpList_update_seen rfl _ _ _ 173 rfl 9 4 lawN Tryz.underlying173 Tryz.underlying4 b _ _ rfl HO.out.seen (by have := HL.out; unfold maxLen; omega) _ _ rfl rfl HKY.out trivial ?_; intro w8 hs8 hg8; replace HO := Aside0.mk (HO.out.add hg8 hs8); clear hs8 hg8))
           go_roundw
           case measure => simp [intOf]; omega
           case rel => exact ⟨i + 1, by first | rfl | (simp; done) | (simp [*]; done), by omega, HF, ⟨by rw [HNS.out]; exact HO.out⟩⟩
          ·
           rw [if_neg a0] at hse
           have a0b : (sa == 0) = false := beq_eq_false_iff_ne.mpr a0
           have a0c : (sa != 0) = true := bne_iff_ne.mpr a0
           clear a0 k3
           rw [hse, if_neg (by decide)] at hstep
           injection hstep with e1 e2
           subst e1 e2
           clear hse
           go_wp2_with (first | ((with_reducible refine gate_dst (N := 5) rfl ?_); refine box_event ?hg (N := 5) ?hd (cs := #[.string ⟨#[]⟩, .int .i8 0, .int .i64 0]) (t := 65) ?hr ?_; (case hd => rfl); (case hg => rfl); (case hr => first | (go_simp; done) | (go_simp; rfl)); intro gs hgs w5 BK5 hb5; have LB := Aside0.mk (show b < gs by rw [hgs]; exact HO.out.seen.lt); have LG := Aside0.mk (show gb < gs by rw [hgs]; exact blk_lt HO.out.obj); have LR := Aside0.mk (show gr < gs by rw [hgs]; exact blk_lt HO.out.res); replace HO := Aside0.mk (HO.out.below hb5); have BS := Aside0.mk BK5; clear BK5 hb5 hgs) | ((with_reducible refine gate_store (t := 65) rfl ?_); refine wpList_store_whole rfl rfl rfl gs _ #[.string sn, .int .i8 sk, .int .i64 sa] _ rfl rfl BS.out (by kernel_rfl) rfl (sym_one _ _ _) ?_; intro w6 hp; replace HO := Aside0.mk (HO.out.grown (put_grownN hp) (by have := LB.out; have := HO.out.g2; omega) (by have := LG.out; omega) (by have := LR.out; omega) (by have := LB.out; omega)); replace BS := Aside0.mk hp.blk; clear hp; have hco := blk_cell HO.out.obj 4; have hco1 := blk_cell HO.out.obj 1; have hs0 := blk_cell BS.out 0; have hs1 := blk_cell BS.out 1; have hs2 := blk_cell BS.out 2) | (go_at_call 103; refine (object_Name.calls sn _ _ HN.out).mono ?_; rintro e w7 ⟨rfl, hb⟩; replace HO := Aside0.mk (HO.out.below hb); replace BS := Aside0.mk (blk_below BS.out hb); clear hb hs0 hs1 hs2; have hco := blk_cell HO.out.obj 4; have hco1 := blk_cell HO.out.obj 1; have hs0 := blk_cell BS.out 0; have hs1 := blk_cell BS.out 1; have hs2 := blk_cell BS.out 2) | (at_lookup; refine wpList_lookup_seen rfl _ _ 173 rfl 9 4 lawN Tryz.underlying173 Tryz.underlying4 (zeroBN _) b _ _ rfl HO.out.seen _ _ rfl HKY.out trivial ?_; rw [HM.out]) | ((with_reducible refine gate_store (t := 121) rfl ?_); refine wpList_store_whole rfl rfl rfl gr _ #[.int .i64 22, .int .i64 (i : Int)] _ rfl rfl HO.out.res (by kernel_rfl) rfl (two_one _ _) ?_; intro w9 hp; have HE := Aside0.mk (hp.below HO.out.low HO.out.g1); have HP := Aside0.mk hp.blk; clear hp))
           refine bodyPost_ret (results_cell_row rfl _ _ gr 121 #[.int .i64 22, .int .i64 (i : Int)] (0, 0) _ rfl HP.out Tryz.underlying121 rfl (by kernel_rfl)) rfl ?_
           exact ⟨rfl, HE.out⟩
         ·
          rw [if_neg k3] at hse
          have k3b : (sk == 3) = false := beq_eq_false_iff_ne.mpr k3
          clear k3
          rw [hse, if_pos rfl] at hstep
          have HF := Aside0.mk hstep.symm
          clear hstep hse
          go_wp2_with (first | ((with_reducible refine gate_dst (N := 5) rfl ?_); refine box_event ?hg (N := 5) ?hd (cs := #[.string ⟨#[]⟩, .int .i8 0, .int .i64 0]) (t := 65) ?hr ?_; (case hd => rfl); (case hg => rfl); (case hr => first | (go_simp; done) | (go_simp; rfl)); intro gs hgs w5 BK5 hb5; have LB := Aside0.mk (show b < gs by rw [hgs]; exact HO.out.seen.lt); have LG := Aside0.mk (show gb < gs by rw [hgs]; exact blk_lt HO.out.obj); have LR := Aside0.mk (show gr < gs by rw [hgs]; exact blk_lt HO.out.res); replace HO := Aside0.mk (HO.out.below hb5); have BS := Aside0.mk BK5; clear BK5 hb5 hgs) | ((with_reducible refine gate_store (t := 65) rfl ?_); refine wpList_store_whole rfl rfl rfl gs _ #[.string sn, .int .i8 sk, .int .i64 sa] _ rfl rfl BS.out (by kernel_rfl) rfl (sym_one _ _ _) ?_; intro w6 hp; replace HO := Aside0.mk (HO.out.grown (put_grownN hp) (by have := LB.out; have := HO.out.g2; omega) (by have := LG.out; omega) (by have := LR.out; omega) (by have := LB.out; omega)); replace BS := Aside0.mk hp.blk; clear hp; have hco := blk_cell HO.out.obj 4; have hco1 := blk_cell HO.out.obj 1; have hs0 := blk_cell BS.out 0; have hs1 := blk_cell BS.out 1; have hs2 := blk_cell BS.out 2) | (go_at_call 103; refine (object_Name.calls sn _ _ HN.out).mono ?_; rintro e w7 ⟨rfl, hb⟩; replace HO := Aside0.mk (HO.out.below hb); replace BS := Aside0.mk (blk_below BS.out hb); clear hb hs0 hs1 hs2; have hco := blk_cell HO.out.obj 4; have hco1 := blk_cell HO.out.obj 1; have hs0 := blk_cell BS.out 0; have hs1 := blk_cell BS.out 1; have hs2 := blk_cell BS.out 2) | (at_lookup; refine wpList_lookup_seen rfl _ _ 173 rfl 9 4 lawN Tryz.underlying173 Tryz.underlying4 (zeroBN _) b _ _ rfl HO.out.seen _ _ rfl HKY.out trivial ?_; rw [HM.out]) | (at_mapUpdate; refine wpList_update_seen rfl _ _ _ 173 rfl 9 4 lawN Tryz.underlying173 Tryz.underlying4 b _ _ rfl HO.out.seen (by have := HL.out; unfold maxLen; omega) _ _ rfl rfl HKY.out trivial ?_; intro w8 hs8 hg8; replace HO := Aside0.mk (HO.out.add hg8 hs8); clear hs8 hg8))
          go_roundw
          case measure => simp [intOf]; omega
          case rel => exact ⟨i + 1, by first | rfl | (simp; done) | (simp [*]; done), by omega, HF, ⟨by rw [HNS.out]; exact HO.out⟩⟩
   ·
    rw [if_neg cn] at hse
    have cn : nb = false := by simpa using cn
    subst cn
    clear hnb
    rw [hse, if_neg (by decide)] at hstep
    injection hstep with e1 e2
    subst e1 e2
    clear hse
    go_wp2_with (first | ((with_reducible refine gate_dst (N := 5) rfl ?_); refine box_event ?hg (N := 5) ?hd (cs := #[.string ⟨#[]⟩, .int .i8 0, .int .i64 0]) (t := 65) ?hr ?_; (case hd => rfl); (case hg => rfl); (case hr => first | (go_simp; done) | (go_simp; rfl)); intro gs hgs w5 BK5 hb5; have LB := Aside0.mk (show b < gs by rw [hgs]; exact HO.out.seen.lt); have LG := Aside0.mk (show gb < gs by rw [hgs]; exact blk_lt HO.out.obj); have LR := Aside0.mk (show gr < gs by rw [hgs]; exact blk_lt HO.out.res); replace HO := Aside0.mk (HO.out.below hb5); have BS := Aside0.mk BK5; clear BK5 hb5 hgs) | ((with_reducible refine gate_store (t := 65) rfl ?_); refine wpList_store_whole rfl rfl rfl gs _ #[.string sn, .int .i8 sk, .int .i64 sa] _ rfl rfl BS.out (by kernel_rfl) rfl (sym_one _ _ _) ?_; intro w6 hp; replace HO := Aside0.mk (HO.out.grown (put_grownN hp) (by have := LB.out; have := HO.out.g2; omega) (by have := LG.out; omega) (by have := LR.out; omega) (by have := LB.out; omega)); replace BS := Aside0.mk hp.blk; clear hp; have hco := blk_cell HO.out.obj 4; have hco1 := blk_cell HO.out.obj 1; have hs0 := blk_cell BS.out 0; have hs1 := blk_cell BS.out 1; have hs2 := blk_cell BS.out 2) | (go_at_call 103; refine (object_Name.calls sn _ _ HN.out).mono ?_; rintro e w7 ⟨rfl, hb⟩; replace HO := Aside0.mk (HO.out.below hb); replace BS := Aside0.mk (blk_below BS.out hb); clear hb hs0 hs1 hs2; have hco := blk_cell HO.out.obj 4; have hco1 := blk_cell HO.out.obj 1; have hs0 := blk_cell BS.out 0; have hs1 := blk_cell BS.out 1; have hs2 := blk_cell BS.out 2) | ((with_reducible refine gate_store (t := 121) rfl ?_); refine wpList_store_whole rfl rfl rfl gr _ #[.int .i64 20, .int .i64 (i : Int)] _ rfl rfl HO.out.res (by kernel_rfl) rfl (two_one _ _) ?_; intro w9 hp; have HE := Aside0.mk (hp.below HO.out.low HO.out.g1); have HP := Aside0.mk hp.blk; clear hp))
    refine bodyPost_ret (results_cell_row rfl _ _ gr 121 #[.int .i64 20, .int .i64 (i : Int)] (0, 0) _ rfl HP.out Tryz.underlying121 rfl (by kernel_rfl)) rfl ?_
    exact ⟨rfl, HE.out⟩
  ·
   have : i = l0_4.length := by omega
   subst this
   have hltb : decide ((l0_4.length : Int) < (l0_4.length : Int)) = false := by simp
   have hf : ((0 : Int), (0 : Int)) = (r1, r2) := by
    have := HF.out
    rw [Nat.sub_self] at this
    exact this
   injection hf with e1 e2
   subst e1 e2
   clear hlt hile
   go_wp2_with (first | ((with_reducible refine gate_store (t := 121) rfl ?_); refine wpList_store_whole rfl rfl rfl gr _ #[.int .i64 0, .int .i64 0] _ rfl rfl HO.out.res (by kernel_rfl) rfl (two_one _ _) ?_; intro w9 hp; have HE := Aside0.mk (hp.below HO.out.low HO.out.g1); have HP := Aside0.mk hp.blk; clear hp))
   refine bodyPost_ret (results_cell_row rfl _ _ gr 121 #[.int .i64 0, .int .i64 0] (0, 0) _ rfl HP.out Tryz.underlying121 rfl (by kernel_rfl)) rfl ?_
   exact ⟨rfl, HE.out⟩

end Go.Proofs.YtiaohbbafaaibabGreatDoor.P

/- OWN TEXT, written by mksq.py: short words for what the printed walks say again and again. -/
namespace Go.Proofs.YtiaohbbafaaibabGreatDoor.P
open Go.RowKit Go.Proofs.YtiaohbbafaaibabGreatDoorW.PrintWords Go.Proofs.YtiaohbbafaaibabGreatDoorW.PrintLast Go.Proofs.YtiaohbbafaaibabGreatDoorW.PrintMore
set_option linter.unusedVariables false
abbrev SmQ (W W0 : World) : Prop := W.heap = W0.heap ∧ W.os = W0.os ∧ W.tape = W0.tape ∧ W.output = W0.output
theorem bwQ {B : Nat} {w W W0 : World} (h : Below B w W0) (e : SmQ W W0 := by exact ⟨rfl, rfl, rfl, rfl⟩) : Below B w W := by
 obtain ⟨e1, e2, e3, e4⟩ := e
 exact ⟨e2.trans h.os, e3.trans h.tape, e4.trans h.output, by rw [e1]; exact h.size, fun k hk => by rw [e1]; exact h.block k hk⟩
theorem bsQ {w W W0 W1 : World} (hb : Below W.heap.size W W1) (h : Below w.heap.size w W0) (e : SmQ W W0 := by exact ⟨rfl, rfl, rfl, rfl⟩) : Below w.heap.size w W1 :=
 below_then (bwQ h e) (by rw [e.1]; exact h.size) hb
theorem bbQ {W W1 : World} {g : Nat} {o : Obj} (hb : Below W.heap.size W W1) (h : W.heap[g]? = some o) : W1.heap[g]? = some o := blk_below h hb
theorem gwQ {w W W0 : World} {g : Nat} (hg : g = W.heap.size) (h : Below w.heap.size w W0) (e : W.heap = W0.heap := by rfl) : w.heap.size ≤ g := by rw [hg, e]; exact h.size
theorem bs1Q {w W W1 : World} (hb : Below W.heap.size W W1) (h : Below w.heap.size w W) : Below w.heap.size w W1 := below_then h h.size hb
theorem gw1Q {w W : World} {g : Nat} (hg : g = W.heap.size) (h : Below w.heap.size w W) : w.heap.size ≤ g := by rw [hg]; exact h.size
theorem cbQ {α : Type} {d : Kd α} {w W W0 : World} {A : Option Addr} {n : Nat} {l : List α} (h : Below w.heap.size w W0) (hC : d.C w A n l) (e : SmQ W W0 := by exact ⟨rfl, rfl, rfl, rfl⟩) : d.C W A n l := Kd.C_below hC (bwQ h e)
theorem bcQ2 {W : World} {g t : Nat} {a0 a1 : Value} (h : W.heap[g]? = some (.cells #[a0, a1] t (0, 0))) : W.cell? ⟨g, 0, none⟩ = some a0 ∧ W.cell? ⟨g, 1, none⟩ = some a1 := ⟨blk_cell h 0, blk_cell h 1⟩
theorem bcQ3 {W : World} {g t : Nat} {a0 a1 a2 : Value} (h : W.heap[g]? = some (.cells #[a0, a1, a2] t (0, 0))) : W.cell? ⟨g, 0, none⟩ = some a0 ∧ W.cell? ⟨g, 1, none⟩ = some a1 ∧ W.cell? ⟨g, 2, none⟩ = some a2 := ⟨blk_cell h 0, blk_cell h 1, blk_cell h 2⟩
theorem bcQ5 {W : World} {g t : Nat} {a0 a1 a2 a3 a4 : Value} (h : W.heap[g]? = some (.cells #[a0, a1, a2, a3, a4] t (0, 0))) : W.cell? ⟨g, 0, none⟩ = some a0 ∧ W.cell? ⟨g, 1, none⟩ = some a1 ∧ W.cell? ⟨g, 2, none⟩ = some a2 ∧ W.cell? ⟨g, 3, none⟩ = some a3 ∧ W.cell? ⟨g, 4, none⟩ = some a4 := ⟨blk_cell h 0, blk_cell h 1, blk_cell h 2, blk_cell h 3, blk_cell h 4⟩
theorem bcQ6 {W : World} {g t : Nat} {a0 a1 a2 a3 a4 a5 : Value} (h : W.heap[g]? = some (.cells #[a0, a1, a2, a3, a4, a5] t (0, 0))) : W.cell? ⟨g, 0, none⟩ = some a0 ∧ W.cell? ⟨g, 1, none⟩ = some a1 ∧ W.cell? ⟨g, 2, none⟩ = some a2 ∧ W.cell? ⟨g, 3, none⟩ = some a3 ∧ W.cell? ⟨g, 4, none⟩ = some a4 ∧ W.cell? ⟨g, 5, none⟩ = some a5 := ⟨blk_cell h 0, blk_cell h 1, blk_cell h 2, blk_cell h 3, blk_cell h 4, blk_cell h 5⟩
theorem fzQ2 {W : World} {g t : Nat} {cs : Array Value} (h : W.heap[g]? = some (.cells cs t (0, 0))) : W.frozen? ⟨g, 0, none⟩ = false ∧ W.frozen? ⟨g, 1, none⟩ = false := ⟨blk_frozen h 0, blk_frozen h 1⟩
theorem fzQ3 {W : World} {g t : Nat} {cs : Array Value} (h : W.heap[g]? = some (.cells cs t (0, 0))) : W.frozen? ⟨g, 0, none⟩ = false ∧ W.frozen? ⟨g, 1, none⟩ = false ∧ W.frozen? ⟨g, 2, none⟩ = false := ⟨blk_frozen h 0, blk_frozen h 1, blk_frozen h 2⟩
theorem fzQ5 {W : World} {g t : Nat} {cs : Array Value} (h : W.heap[g]? = some (.cells cs t (0, 0))) : W.frozen? ⟨g, 0, none⟩ = false ∧ W.frozen? ⟨g, 1, none⟩ = false ∧ W.frozen? ⟨g, 2, none⟩ = false ∧ W.frozen? ⟨g, 3, none⟩ = false ∧ W.frozen? ⟨g, 4, none⟩ = false := ⟨blk_frozen h 0, blk_frozen h 1, blk_frozen h 2, blk_frozen h 3, blk_frozen h 4⟩
theorem fzQ6 {W : World} {g t : Nat} {cs : Array Value} (h : W.heap[g]? = some (.cells cs t (0, 0))) : W.frozen? ⟨g, 0, none⟩ = false ∧ W.frozen? ⟨g, 1, none⟩ = false ∧ W.frozen? ⟨g, 2, none⟩ = false ∧ W.frozen? ⟨g, 3, none⟩ = false ∧ W.frozen? ⟨g, 4, none⟩ = false ∧ W.frozen? ⟨g, 5, none⟩ = false := ⟨blk_frozen h 0, blk_frozen h 1, blk_frozen h 2, blk_frozen h 3, blk_frozen h 4, blk_frozen h 5⟩
theorem atQ65 {w W : World} {A : Option Addr} {n : Nat} {xs : List S65} (h : Kd.C k65 w A n xs) (hb : Below w.heap.size w W) (i : Int) (h0 : 0 ≤ i) (h1 : i < n) : ∃ ad , A = some ad ∧ W.cell? (ad.add (i.toNat * 3)) = some (.string (rd_T65 xs i).f0) ∧ W.cell? ⟨(ad.add (i.toNat * 3)).block, (ad.add (i.toNat * 3)).off + 1, none⟩ = some (.int .i8 (rd_T65 xs i).f1) ∧ W.cell? ⟨(ad.add (i.toNat * 3)).block, (ad.add (i.toNat * 3)).off + 2, none⟩ = some (.int .i64 (rd_T65 xs i).f2) := by
 obtain ⟨ad, e, x0, x1, x2⟩ := at_T65 h i h0 h1
 exact ⟨ad, e, pw_cell_below hb x0, pw_cell_below hb x1, pw_cell_below hb x2⟩
theorem atQ82 {w W : World} {A : Option Addr} {n : Nat} {xs : List S82} (h : Kd.C k82 w A n xs) (hb : Below w.heap.size w W) (i : Int) (h0 : 0 ≤ i) (h1 : i < n) : ∃ ad , A = some ad ∧ W.cell? (ad.add (i.toNat * 2)) = some (.int .i64 (rd_T82 xs i).f0) ∧ W.cell? ⟨(ad.add (i.toNat * 2)).block, (ad.add (i.toNat * 2)).off + 1, none⟩ = some (.int .i64 (rd_T82 xs i).f1) := by
 obtain ⟨ad, e, x0, x1⟩ := at_T82 h i h0 h1
 exact ⟨ad, e, pw_cell_below hb x0, pw_cell_below hb x1⟩
end Go.Proofs.YtiaohbbafaaibabGreatDoor.P

/- OWN TEXT: wire's reader, walked: fails, has, number, count, text, each. -/
namespace Go.Proofs.YtiaohbbafaaibabGreatDoor.P
open Go.RowKit Go.Proofs.YtiaohbbafaaibabGreatDoorW.PrintWords Go.Proofs.YtiaohbbafaaibabGreatDoorW.PrintLast Go.Proofs.YtiaohbbafaaibabGreatDoorW.PrintMore Go.Proofs.YtiaohbbafaaibabGreatDoor.Arr
set_option linter.unusedVariables false
set_option linter.unusedSimpArgs false
structure RS where
  at_ : Int
  er : Option Int
def ErV (W : World) (base : Nat) : Option Int → Value → Prop
 | none, v => v = .nilIface
 | some p, v => ∃ e, v = .iface 103 (.pointer (some ⟨e, 0, none⟩)) ∧ base ≤ e ∧ W.heap[e]? = some (.cells #[.int .i64 p] 107 (0, 0))
structure Rd (w0 W : World) (r : Nat) (A : Option Addr) (c : Nat) (l : List Int) (s : RS) : Prop where
  low : Below w0.heap.size w0 W
  blk : ∃ v, W.heap[r]? = some (.cells #[.slice A l.length c, .int .i64 s.at_, v] 97 (0, 0)) ∧ ErV W w0.heap.size s.er v
  base : w0.heap.size ≤ r
  at0 : 0 ≤ s.at_
  at1 : s.at_ ≤ (l.length : Int) + 4
  at2 : s.er = none → s.at_ ≤ (l.length : Int)
theorem grown_refl (W : World) (k : Option Nat) : W.grownBy W k := ⟨rfl, rfl, rfl, Nat.le_refl _, fun _ _ _ => rfl⟩
theorem grown_trans {W W1 W2 : World} {k : Option Nat} (h : W.grownBy W1 k) (g : W1.grownBy W2 k) : W.grownBy W2 k :=
 ⟨g.os.trans h.os, g.tape.trans h.tape, g.output.trans h.output, Nat.le_trans h.size g.size, fun q hq hn => (g.block q (Nat.lt_of_lt_of_le hq h.size) hn).trans (h.block q hq hn)⟩
theorem grown_below {W W1 : World} {k : Option Nat} (h : Below W.heap.size W W1) : W.grownBy W1 k := ⟨h.os, h.tape, h.output, h.size, fun q hq _ => h.block q hq⟩
theorem below_grown {w0 W W1 : World} {g : Nat} (h : Below w0.heap.size w0 W) (hg : w0.heap.size ≤ g) (k : W.grownBy W1 (some g)) : Below w0.heap.size w0 W1 :=
 ⟨k.os.trans h.os, k.tape.trans h.tape, k.output.trans h.output, Nat.le_trans h.size k.size, fun q hq => (k.block q (Nat.lt_of_lt_of_le hq h.size) (fun e => by have := Option.some.inj e; omega)).trans (h.block q hq)⟩
theorem ErV.grown {W W1 : World} {g base : Nat} {cs : Array Value} {x : Option Int} {v : Value} (h : ErV W base x v) (hb : W.heap[g]? = some (.cells cs 97 (0, 0))) (k : W.grownBy W1 (some g)) : ErV W1 base x v := by
 cases x with
 | none => exact h
 | some p =>
  obtain ⟨e, h1, h2, h3⟩ := h
  refine ⟨e, h1, h2, (k.block e (blk_lt h3) (fun q => ?_)).trans h3⟩
  obtain rfl := Option.some.inj q
  rw [h3] at hb
  injection hb with hb
  injection hb with _ hb _
  exact absurd hb (by decide)
theorem ErV.below {W W1 : World} {base : Nat} {x : Option Int} {v : Value} (h : ErV W base x v) (k : Below W.heap.size W W1) : ErV W1 base x v := by
 cases x with
 | none => exact h
 | some p =>
  obtain ⟨e, h1, h2, h3⟩ := h
  exact ⟨e, h1, h2, blk_below h3 k⟩
theorem Rd.below {w0 W W1 : World} {r : Nat} {A : Option Addr} {c : Nat} {l : List Int} {s : RS} (h : Rd w0 W r A c l s) (k : Below W.heap.size W W1) : Rd w0 W1 r A c l s := by
 obtain ⟨v, hb, he⟩ := h.blk
 exact ⟨below_then h.low h.low.size k, ⟨v, blk_below hb k, he.below k⟩, h.base, h.at0, h.at1, h.at2⟩
theorem Rd.other {w0 W W1 : World} {r g : Nat} {A : Option Addr} {c : Nat} {l : List Int} {s : RS} {cs : Array Value} {e : TypeId} {fz : Nat × Nat} (h : Rd w0 W r A c l s) (hb : W.heap[g]? = some (.cells cs e fz)) (h1 : e ≠ 97) (h2 : e ≠ 107) (hw : w0.heap.size ≤ g) (k : W.grownBy W1 (some g)) : Rd w0 W1 r A c l s := by
  obtain ⟨v, hr, he⟩ := h.blk
  have ne : ∀ (q : Nat) (cs' : Array Value) (e' : TypeId), W.heap[q]? = some (Obj.cells cs' e' (0, 0)) → e ≠ e' → W1.heap[q]? = W.heap[q]? := fun q cs' e' hq hn => k.block q (blk_lt hq) (fun z => by
    obtain rfl := Option.some.inj z
    rw [hq] at hb
    injection hb with hb
    injection hb with _ hb _
    exact hn hb.symm)
  refine ⟨below_grown h.low hw k, ⟨v, (ne r _ _ hr h1).trans hr, ?_⟩, h.base, h.at0, h.at1, h.at2⟩
  cases hs : s.er with
  | none => rw [hs] at he; exact he
  | some p =>
    rw [hs] at he
    obtain ⟨q, e1, e2, e3⟩ := he
    exact ⟨q, e1, e2, (ne q _ _ e3 h2).trans e3⟩
def failsR (p : Int) (s : RS) : RS := ⟨s.at_, match s.er with | none => some p | some q => some q⟩
def hasR (len n : Int) (s : RS) : RS := if len - s.at_ < n then failsR len s else s
theorem Rd.put {w0 W : World} {r : Nat} {A : Option Addr} {c : Nat} {l : List Int} {s : RS} {v x : Value} {y : Int} {cs : Array Value} (h : Rd w0 W r A c l s) (W1 : World) (hp : Put W W1 r cs 97) (s1 : RS) (hcs : cs = #[.slice A l.length c, .int .i64 s1.at_, x]) (he : ErV W w0.heap.size s1.er x) (h0 : 0 ≤ s1.at_) (h1 : s1.at_ ≤ (l.length : Int) + 4) (h2 : s1.er = none → s1.at_ ≤ (l.length : Int)) : Rd w0 W1 r A c l s1 ∧ W.grownBy W1 (some r) := by
 obtain ⟨v0, hb, _⟩ := h.blk
 subst hcs
 exact ⟨⟨hp.below h.low h.base, ⟨x, hp.blk, he.grown hb (put_grownN hp)⟩, h.base, h0, h1, h2⟩, put_grownN hp⟩
set_option maxHeartbeats 4000000 in
set_option maxRecDepth 100000 in
theorem fails.calls (w0 W : World) (r : Nat) (A : Option Addr) (c : Nat) (l : List Int) (s : RS) (h : Rd w0 W r A c l s) (p : Int) :
  Calls Tryz.prog 57 #[.pointer (some ⟨r, 0, none⟩), .int .i64 p] W fun e w' => e = .returned (.tuple #[]) ∧ Rd w0 w' r A c l (failsR p s) ∧ W.grownBy w' (some r) := by
 have hu1 := Tryz.underlying97
 have hu2 := Tryz.underlying107
 have H := Aside0.mk h
 obtain ⟨v, hb, he⟩ := h.blk
 have hc0 := (blk_cell hb 0).trans rfl
 have hc1 := (blk_cell hb 1).trans rfl
 have hc2 := (blk_cell hb 2).trans rfl
 have hf2 := blk_frozen hb 2
 have HB := Aside0.mk hb
 obtain ⟨at_, er⟩ := s
 cases er with
 | none =>
  obtain rfl : v = .nilIface := he
  clear h hb
  go_enter Tryz.func57, Tryz.ntmps57

  go_wp2_with (first | ((with_reducible refine gate_dst (N := 12) rfl ?_); refine box_event ?hg (N := 12) ?hd (cs := #[.int .i64 p]) (t := 107) ?hr ?_; (case hd => rfl); (case hg => rfl); (case hr => first | (go_simp; done) | (go_simp; rfl)); intro e_ he_ w1 BK_ hb_; have hR := H.out.below hb_; have HR := Aside0.mk hR; have HBK := Aside0.mk BK_; have HGW := Aside0.mk (And.intro (grown_below (k := some r) hb_) (show w0.heap.size ≤ e_ by rw [he_]; exact H.out.low.size)); have HB1 := Aside0.mk (blk_below HB.out hb_); have hd0 := (blk_cell HB1.out 0).trans rfl; have hd1 := (blk_cell HB1.out 1).trans rfl; have hd2 := (blk_cell HB1.out 2).trans rfl; have hg2 := blk_frozen HB1.out 2; clear hR BK_ hb_ hc0 hc1 hc2 hf2 he_))
  refine Go.Great.bodyPost_end0 rfl rfl ?_
  have hx := HR.out.put (v := .nilIface) (y := 0) (x := .iface 103 (.pointer (some ⟨e_, 0, none⟩))) _ (put_set (j := 2) (x := .iface 103 (.pointer (some ⟨e_, 0, none⟩))) HB1.out) ⟨at_, some p⟩ rfl ⟨e_, rfl, HGW.out.2, HBK.out⟩ H.out.at0 H.out.at1 (fun e => by cases e)
  exact ⟨rfl, hx.1, grown_trans HGW.out.1 hx.2⟩
 | some q =>
  obtain ⟨e, rfl, he1, he2⟩ := he
  clear h hb
  go_enter Tryz.func57, Tryz.ntmps57
  go_wp2
  refine Go.Great.bodyPost_end0 rfl rfl ?_
  exact ⟨rfl, H.out, grown_refl W _⟩
theorem failsR_er (p : Int) (s : RS) : ∃ q, (failsR p s).er = some q := by
 unfold failsR
 cases s.er with
 | none => exact ⟨_, rfl⟩
 | some q => exact ⟨q, rfl⟩
set_option maxHeartbeats 4000000 in
set_option maxRecDepth 100000 in
theorem has.calls (w0 W : World) (r : Nat) (A : Option Addr) (c : Nat) (l : List Int) (s : RS) (h : Rd w0 W r A c l s) (n : Int) (hl : l.length ≤ 1099511627776) :
  Calls Tryz.prog 96 #[.pointer (some ⟨r, 0, none⟩), .int .i64 n] W fun e w' => e = .returned (.bool (hasR l.length n s).er.isNone) ∧ Rd w0 w' r A c l (hasR l.length n s) ∧ W.grownBy w' (some r) := by
 have hu1 := Tryz.underlying97
 have H := Aside0.mk h
 obtain ⟨v, hb, he⟩ := h.blk
 have hc0 := (blk_cell hb 0).trans rfl
 have hc1 := (blk_cell hb 1).trans rfl
 have hc2 := (blk_cell hb 2).trans rfl
 have hwr : wrap64 ((l.length : Int) - s.at_) = (l.length : Int) - s.at_ := by have := h.at0; have := h.at1; rw [wrap64_id (by omega) (by omega)]
 by_cases hlt : (l.length : Int) - s.at_ < n
 ·
  have hd : decide (wrap64 ((l.length : Int) - s.at_) < n) = true := by rw [hwr]; exact decide_eq_true hlt
  have HF := Aside0.mk (show hasR l.length n s = failsR l.length s from if_pos hlt)
  clear hlt hwr h hb he hl
  go_enter Tryz.func96, Tryz.ntmps96
  go_wp2
  go_quiet (fail)
  go_wp2_with (go_at_call 57; refine (fails.calls w0 _ r A c l s (H.out.below (pw_below_drewN (Below.refl _ _) _)) l.length).mono ?_; rintro e_ w1 ⟨rfl, hr_, hg_⟩; have HR := Aside0.mk hr_; have HG := Aside0.mk hg_; obtain ⟨v1, hb1, he1⟩ := hr_.blk; obtain ⟨q, hq⟩ := failsR_er (l.length : Int) s; rw [hq] at he1; obtain ⟨ee, rfl, _, _⟩ := he1; have HQ := Aside0.mk hq; have hd2 := (blk_cell hb1 2).trans rfl; clear hr_ hg_ hb1 hq hc0 hc1 hc2)
  go_ret
  rw [HF.out, HQ.out]
  exact ⟨rfl, HR.out, grown_trans (grown_below (pw_below_drewN (Below.refl _ _) _)) HG.out⟩
 ·
  have hd : decide (wrap64 ((l.length : Int) - s.at_) < n) = false := by rw [hwr]; exact decide_eq_false hlt
  have HF := Aside0.mk (show hasR l.length n s = s from if_neg hlt)
  clear hlt hwr h hb hl
  cases hs : s.er with
  | none =>
   rw [hs] at he
   obtain rfl : v = .nilIface := he
   have HS := Aside0.mk hs
   clear hs
   go_enter Tryz.func96, Tryz.ntmps96
   go_wp2
   go_quiet (fail)
   go_wp2
   go_ret
   rw [HF.out, HS.out]
   exact ⟨rfl, H.out.below (pw_below_drewN (Below.refl _ _) _), grown_below (pw_below_drewN (Below.refl _ _) _)⟩
  | some q =>
   rw [hs] at he
   obtain ⟨ee, rfl, _, _⟩ := he
   have HS := Aside0.mk hs
   clear hs
   go_enter Tryz.func96, Tryz.ntmps96
   go_wp2
   go_quiet (fail)
   go_wp2
   go_ret
   rw [HF.out, HS.out]
   exact ⟨rfl, H.out.below (pw_below_drewN (Below.refl _ _) _), grown_below (pw_below_drewN (Below.refl _ _) _)⟩
def beV (l : List Int) : Int := l.foldl (fun a c => a * 256 + c) 0
theorem w64_zero : wrap64 0 = 0 := by rw [wrap64_id (by omega) (by omega)]
theorem rd_getR {l : List Int} {i : Nat} (h : i < l.length) : rd l (i : Int) = l[i] := by
 unfold rd
 rw [Int.toNat_natCast, List.getD_eq_getElem?_getD, List.getElem?_eq_getElem h]
 rfl
theorem beV_snoc (l : List Int) (c : Int) : beV (l ++ [c]) = beV l * 256 + c := by
 unfold beV
 rw [List.foldl_append]
 rfl
theorem beV_take (l : List Int) (i : Nat) (h : i < l.length) : beV (l.take (i + 1)) = beV (l.take i) * 256 + rd l (i : Int) := by
 rw [List.take_succ_eq_append_getElem h, beV_snoc, rd_getR h]
theorem beV_acc (l : List Int) (h : ∀ x ∈ l, 0 ≤ x ∧ x < 256) : ∀ a k : Int, 0 ≤ a → a < k → 0 ≤ l.foldl (fun a c => a * 256 + c) a ∧ l.foldl (fun a c => a * 256 + c) a < k * 256 ^ l.length := by
 induction l with
 | nil => intro a k h0 h1; exact ⟨h0, by simpa using h1⟩
 | cons c l ih =>
  intro a k h0 h1
  have hc := h c (List.mem_cons_self ..)
  have := ih (fun x hx => h x (List.mem_cons_of_mem _ hx)) (a * 256 + c) (k * 256) (by omega) (by omega)
  refine ⟨this.1, ?_⟩
  rw [List.length_cons, Int.pow_succ, Int.mul_comm (256 ^ l.length) 256, ← Int.mul_assoc]
  exact this.2
theorem beV_range (l : List Int) (h : ∀ x ∈ l, 0 ≤ x ∧ x < 256) : 0 ≤ beV l ∧ beV l < 256 ^ l.length := by
 have := beV_acc l h 0 1 (by decide) (by decide)
 rw [Int.one_mul] at this
 exact this
theorem u64_or {s c : Int} (h0 : 0 ≤ s) (h1 : s < 256 ^ 7) (c0 : 0 ≤ c) (c1 : c < 256) : Go.bits .or .u64 (IntKind.u64.wrap (s * 256)) (IntKind.u64.wrap c) = s * 256 + c := by
 have h1' : s < 72057594037927936 := h1
 rw [show IntKind.u64.wrap (s * 256) = s * 256 by rw [IntKind.wrap_u64]; omega, show IntKind.u64.wrap c = c by rw [IntKind.wrap_u64]; omega]
 exact Go.bits_join .u64 64 (by decide) (fun n a b => by rw [IntKind.wrap_u64]; omega) 8 (s * 256) c (by omega) (by omega) (by omega) c0 (by omega) (by omega)
def numR (l : List Int) (n : Nat) (s : RS) : Int × RS :=
 match s.er with
 | some _ => (0, s)
 | none => if (l.length : Int) - s.at_ < n then (0, ⟨s.at_, some (l.length : Int)⟩) else (beV ((l.take (s.at_.toNat + n)).drop s.at_.toNat), ⟨s.at_ + n, none⟩)
set_option maxHeartbeats 8000000 in
set_option maxRecDepth 100000 in
theorem num32.calls (w0 W : World) (r : Nat) (A : Option Addr) (c : Nat) (l : List Int) (s : RS) (h : Rd w0 W r A c l s) (hC : Kd.C (Kd.int .u8) w0 A l.length l) (hcc : l.length ≤ c) (hl : l.length ≤ 1099511627776) (hby : ∀ x ∈ l, 0 ≤ x ∧ x < 256) :
    Calls Tryz.prog 62 #[.pointer (some ⟨r, 0, none⟩), .int .i64 4] W fun e w' => e = .returned (.int .u32 ((numR l 4 s).1)) ∧ Rd w0 w' r A c l (numR l 4 s).2 ∧ W.grownBy w' (some r) := by
  have hu1 := Tryz.underlying97
  have hu2 := Tryz.underlying31
  have hu3 := Tryz.underlying5
  have H := Aside0.mk h
  have HL := Aside0.mk hl
  obtain ⟨v, hb, he⟩ := h.blk
  have hc0 := (blk_cell hb 0).trans rfl
  have hc1 := (blk_cell hb 1).trans rfl
  have hc2 := (blk_cell hb 2).trans rfl
  cases hs : s.er with
  | some q =>
    rw [hs] at he
    obtain ⟨ee, rfl, _, _⟩ := he
    have HS := Aside0.mk (show numR l 4 s = (0, s) by unfold numR; rw [hs])
    clear hs h hb hC hcc hby hl
    go_enter Tryz.func62, Tryz.ntmps62
    go_wp2
    go_ret
    rw [HS.out]
    exact ⟨(by first | rfl | (show Ending.returned (Value.int .i64 0) = Ending.returned (Value.int .i64 (wrap64 0)); rw [w64_zero])), H.out, grown_refl W _⟩
  | none =>
    rw [hs] at he
    obtain rfl : v = .nilIface := he
    by_cases hlt : (l.length : Int) - s.at_ < 4
    · have HF := Aside0.mk (show hasR l.length 4 s = ⟨s.at_, some (l.length : Int)⟩ by unfold hasR failsR; rw [if_pos hlt, hs])
      have HFE := Aside0.mk (show (hasR l.length 4 s).er.isNone = false by rw [HF.out]; rfl)
      have HS := Aside0.mk (show numR l 4 s = (0, ⟨s.at_, some (l.length : Int)⟩) by unfold numR; rw [hs]; exact if_pos hlt)
      clear hs h hb hC hcc hby hl hlt
      go_enter Tryz.func62, Tryz.ntmps62
      go_wp2_with (first | (go_at_call 96; refine (has.calls w0 _ r A c l s H.out 4 HL.out).mono ?_; rintro e_ w1 ⟨rfl, hr_, hg_⟩; (try rw [HF.out] at hr_); (try rw [HFE.out]); have HR := Aside0.mk hr_; have HG := Aside0.mk hg_; obtain ⟨v1, hb1, he1⟩ := hr_.blk; skip; have HB1 := Aside0.mk hb1; have hd0 := (blk_cell hb1 0).trans rfl; have hd1 := (blk_cell hb1 1).trans rfl; have hd2 := (blk_cell hb1 2).trans rfl; have hg1 := blk_frozen hb1 1; clear hr_ hg_ hb1 hc0 hc1 hc2))
      go_ret
      rw [HS.out]
      exact ⟨(by first | rfl | (show Ending.returned (Value.int .i64 0) = Ending.returned (Value.int .i64 (wrap64 0)); rw [w64_zero])), HR.out, HG.out⟩
    · have hle : s.at_ + 4 ≤ (l.length : Int) := by omega
      have HF := Aside0.mk (show hasR l.length 4 s = s by unfold hasR; rw [if_neg hlt])
      have HFE := Aside0.mk (show (hasR l.length 4 s).er.isNone = true by rw [HF.out, hs]; rfl)
      have HS := Aside0.mk (show numR l 4 s = (beV ((l.take (s.at_.toNat + 4)).drop s.at_.toNat), ⟨s.at_ + 4, none⟩) by unfold numR; rw [hs]; exact if_neg hlt)
      obtain ⟨m, hm⟩ : ∃ m : Nat, s.at_ = (m : Int) := ⟨s.at_.toNat, by have := h.at0; omega⟩
      have HM := Aside0.mk hm
      have HLE := Aside0.mk (show m + 4 ≤ l.length by omega)
      have hwv : wrap64 ((m : Int) + 4) = (m : Int) + 4 := by rw [wrap64_id (by omega) (by omega)]
      have HWV := Aside0.mk hwv
      have p1 : (m : Int) ≤ wrap64 ((m : Int) + 4) := by omega
      have p2 : wrap64 ((m : Int) + 4) ≤ (c : Int) := by omega
      have p3 : 0 ≤ wrap64 ((m : Int) + 4) := by omega
      have p0 : (0 : Int) ≤ (m : Int) := by omega
      have HC := Aside0.mk hC
      have HCC := Aside0.mk hcc
      have HBY := Aside0.mk hby
      have HSN := Aside0.mk hs
      rw [hm] at hc1
      clear hs h hb hC hcc hby hl hlt hle hwv
      go_enter Tryz.func62, Tryz.ntmps62
      go_upto_region 4 with ((go_at_call 96; refine (has.calls w0 _ r A c l s H.out 4 HL.out).mono ?_; rintro e_ w1 ⟨rfl, hr_, hg_⟩; (try rw [HF.out] at hr_); (try rw [HFE.out]); have HR := Aside0.mk hr_; have HG := Aside0.mk hg_; obtain ⟨v1, hb1, he1⟩ := hr_.blk; rw [HSN.out] at he1; obtain rfl : v1 = .nilIface := he1; rw [HM.out] at hb1; have HB1 := Aside0.mk hb1; have hd0 := (blk_cell hb1 0).trans rfl; have hd1 := (blk_cell hb1 1).trans rfl; have hd2 := (blk_cell hb1 2).trans rfl; have hg1 := blk_frozen hb1 1; clear hr_ hg_ hb1 hc0 hc1 hc2))
      go_quiet (fail)
      have HRQ := Aside0.mk (HR.out.below (pw_below_drewN (Below.refl _ _) nq))
      have HGQ := Aside0.mk (grown_trans HG.out (grown_below (k := some r) (pw_below_drewN (Below.refl _ _) nq)))
      generalize hwq : w1.drewN nq = wq at HRQ HGQ ⊢
      rw [show (wrap64 ((m : Int) + 4)).toNat - m = 4 by rw [HWV.out]; omega]
      obtain ⟨Az, hAz⟩ : ∃ Az, Az = (if c = m then A else Option.map (fun x : Addr => x.add m) A) := ⟨_, rfl⟩
      rw [← hAz]
      obtain ⟨xs, hxs⟩ : ∃ xs, xs = (l.take (m + 4)).drop m := ⟨_, rfl⟩
      have hxl : xs.length = 4 := by have := HLE.out; rw [hxs, List.length_drop, List.length_take]; omega
      have HCZ := Aside0.mk (show Kd.C (Kd.int .u8) w0 Az 4 xs by
        have hz := Kd.C_mid HC.out (show m ≤ m + 4 by omega) HLE.out HCC.out
        rw [← hxs, hxl, show m * (Kd.int IntKind.u8).sz = m from Nat.mul_one m, ← hAz] at hz
        exact hz)
      have HXB := Aside0.mk (show ∀ x ∈ xs, 0 ≤ x ∧ x < 256 by intro x hx; rw [hxs] at hx; exact HBY.out x (List.mem_of_mem_take (List.mem_of_mem_drop hx)))
      have HXL := Aside0.mk hxl
      have HXS := Aside0.mk hxs
      have HBQ := Aside0.mk (show Below w1.heap.size w1 wq by rw [← hwq]; exact pw_below_drewN (Below.refl _ _) nq)
      clear hAz hxs hxl hwq HC HBY HCC
      go_wp2
      go_loopw [5, 35] (fun u5 u35 wr => ∃ i : Nat, u35 = .int .i64 (i : Int) ∧ i ≤ 4 ∧ u5 = .int .u64 (beV (xs.take i)) ∧ wr = wq) (fun _ u35 _ => 4 - (intOf u35).toNat)
      case atStart => exact ⟨0, rfl, by omega, rfl, rfl⟩
      case round =>
        obtain ⟨i, rfl, hile, rfl, rfl⟩ := hrel
        by_cases hlt : i < 4
        · have p0 : (0 : Int) ≤ (i : Int) := by omega
          have q0 : (i : Int) < (4 : Int) := by omega
          obtain ⟨ad, e0, h0⟩ := Kd.at_int HCZ.out (i : Int) p0 (by omega)
          subst e0
          rw [show ((i : Int)).toNat = i by omega] at h0
          replace h0 := pw_cell_below HRQ.out.low h0
          obtain ⟨cb, hcb⟩ : ∃ cb, cb = rd xs (i : Int) := ⟨_, rfl⟩
          obtain ⟨sb, hsb⟩ : ∃ sb, sb = beV (xs.take i) := ⟨_, rfl⟩
          rw [← hcb] at h0
          rw [← hsb]
          have HSB := Aside0.mk (And.intro hcb hsb)
          have hltb : decide ((i : Int) < (4 : Int)) = true := decide_eq_true q0
          have HLT := Aside0.mk hlt
          have HST := Aside0.mk (beV_take xs i (by have := HXL.out; omega))
          have HRG := Aside0.mk (beV_range (xs.take i) (fun x hx => HXB.out x (List.mem_of_mem_take hx)))
          have HTL := Aside0.mk (show (xs.take i).length ≤ 3 by rw [List.length_take]; omega)
          have HCB := Aside0.mk (show 0 ≤ cb ∧ cb < 256 by rw [hcb, rd_getR (by have := HXL.out; omega)]; exact HXB.out _ (List.getElem_mem _))
          clear hcb hsb
          clear hlt hile
          go_wp2
          go_roundw
          case measure => have hq := HLT.out; simp only [intOf]; omega
          case rel =>
            refine ⟨i + 1, rfl, by have := HLT.out; omega, ?_, by first | trivial | rfl⟩
            rw [HST.out, ← HSB.out.1, ← HSB.out.2]
            have h1 := HRG.out; rw [← HSB.out.2] at h1
            have h2 : sb < 256 ^ 7 := Int.lt_of_lt_of_le h1.2 (by have h3 := Nat.pow_le_pow_right (n := 256) (by decide) (show (xs.take i).length ≤ 7 from Nat.le_trans HTL.out (by decide)); exact_mod_cast h3)
            have h3 := HCB.out
            rw [u64_or h1.1 (by omega) h3.1 h3.2]
        · have hi0 : i = 4 := by omega
          subst hi0
          have hltb : decide (((4 : Nat) : Int) < (4 : Int)) = false := by simp
          clear hlt hile
          rw [show xs.take 4 = xs from by rw [← HXL.out]; exact List.take_length]
          have HRG := Aside0.mk (beV_range xs HXB.out)
          obtain ⟨sb, hsb⟩ : ∃ sb, sb = beV xs := ⟨_, rfl⟩
          rw [← hsb]
          have HSB := Aside0.mk hsb
          clear hsb
          have HB2 := Aside0.mk (show _ = some _ from blk_below HB1.out (show Below w1.heap.size w1 wr from HBQ.out))
          have hd0 := (blk_cell HB2.out 0).trans rfl
          have hd1 := (blk_cell HB2.out 1).trans rfl
          have hd2 := (blk_cell HB2.out 2).trans rfl
          have hg1 := blk_frozen HB2.out 1
          go_wp2
          go_ret
          have hx := HRQ.out.put (v := .nilIface) (y := 0) (x := .nilIface) _ (put_set (j := 1) (x := .int .i64 (wrap64 ((m : Int) + 4))) HB2.out) ⟨s.at_ + 4, none⟩ (by rw [HWV.out, HM.out]; rfl) rfl (by have := HRQ.out.at0; show 0 ≤ s.at_ + 4; omega) (by have := HLE.out; have := HM.out; show s.at_ + 4 ≤ _; omega) (fun _ => by have := HLE.out; have := HM.out; show s.at_ + 4 ≤ _; omega)
          rw [HS.out]
          refine ⟨?_, hx.1, grown_trans HGQ.out hx.2⟩
          rw [HM.out, Int.toNat_natCast, ← HXS.out, ← HSB.out]
          show Ending.returned (Value.int .u32 (sb % 4294967296)) = Ending.returned (Value.int .u32 sb)
          have h1 := HRG.out
          rw [HXL.out, ← HSB.out] at h1
          rw [show sb % 4294967296 = sb by omega]
set_option maxHeartbeats 8000000 in
set_option maxRecDepth 100000 in
theorem num64.calls (w0 W : World) (r : Nat) (A : Option Addr) (c : Nat) (l : List Int) (s : RS) (h : Rd w0 W r A c l s) (hC : Kd.C (Kd.int .u8) w0 A l.length l) (hcc : l.length ≤ c) (hl : l.length ≤ 1099511627776) (hby : ∀ x ∈ l, 0 ≤ x ∧ x < 256) :
    Calls Tryz.prog 64 #[.pointer (some ⟨r, 0, none⟩), .int .i64 8] W fun e w' => e = .returned (.int .i64 (wrap64 (numR l 8 s).1)) ∧ Rd w0 w' r A c l (numR l 8 s).2 ∧ W.grownBy w' (some r) := by
  have hu1 := Tryz.underlying97
  have hu2 := Tryz.underlying31
  have hu3 := Tryz.underlying5
  have H := Aside0.mk h
  have HL := Aside0.mk hl
  obtain ⟨v, hb, he⟩ := h.blk
  have hc0 := (blk_cell hb 0).trans rfl
  have hc1 := (blk_cell hb 1).trans rfl
  have hc2 := (blk_cell hb 2).trans rfl
  cases hs : s.er with
  | some q =>
    rw [hs] at he
    obtain ⟨ee, rfl, _, _⟩ := he
    have HS := Aside0.mk (show numR l 8 s = (0, s) by unfold numR; rw [hs])
    clear hs h hb hC hcc hby hl
    go_enter Tryz.func64, Tryz.ntmps64
    go_wp2
    go_ret
    rw [HS.out]
    exact ⟨(by first | rfl | (show Ending.returned (Value.int .i64 0) = Ending.returned (Value.int .i64 (wrap64 0)); rw [w64_zero])), H.out, grown_refl W _⟩
  | none =>
    rw [hs] at he
    obtain rfl : v = .nilIface := he
    by_cases hlt : (l.length : Int) - s.at_ < 8
    · have HF := Aside0.mk (show hasR l.length 8 s = ⟨s.at_, some (l.length : Int)⟩ by unfold hasR failsR; rw [if_pos hlt, hs])
      have HFE := Aside0.mk (show (hasR l.length 8 s).er.isNone = false by rw [HF.out]; rfl)
      have HS := Aside0.mk (show numR l 8 s = (0, ⟨s.at_, some (l.length : Int)⟩) by unfold numR; rw [hs]; exact if_pos hlt)
      clear hs h hb hC hcc hby hl hlt
      go_enter Tryz.func64, Tryz.ntmps64
      go_wp2_with (first | (go_at_call 96; refine (has.calls w0 _ r A c l s H.out 8 HL.out).mono ?_; rintro e_ w1 ⟨rfl, hr_, hg_⟩; (try rw [HF.out] at hr_); (try rw [HFE.out]); have HR := Aside0.mk hr_; have HG := Aside0.mk hg_; obtain ⟨v1, hb1, he1⟩ := hr_.blk; skip; have HB1 := Aside0.mk hb1; have hd0 := (blk_cell hb1 0).trans rfl; have hd1 := (blk_cell hb1 1).trans rfl; have hd2 := (blk_cell hb1 2).trans rfl; have hg1 := blk_frozen hb1 1; clear hr_ hg_ hb1 hc0 hc1 hc2))
      go_ret
      rw [HS.out]
      exact ⟨(by first | rfl | (show Ending.returned (Value.int .i64 0) = Ending.returned (Value.int .i64 (wrap64 0)); rw [w64_zero])), HR.out, HG.out⟩
    · have hle : s.at_ + 8 ≤ (l.length : Int) := by omega
      have HF := Aside0.mk (show hasR l.length 8 s = s by unfold hasR; rw [if_neg hlt])
      have HFE := Aside0.mk (show (hasR l.length 8 s).er.isNone = true by rw [HF.out, hs]; rfl)
      have HS := Aside0.mk (show numR l 8 s = (beV ((l.take (s.at_.toNat + 8)).drop s.at_.toNat), ⟨s.at_ + 8, none⟩) by unfold numR; rw [hs]; exact if_neg hlt)
      obtain ⟨m, hm⟩ : ∃ m : Nat, s.at_ = (m : Int) := ⟨s.at_.toNat, by have := h.at0; omega⟩
      have HM := Aside0.mk hm
      have HLE := Aside0.mk (show m + 8 ≤ l.length by omega)
      have hwv : wrap64 ((m : Int) + 8) = (m : Int) + 8 := by rw [wrap64_id (by omega) (by omega)]
      have HWV := Aside0.mk hwv
      have p1 : (m : Int) ≤ wrap64 ((m : Int) + 8) := by omega
      have p2 : wrap64 ((m : Int) + 8) ≤ (c : Int) := by omega
      have p3 : 0 ≤ wrap64 ((m : Int) + 8) := by omega
      have p0 : (0 : Int) ≤ (m : Int) := by omega
      have HC := Aside0.mk hC
      have HCC := Aside0.mk hcc
      have HBY := Aside0.mk hby
      have HSN := Aside0.mk hs
      rw [hm] at hc1
      clear hs h hb hC hcc hby hl hlt hle hwv
      go_enter Tryz.func64, Tryz.ntmps64
      go_upto_region 4 with ((go_at_call 96; refine (has.calls w0 _ r A c l s H.out 8 HL.out).mono ?_; rintro e_ w1 ⟨rfl, hr_, hg_⟩; (try rw [HF.out] at hr_); (try rw [HFE.out]); have HR := Aside0.mk hr_; have HG := Aside0.mk hg_; obtain ⟨v1, hb1, he1⟩ := hr_.blk; rw [HSN.out] at he1; obtain rfl : v1 = .nilIface := he1; rw [HM.out] at hb1; have HB1 := Aside0.mk hb1; have hd0 := (blk_cell hb1 0).trans rfl; have hd1 := (blk_cell hb1 1).trans rfl; have hd2 := (blk_cell hb1 2).trans rfl; have hg1 := blk_frozen hb1 1; clear hr_ hg_ hb1 hc0 hc1 hc2))
      go_quiet (fail)
      have HRQ := Aside0.mk (HR.out.below (pw_below_drewN (Below.refl _ _) nq))
      have HGQ := Aside0.mk (grown_trans HG.out (grown_below (k := some r) (pw_below_drewN (Below.refl _ _) nq)))
      generalize hwq : w1.drewN nq = wq at HRQ HGQ ⊢
      rw [show (wrap64 ((m : Int) + 8)).toNat - m = 8 by rw [HWV.out]; omega]
      obtain ⟨Az, hAz⟩ : ∃ Az, Az = (if c = m then A else Option.map (fun x : Addr => x.add m) A) := ⟨_, rfl⟩
      rw [← hAz]
      obtain ⟨xs, hxs⟩ : ∃ xs, xs = (l.take (m + 8)).drop m := ⟨_, rfl⟩
      have hxl : xs.length = 8 := by have := HLE.out; rw [hxs, List.length_drop, List.length_take]; omega
      have HCZ := Aside0.mk (show Kd.C (Kd.int .u8) w0 Az 8 xs by
        have hz := Kd.C_mid HC.out (show m ≤ m + 8 by omega) HLE.out HCC.out
        rw [← hxs, hxl, show m * (Kd.int IntKind.u8).sz = m from Nat.mul_one m, ← hAz] at hz
        exact hz)
      have HXB := Aside0.mk (show ∀ x ∈ xs, 0 ≤ x ∧ x < 256 by intro x hx; rw [hxs] at hx; exact HBY.out x (List.mem_of_mem_take (List.mem_of_mem_drop hx)))
      have HXL := Aside0.mk hxl
      have HXS := Aside0.mk hxs
      have HBQ := Aside0.mk (show Below w1.heap.size w1 wq by rw [← hwq]; exact pw_below_drewN (Below.refl _ _) nq)
      clear hAz hxs hxl hwq HC HBY HCC
      go_wp2
      go_loopw [5, 35] (fun u5 u35 wr => ∃ i : Nat, u35 = .int .i64 (i : Int) ∧ i ≤ 8 ∧ u5 = .int .u64 (beV (xs.take i)) ∧ wr = wq) (fun _ u35 _ => 8 - (intOf u35).toNat)
      case atStart => exact ⟨0, rfl, by omega, rfl, rfl⟩
      case round =>
        obtain ⟨i, rfl, hile, rfl, rfl⟩ := hrel
        by_cases hlt : i < 8
        · have p0 : (0 : Int) ≤ (i : Int) := by omega
          have q0 : (i : Int) < (8 : Int) := by omega
          obtain ⟨ad, e0, h0⟩ := Kd.at_int HCZ.out (i : Int) p0 (by omega)
          subst e0
          rw [show ((i : Int)).toNat = i by omega] at h0
          replace h0 := pw_cell_below HRQ.out.low h0
          obtain ⟨cb, hcb⟩ : ∃ cb, cb = rd xs (i : Int) := ⟨_, rfl⟩
          obtain ⟨sb, hsb⟩ : ∃ sb, sb = beV (xs.take i) := ⟨_, rfl⟩
          rw [← hcb] at h0
          rw [← hsb]
          have HSB := Aside0.mk (And.intro hcb hsb)
          have hltb : decide ((i : Int) < (8 : Int)) = true := decide_eq_true q0
          have HLT := Aside0.mk hlt
          have HST := Aside0.mk (beV_take xs i (by have := HXL.out; omega))
          have HRG := Aside0.mk (beV_range (xs.take i) (fun x hx => HXB.out x (List.mem_of_mem_take hx)))
          have HTL := Aside0.mk (show (xs.take i).length ≤ 7 by rw [List.length_take]; omega)
          have HCB := Aside0.mk (show 0 ≤ cb ∧ cb < 256 by rw [hcb, rd_getR (by have := HXL.out; omega)]; exact HXB.out _ (List.getElem_mem _))
          clear hcb hsb
          clear hlt hile
          go_wp2
          go_roundw
          case measure => have hq := HLT.out; simp only [intOf]; omega
          case rel =>
            refine ⟨i + 1, rfl, by have := HLT.out; omega, ?_, by first | trivial | rfl⟩
            rw [HST.out, ← HSB.out.1, ← HSB.out.2]
            have h1 := HRG.out; rw [← HSB.out.2] at h1
            have h2 : sb < 256 ^ 7 := Int.lt_of_lt_of_le h1.2 (by have h3 := Nat.pow_le_pow_right (n := 256) (by decide) (show (xs.take i).length ≤ 7 from Nat.le_trans HTL.out (by decide)); exact_mod_cast h3)
            have h3 := HCB.out
            rw [u64_or h1.1 (by omega) h3.1 h3.2]
        · have hi0 : i = 8 := by omega
          subst hi0
          have hltb : decide (((8 : Nat) : Int) < (8 : Int)) = false := by simp
          clear hlt hile
          rw [show xs.take 8 = xs from by rw [← HXL.out]; exact List.take_length]
          have HRG := Aside0.mk (beV_range xs HXB.out)
          obtain ⟨sb, hsb⟩ : ∃ sb, sb = beV xs := ⟨_, rfl⟩
          rw [← hsb]
          have HSB := Aside0.mk hsb
          clear hsb
          have HB2 := Aside0.mk (show _ = some _ from blk_below HB1.out (show Below w1.heap.size w1 wr from HBQ.out))
          have hd0 := (blk_cell HB2.out 0).trans rfl
          have hd1 := (blk_cell HB2.out 1).trans rfl
          have hd2 := (blk_cell HB2.out 2).trans rfl
          have hg1 := blk_frozen HB2.out 1
          go_wp2
          go_ret
          have hx := HRQ.out.put (v := .nilIface) (y := 0) (x := .nilIface) _ (put_set (j := 1) (x := .int .i64 (wrap64 ((m : Int) + 8))) HB2.out) ⟨s.at_ + 8, none⟩ (by rw [HWV.out, HM.out]; rfl) rfl (by have := HRQ.out.at0; show 0 ≤ s.at_ + 8; omega) (by have := HLE.out; have := HM.out; show s.at_ + 8 ≤ _; omega) (fun _ => by have := HLE.out; have := HM.out; show s.at_ + 8 ≤ _; omega)
          rw [HS.out]
          refine ⟨?_, hx.1, grown_trans HGQ.out hx.2⟩
          rw [HM.out, Int.toNat_natCast, ← HXS.out, ← HSB.out]
          first | rfl | (rw [← i64_w]; rfl)
theorem numR_range (l : List Int) (n : Nat) (s : RS) (hby : ∀ x ∈ l, 0 ≤ x ∧ x < 256) : 0 ≤ (numR l n s).1 ∧ (numR l n s).1 < 256 ^ n := by
 have hp : (0 : Int) < 256 ^ n := Int.pow_pos (by decide)
 unfold numR
 cases s.er with
 | some q => exact ⟨Int.le_refl _, hp⟩
 | none =>
  by_cases hlt : (l.length : Int) - s.at_ < n
  ·
   show 0 ≤ (if (l.length : Int) - s.at_ < n then ((0 : Int), _) else _ : Int × RS).1 ∧ (if (l.length : Int) - s.at_ < n then ((0 : Int), _) else _ : Int × RS).1 < _
   rw [if_pos hlt]
   exact ⟨Int.le_refl _, hp⟩
  ·
   show 0 ≤ (if (l.length : Int) - s.at_ < n then ((0 : Int), _) else _ : Int × RS).1 ∧ (if (l.length : Int) - s.at_ < n then ((0 : Int), _) else _ : Int × RS).1 < _
   rw [if_neg hlt]
   have h1 := beV_range ((l.take (s.at_.toNat + n)).drop s.at_.toNat) (fun x hx => hby x (List.mem_of_mem_take (List.mem_of_mem_drop hx)))
   refine ⟨h1.1, Int.lt_of_lt_of_le h1.2 ?_⟩
   have h3 := Nat.pow_le_pow_right (n := 256) (by decide) (show ((l.take (s.at_.toNat + n)).drop s.at_.toNat).length ≤ n by rw [List.length_drop, List.length_take]; omega)
   rw [show (256 : Int) = ((256 : Nat) : Int) from rfl, ← Int.natCast_pow, ← Int.natCast_pow]
   exact Int.ofNat_le.2 h3
def countR (l : List Int) (lim : Int) (s : RS) : Int × RS :=
 if (numR l 4 s).1 > lim then (0, failsR s.at_ (numR l 4 s).2) else match (numR l 4 s).2.er with | none => ((numR l 4 s).1, (numR l 4 s).2) | some _ => (0, (numR l 4 s).2)
set_option maxHeartbeats 8000000 in
set_option maxRecDepth 100000 in
theorem count.calls (w0 W : World) (r : Nat) (A : Option Addr) (c : Nat) (l : List Int) (s : RS) (h : Rd w0 W r A c l s) (hC : Kd.C (Kd.int .u8) w0 A l.length l) (hcc : l.length ≤ c) (hl : l.length ≤ 1099511627776) (hby : ∀ x ∈ l, 0 ≤ x ∧ x < 256) (lim : Int) :
  Calls Tryz.prog 60 #[.pointer (some ⟨r, 0, none⟩), .int .i64 lim] W fun e w' => e = .returned (.int .i64 (countR l lim s).1) ∧ Rd w0 w' r A c l (countR l lim s).2 ∧ W.grownBy w' (some r) := by
 have hu1 := Tryz.underlying97
 have H := Aside0.mk h
 have HH := Aside0.mk (And.intro hC (And.intro hcc (And.intro hl hby)))
 obtain ⟨v, hb, he⟩ := h.blk
 have hc0 := (blk_cell hb 0).trans rfl
 have hc1 := (blk_cell hb 1).trans rfl
 have hc2 := (blk_cell hb 2).trans rfl
 have hrg := numR_range l 4 s hby
 clear h hb he hC hcc hl hby
 obtain ⟨nv, hnv⟩ : ∃ nv, nv = (numR l 4 s).1 := ⟨_, rfl⟩
 obtain ⟨s1, hs1⟩ : ∃ s1, s1 = (numR l 4 s).2 := ⟨_, rfl⟩
 have HN := Aside0.mk hnv
 have HS := Aside0.mk hs1
 rw [← hnv] at hrg
 have h256 : (256 : Int) ^ 4 = 4294967296 := by decide
 rw [h256] at hrg
 have hwr : wrap64 nv = nv := by rw [wrap64_id (by omega) (by omega)]
 have HWR := Aside0.mk hwr
 by_cases hgt : nv > lim
 ·
  have hd : decide (wrap64 nv > lim) = true := by rw [hwr]; exact decide_eq_true hgt
  have HF := Aside0.mk (show countR l lim s = (0, failsR s.at_ s1) by unfold countR; rw [← hnv, ← hs1, if_pos hgt])
  clear hgt hwr hrg hnv hs1 h256
  go_enter Tryz.func60, Tryz.ntmps60
  go_wp2_with (first | (go_at_call 62; refine (num32.calls w0 _ r A c l s H.out HH.out.1 HH.out.2.1 HH.out.2.2.1 HH.out.2.2.2).mono ?_; rw [← HN.out, ← HS.out]; rintro e_ w1 ⟨rfl, hr_, hg_⟩; have HR := Aside0.mk hr_; have HG := Aside0.mk hg_; obtain ⟨v1, hb1, he1⟩ := hr_.blk; skip; have hd0 := (blk_cell hb1 0).trans rfl; have hd1 := (blk_cell hb1 1).trans rfl; have hd2 := (blk_cell hb1 2).trans rfl; have hg1 := blk_frozen hb1 1; have HB1 := Aside0.mk hb1; clear hr_ hg_ hb1 hc0 hc1 hc2) | (go_at_call 57; refine (fails.calls w0 _ r A c l s1 HR.out s.at_).mono ?_; rintro e_ w2 ⟨rfl, hr_, hg_⟩; have HR2 := Aside0.mk hr_; have HG2 := Aside0.mk hg_; obtain ⟨v2, hb2, he2⟩ := hr_.blk; obtain ⟨q, hq⟩ := failsR_er s.at_ s1; rw [hq] at he2; obtain ⟨ee, rfl, _, _⟩ := he2; have hz2 := (blk_cell hb2 2).trans rfl; clear hr_ hg_ hb2 hq hd0 hd1 hd2))
  go_ret
  rw [HF.out]
  exact ⟨rfl, HR2.out, grown_trans HG.out HG2.out⟩
 ·
  have hd : decide (wrap64 nv > lim) = false := by rw [hwr]; exact decide_eq_false hgt
  cases he1s : s1.er with
  | none =>
   have HE1 := Aside0.mk he1s
   have HF := Aside0.mk (show countR l lim s = (nv, s1) by unfold countR; rw [← hnv, ← hs1, if_neg hgt, he1s])
   clear hgt hwr hrg hnv hs1 h256 he1s
   go_enter Tryz.func60, Tryz.ntmps60
   go_wp2_with (first | (go_at_call 62; refine (num32.calls w0 _ r A c l s H.out HH.out.1 HH.out.2.1 HH.out.2.2.1 HH.out.2.2.2).mono ?_; rw [← HN.out, ← HS.out]; rintro e_ w1 ⟨rfl, hr_, hg_⟩; have HR := Aside0.mk hr_; have HG := Aside0.mk hg_; obtain ⟨v1, hb1, he1⟩ := hr_.blk; rw [HE1.out] at he1; obtain rfl : v1 = .nilIface := he1; have hd0 := (blk_cell hb1 0).trans rfl; have hd1 := (blk_cell hb1 1).trans rfl; have hd2 := (blk_cell hb1 2).trans rfl; have hg1 := blk_frozen hb1 1; have HB1 := Aside0.mk hb1; clear hr_ hg_ hb1 hc0 hc1 hc2))
   go_ret
   rw [HF.out]
   refine ⟨?_, HR.out, HG.out⟩
   show Ending.returned (Value.int .i64 (wrap64 nv)) = Ending.returned (Value.int .i64 nv)
   rw [HWR.out]
  | some q =>
   have HE1 := Aside0.mk he1s
   have HF := Aside0.mk (show countR l lim s = (0, s1) by unfold countR; rw [← hnv, ← hs1, if_neg hgt, he1s])
   clear hgt hwr hrg hnv hs1 h256 he1s
   go_enter Tryz.func60, Tryz.ntmps60
   go_wp2_with (first | (go_at_call 62; refine (num32.calls w0 _ r A c l s H.out HH.out.1 HH.out.2.1 HH.out.2.2.1 HH.out.2.2.2).mono ?_; rw [← HN.out, ← HS.out]; rintro e_ w1 ⟨rfl, hr_, hg_⟩; have HR := Aside0.mk hr_; have HG := Aside0.mk hg_; obtain ⟨v1, hb1, he1⟩ := hr_.blk; rw [HE1.out] at he1; obtain ⟨ee, rfl, _, _⟩ := he1; have hd0 := (blk_cell hb1 0).trans rfl; have hd1 := (blk_cell hb1 1).trans rfl; have hd2 := (blk_cell hb1 2).trans rfl; have hg1 := blk_frozen hb1 1; have HB1 := Aside0.mk hb1; clear hr_ hg_ hb1 hc0 hc1 hc2))
   go_ret
   rw [HF.out]
   exact ⟨rfl, HR.out, HG.out⟩
end Go.Proofs.YtiaohbbafaaibabGreatDoor.P
