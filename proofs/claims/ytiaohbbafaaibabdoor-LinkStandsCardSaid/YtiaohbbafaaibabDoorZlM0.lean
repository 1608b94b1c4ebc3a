/- OWN TEXT and printed parts of this claim, laid together: P0, HArr, HObjN, HMap, Ev, HObjS, HSymM, HSymP. -/
import Derived.Test.YtiaohbbafaaibabDoorProg
import Derived.Test.YtiaohbbafaaibabDoorZlWWords
import Derived.Test.YtiaohbbafaaibabDoorZlWLast
import Derived.Test.YtiaohbbafaaibabDoorZlWTab
import Derived.Test.YtiaohbbafaaibabDoorZlWApart
import Derived.Test.YtiaohbbafaaibabDoorZlWFoot
import Derived.Test.YtiaohbbafaaibabDoorZlWKept
import Derived.Test.YtiaohbbafaaibabDoorZlWShare
import Derived.Test.YtiaohbbafaaibabDoorZlWN
import Derived.Test.YtiaohbbafaaibabDoorZlWEqStruct
import Derived.Test.YtiaohbbafaaibabDoorZlWRepsOne
import Derived.Test.YtiaohbbafaaibabDoorZlWInv
import Derived.Test.YtiaohbbafaaibabDoorZlWGuard
import Derived.Test.YtiaohbbafaaibabDoorZlWMore
import Derived.Below
import Derived.Deep.Draws
import Derived.Deep.AppendLies
import Derived.Maps.AppendAt
import Derived.OwnWalk
import Derived.Laws.BytesArg
import Derived.Laws.MakeOwn
import Derived.Laws.OwnMore
import Derived.Deep.OwnRows
import Derived.Tactics
import Derived.Lib.ConvBytes
import Derived.Laws.Slices
import Derived.WalkKit
import Derived.KernelRfl
import Derived.RowKit3
import Derived.Deep.LoopGhost
import Derived.Deep.QuietTactic
import Derived.BigQuiet
import Derived.WideLaws
import Derived.Deep.DeepCutAuto
import Derived.Deep.CutBlock
import Derived.Deep.RegionHeld3
import Derived.Laws.Rows
import Derived.Lib.AppendStr
import Derived.ArgAppend
import Derived.Laws.IdiomCopy
import Derived.OrdersHeld
import Derived.Laws.BitsLemmas
import Derived.RowKit
import Derived.ChangeKeysEq
import Derived.Laws.CopyRow
import Derived.Laws.Tables
import Derived.Laws.RangeString
import Derived.Laws.RangeAny
import Derived.LoopTactic
import Derived.Tactics2
import Derived.Handy
import Derived.Maps.OwnSet
import Derived.OpenShut
import Derived.StringKeys
import Derived.MapViews
import Derived.ProofKit
import Derived.MapKept
import Derived.ChangeMaps5
import Derived.Great.Walk
/- What the Go functions named below come to, as plain functions, each with its proof; written by this session's prt.py over the kit's print. -/
namespace Go.Proofs.YtiaohbbafaaibabDoor.P
open Go.RowKit Go.Proofs.YtiaohbbafaaibabDoorW.PrintWords Go.Proofs.YtiaohbbafaaibabDoorW.PrintLast Go.Proofs.YtiaohbbafaaibabDoorW.PrintMore
attribute [local go_sem] max2_int min2_int max_two min_two max_three min_three max_four min_four   -- for this text's walks alone
set_option linter.unusedVariables false
set_option linter.unusedSimpArgs false



def errW : Option Int → Value
 | none => .nilIface
 | some c => .iface 0 (.int .i64 c)
theorem errW_none : errW none = .nilIface := rfl
theorem errW_some (c : Int) : errW (some c) = .iface 0 (.int .i64 c) := rfl

theorem info2 : (Tryd.prog.info? 2).map (fun i => (i.zero, i.size, i.bytes)) = some (some (.int .i64 0), 1, 8) := by kernel_rfl
theorem info27 : (Tryd.prog.info? 27).map (fun i => (i.zero, i.size, i.bytes)) = some (some (.agg #[(.string ⟨#[]⟩), (.slice none 0 0), (.int .i64 0), (.slice none 0 0), (.slice none 0 0), (.slice none 0 0)]), 6, 120) := by kernel_rfl
theorem info63 : (Tryd.prog.info? 63).map (fun i => (i.zero, i.size, i.bytes)) = some (some (.int .u32 0), 1, 4) := by kernel_rfl
theorem info68 : (Tryd.prog.info? 68).map (fun i => (i.zero, i.size, i.bytes)) = some (some (.agg #[(.int .i64 0), (.int .i64 0)]), 2, 16) := by kernel_rfl
theorem info75 : (Tryd.prog.info? 75).map (fun i => (i.zero, i.size, i.bytes)) = some (some (.agg #[(.string ⟨#[]⟩), (.int .i8 0), (.int .i64 0)]), 3, 32) := by kernel_rfl
-- the values' own types
structure S75 where
  f0 : ByteArray
  f1 : Int
  f2 : Int
def z75 : S75 := ⟨(⟨#[]⟩ : ByteArray), (0 : Int), (0 : Int)⟩
def k75 : Kd S75 := Kd.iso (Kd.pair Kd.string (Kd.pair (Kd.int .i8) (Kd.int .i64))) (fun x : S75 => (x.f0, x.f1, x.f2))
theorem k75_open {w : World} {x : S75} {cs : List Value} (h : k75.K w x cs) : cs = [.string x.f0, .int .i8 x.f1, .int .i64 x.f2] := by
 obtain ⟨_, _, rfl, rfl, ⟨_, _, rfl, rfl, rfl⟩⟩ := h
 exact rfl
theorem k75_mkM (w : World) (base : Nat) (ok : Nat → Prop) (x : S75)  : k75.M w base ok x [.string x.f0, .int .i8 x.f1, .int .i64 x.f2] := ⟨[.string x.f0], [.int .i8 x.f1, .int .i64 x.f2], rfl, rfl, ⟨[.int .i8 x.f1], [.int .i64 x.f2], rfl, rfl, rfl⟩⟩
def rd_T75 (xs : List S75) (i : Int) : S75 := xs.getD i.toNat z75
theorem at_T75 {w : World} {A : Option Addr} {n : Nat} {xs : List S75} (h : Kd.C k75 w A n xs) (i : Int) (h0 : 0 ≤ i) (h1 : i < n) : ∃ ad , A = some ad ∧ w.cell? (ad.add (i.toNat * 3)) = some (.string (rd_T75 xs i).f0) ∧ w.cell? ⟨(ad.add (i.toNat * 3)).block, (ad.add (i.toNat * 3)).off + 1, none⟩ = some (.int .i8 (rd_T75 xs i).f1) ∧ w.cell? ⟨(ad.add (i.toNat * 3)).block, (ad.add (i.toNat * 3)).off + 2, none⟩ = some (.int .i64 (rd_T75 xs i).f2) := by
 obtain ⟨ad, c, e, _, hK, hc0⟩ := Kd.C_get h z75 i h0 h1
 have hc : ∀ j u, c[j]? = some u → w.cell? (ad.add (i.toNat * 3 + j)) = some u := hc0
 obtain rfl := k75_open hK
 exact ⟨ad, e, hc 0 _ rfl, by rw [← add_field _ _ 1 (by omega)]; exact hc 1 _ rfl, by rw [← add_field _ _ 2 (by omega)]; exact hc 2 _ rfl⟩

structure S68 where
  f0 : Int
  f1 : Int
def z68 : S68 := ⟨(0 : Int), (0 : Int)⟩
def k68 : Kd S68 := Kd.iso (Kd.pair (Kd.int .i64) (Kd.int .i64)) (fun x : S68 => (x.f0, x.f1))
theorem k68_open {w : World} {x : S68} {cs : List Value} (h : k68.K w x cs) : cs = [.int .i64 x.f0, .int .i64 x.f1] := by
 obtain ⟨_, _, rfl, rfl, rfl⟩ := h
 exact rfl
theorem k68_mkM (w : World) (base : Nat) (ok : Nat → Prop) (x : S68)  : k68.M w base ok x [.int .i64 x.f0, .int .i64 x.f1] := ⟨[.int .i64 x.f0], [.int .i64 x.f1], rfl, rfl, rfl⟩
def rd_T68 (xs : List S68) (i : Int) : S68 := xs.getD i.toNat z68
theorem at_T68 {w : World} {A : Option Addr} {n : Nat} {xs : List S68} (h : Kd.C k68 w A n xs) (i : Int) (h0 : 0 ≤ i) (h1 : i < n) : ∃ ad , A = some ad ∧ w.cell? (ad.add (i.toNat * 2)) = some (.int .i64 (rd_T68 xs i).f0) ∧ w.cell? ⟨(ad.add (i.toNat * 2)).block, (ad.add (i.toNat * 2)).off + 1, none⟩ = some (.int .i64 (rd_T68 xs i).f1) := by
 obtain ⟨ad, c, e, _, hK, hc0⟩ := Kd.C_get h z68 i h0 h1
 have hc : ∀ j u, c[j]? = some u → w.cell? (ad.add (i.toNat * 2 + j)) = some u := hc0
 obtain rfl := k68_open hK
 exact ⟨ad, e, hc 0 _ rfl, by rw [← add_field _ _ 1 (by omega)]; exact hc 1 _ rfl⟩

structure S127 where
  f0 : Int
  f1 : Int
  f2 : Int
  f3 : Int
  f4 : Int
structure S27 where
  f0 : ByteArray
  f1 : (List Int)
  f2 : Int
  f3 : (List Int)
  f4 : (List S75)
  f5 : (List S68)
def z27 : S27 := ⟨(⟨#[]⟩ : ByteArray), ([] : List Int), (0 : Int), ([] : List Int), ([] : List S75), ([] : List S68)⟩
def k27 : Kd S27 := Kd.iso (Kd.pair Kd.string (Kd.pair (Kd.slice 63 (Kd.int .u32)) (Kd.pair (Kd.int .i64) (Kd.pair (Kd.slice 2 (Kd.int .i64)) (Kd.pair (Kd.slice 75 k75) (Kd.slice 68 k68)))))) (fun x : S27 => (x.f0, x.f1, x.f2, x.f3, x.f4, x.f5))
theorem k27_open {w : World} {x : S27} {cs : List Value} (h : k27.K w x cs) : ∃ A1 c1 A3 c3 A4 c4 A5 c5, cs = [.string x.f0, .slice A1 x.f1.length c1, .int .i64 x.f2, .slice A3 x.f3.length c3, .slice A4 x.f4.length c4, .slice A5 x.f5.length c5] ∧ x.f1.length ≤ c1 ∧ (Kd.int .u32).C w A1 x.f1.length x.f1 ∧ x.f3.length ≤ c3 ∧ (Kd.int .i64).C w A3 x.f3.length x.f3 ∧ x.f4.length ≤ c4 ∧ k75.C w A4 x.f4.length x.f4 ∧ x.f5.length ≤ c5 ∧ k68.C w A5 x.f5.length x.f5 := by
 obtain ⟨_, _, rfl, rfl, ⟨_, _, rfl, ⟨A1, c1, rfl, l1, g1⟩, ⟨_, _, rfl, rfl, ⟨_, _, rfl, ⟨A3, c3, rfl, l3, g3⟩, ⟨_, _, rfl, ⟨A4, c4, rfl, l4, g4⟩, ⟨A5, c5, rfl, l5, g5⟩⟩⟩⟩⟩⟩ := h
 exact ⟨A1, c1, A3, c3, A4, c4, A5, c5, rfl, l1, g1, l3, g3, l4, g4, l5, g5⟩
theorem k27_mkM (w : World) (base : Nat) (ok : Nat → Prop) (x : S27) {v1 : Value} (g1 : (Kd.int .u32).R 63 w base ok v1 x.f1) {v3 : Value} (g3 : (Kd.int .i64).R 2 w base ok v3 x.f3) {v4 : Value} (g4 : k75.R 75 w base ok v4 x.f4) {v5 : Value} (g5 : k68.R 68 w base ok v5 x.f5) : k27.M w base ok x [.string x.f0, v1, .int .i64 x.f2, v3, v4, v5] := ⟨[.string x.f0], [v1, .int .i64 x.f2, v3, v4, v5], rfl, rfl, ⟨[v1], [.int .i64 x.f2, v3, v4, v5], rfl, ⟨v1, rfl, g1⟩, ⟨[.int .i64 x.f2], [v3, v4, v5], rfl, rfl, ⟨[v3], [v4, v5], rfl, ⟨v3, rfl, g3⟩, ⟨[v4], [v5], rfl, ⟨v4, rfl, g4⟩, ⟨v5, rfl, g5⟩⟩⟩⟩⟩⟩
def rd_T27 (xs : List S27) (i : Int) : S27 := xs.getD i.toNat z27
theorem at_T27 {w : World} {A : Option Addr} {n : Nat} {xs : List S27} (h : Kd.C k27 w A n xs) (i : Int) (h0 : 0 ≤ i) (h1 : i < n) : ∃ ad A1 c1 A3 c3 A4 c4 A5 c5, A = some ad ∧ w.cell? (ad.add (i.toNat * 6)) = some (.string (rd_T27 xs i).f0) ∧ w.cell? ⟨(ad.add (i.toNat * 6)).block, (ad.add (i.toNat * 6)).off + 1, none⟩ = some (.slice A1 (rd_T27 xs i).f1.length c1) ∧ w.cell? ⟨(ad.add (i.toNat * 6)).block, (ad.add (i.toNat * 6)).off + 2, none⟩ = some (.int .i64 (rd_T27 xs i).f2) ∧ w.cell? ⟨(ad.add (i.toNat * 6)).block, (ad.add (i.toNat * 6)).off + 3, none⟩ = some (.slice A3 (rd_T27 xs i).f3.length c3) ∧ w.cell? ⟨(ad.add (i.toNat * 6)).block, (ad.add (i.toNat * 6)).off + 4, none⟩ = some (.slice A4 (rd_T27 xs i).f4.length c4) ∧ w.cell? ⟨(ad.add (i.toNat * 6)).block, (ad.add (i.toNat * 6)).off + 5, none⟩ = some (.slice A5 (rd_T27 xs i).f5.length c5) ∧ (rd_T27 xs i).f1.length ≤ c1 ∧ (Kd.int .u32).C w A1 (rd_T27 xs i).f1.length (rd_T27 xs i).f1 ∧ (rd_T27 xs i).f3.length ≤ c3 ∧ (Kd.int .i64).C w A3 (rd_T27 xs i).f3.length (rd_T27 xs i).f3 ∧ (rd_T27 xs i).f4.length ≤ c4 ∧ k75.C w A4 (rd_T27 xs i).f4.length (rd_T27 xs i).f4 ∧ (rd_T27 xs i).f5.length ≤ c5 ∧ k68.C w A5 (rd_T27 xs i).f5.length (rd_T27 xs i).f5 := by
 obtain ⟨ad, c, e, _, hK, hc0⟩ := Kd.C_get h z27 i h0 h1
 have hc : ∀ j u, c[j]? = some u → w.cell? (ad.add (i.toNat * 6 + j)) = some u := hc0
 obtain ⟨A1, c1, A3, c3, A4, c4, A5, c5, rfl, l1, g1, l3, g3, l4, g4, l5, g5⟩ := k27_open hK
 exact ⟨ad, A1, c1, A3, c3, A4, c4, A5, c5, e, hc 0 _ rfl, by rw [← add_field _ _ 1 (by omega)]; exact hc 1 _ rfl, by rw [← add_field _ _ 2 (by omega)]; exact hc 2 _ rfl, by rw [← add_field _ _ 3 (by omega)]; exact hc 3 _ rfl, by rw [← add_field _ _ 4 (by omega)]; exact hc 4 _ rfl, by rw [← add_field _ _ 5 (by omega)]; exact hc 5 _ rfl, l1, g1, l3, g3, l4, g4, l5, g5⟩

structure S59 where
  f0 : Int
  f1 : Int
def z59 : S59 := ⟨(0 : Int), (0 : Int)⟩
def k59 : Kd S59 := Kd.iso (Kd.pair (Kd.int .i64) (Kd.int .i64)) (fun x : S59 => (x.f0, x.f1))
theorem k59_open {w : World} {x : S59} {cs : List Value} (h : k59.K w x cs) : cs = [.int .i64 x.f0, .int .i64 x.f1] := by
 obtain ⟨_, _, rfl, rfl, rfl⟩ := h
 exact rfl
theorem k59_mkM (w : World) (base : Nat) (ok : Nat → Prop) (x : S59)  : k59.M w base ok x [.int .i64 x.f0, .int .i64 x.f1] := ⟨[.int .i64 x.f0], [.int .i64 x.f1], rfl, rfl, rfl⟩
def rd_T59 (xs : List S59) (i : Int) : S59 := xs.getD i.toNat z59
theorem at_T59 {w : World} {A : Option Addr} {n : Nat} {xs : List S59} (h : Kd.C k59 w A n xs) (i : Int) (h0 : 0 ≤ i) (h1 : i < n) : ∃ ad , A = some ad ∧ w.cell? (ad.add (i.toNat * 2)) = some (.int .i64 (rd_T59 xs i).f0) ∧ w.cell? ⟨(ad.add (i.toNat * 2)).block, (ad.add (i.toNat * 2)).off + 1, none⟩ = some (.int .i64 (rd_T59 xs i).f1) := by
 obtain ⟨ad, c, e, _, hK, hc0⟩ := Kd.C_get h z59 i h0 h1
 have hc : ∀ j u, c[j]? = some u → w.cell? (ad.add (i.toNat * 2 + j)) = some u := hc0
 obtain rfl := k59_open hK
 exact ⟨ad, e, hc 0 _ rfl, by rw [← add_field _ _ 1 (by omega)]; exact hc 1 _ rfl⟩

def rd_L17 (xs : List (List S59)) (i : Int) : (List S59) := xs.getD i.toNat ([] : List S59)
theorem at_L17 {w : World} {A : Option Addr} {n : Nat} {xs : List (List S59)} (h : Kd.C (Kd.slice 59 k59) w A n xs) (i : Int) (h0 : 0 ≤ i) (h1 : i < n) : ∃ ad A0 c0, A = some ad ∧ w.cell? (ad.add i.toNat) = some (.slice A0 (rd_L17 xs i).length c0) ∧ (rd_L17 xs i).length ≤ c0 ∧ k59.C w A0 (rd_L17 xs i).length (rd_L17 xs i) := by
 obtain ⟨ad, c, e, _, hK, hc0⟩ := Kd.C_get h ([] : List S59) i h0 h1
 have hc : ∀ j u, c[j]? = some u → w.cell? (ad.add (i.toNat * 1 + j)) = some u := hc0
 obtain ⟨A0, c0, rfl, l0, g0⟩ := hK
 exact ⟨ad, A0, c0, e, by have hq := hc 0 _ rfl; rwa [Nat.mul_one, Nat.add_zero] at hq, l0, g0⟩

end Go.Proofs.YtiaohbbafaaibabDoor.P

/- OWN TEXT: arrays in variables and by value: an element stored, the whole loaded, an index that is no constant; small words for walks by hand. -/
namespace Go.Proofs.YtiaohbbafaaibabDoor.Arr
open Go.RowKit Go.Proofs.YtiaohbbafaaibabDoorW.PrintWords
set_option linter.unusedVariables false
set_option linter.unusedSimpArgs false

theorem run_index_arr {P : Program} {w : World} {t e : TypeId} {n : Nat} {cs : Array Value} {k : IntKind} {i : Int} {v : Value} (h : P.underlying t = some (.array n e)) (hp : P.plainKey e = true) (hs : (sizeOf e).run P w = .ok 1 w)
  (h0 : 0 ≤ i) (hn : i < (n : Int)) (hv : cs[i.toNat]? = some v) : (Instr.index t (.agg cs) (.int k i)).run P w = .ok v w := by
 have hpart := run_part_plain (P := P) w hp hv
 simp only [Instr.index, asIntOf, Sem.run_bind, Sem.run_pure, Result.andThen_ok, run_underlying h, if_pos (And.intro h0 hn), hs, Nat.mul_one, hpart]

structure Put (W w1 : World) (g : Nat) (cs : Array Value) (e : TypeId) : Prop where
  blk : w1.heap[g]? = some (.cells cs e (0, 0))
  far : ∀ k, k ≠ g → w1.heap[k]? = W.heap[k]?
  size : w1.heap.size = W.heap.size
  below : ∀ {B : Nat} {w0 : World}, Below B w0 W → B ≤ g → Below B w0 w1

theorem put_set {W : World} {g j : Nat} {cs : Array Value} {e : TypeId} {x : Value} (hb : W.heap[g]? = some (.cells cs e (0, 0))) : Put W (W.setCell ⟨g, j, none⟩ x) g (cs.setIfInBounds j x) e :=
 ⟨blk_set hb j x, fun k hk => Below.heap_setCell W ⟨g, j, none⟩ x k hk, by simp [World.setCell], fun h hB => h.setCell hB x⟩

section
variable {P : Program} {ops : Array Oper} {rest : List Oper} {o : Oper} {a : Act} {Q : Exit → Act → World → Prop}
theorem run_store_one {W : World} {t : TypeId} {g j : Nat} {cs : Array Value} {e : TypeId} {x : Value} (hx1 : x.cells = #[x]) (h1 : x.oneCell' = true) (hs : (sizeOf t).run P W = .ok 1 W) (hb : W.heap[g]? = some (.cells cs e (0, 0))) (hj : j < cs.size) :
  (Instr.storeAt t (.pointer (some ⟨g, j, none⟩)) x).run P W = .ok () (W.setCell ⟨g, j, none⟩ x) := by
 have hst := run_storeCells_at P g j e [x] 0 cs W hb (by simp; omega) (by simpa using h1)
 have hrow : W.setRow g (cs.toList.take (j + 0) ++ [x] ++ cs.toList.drop (j + 0 + 1)).toArray = W.setCell ⟨g, j, none⟩ x := by
  have e2 : (cs.toList.take (j + 0) ++ [x] ++ cs.toList.drop (j + 0 + 1)).toArray = cs.setIfInBounds j x := by
   apply Array.ext'
   simp only [Array.toList_setIfInBounds, Nat.add_zero]
   rw [List.set_eq_take_append_cons_drop, if_pos (by simpa using hj)]
   simp
  rw [e2, setCell_eq_setRow W g j cs e (0, 0) x hb]
 simp only [Instr.storeAt, Instr.sureAddr, storeVar, Sem.run_bind, Sem.run_pure, Result.andThen_ok, hs, hx1]
 simp only [List.size_toArray, List.length_cons, List.length_nil, Nat.zero_add, ne_eq, not_true_eq_false, if_false, Sem.run_pure, Sem.run_bind, Result.andThen_ok]
 rw [← hrow]
 simpa using hst
theorem wpList_store_arr {W : World} (hgd : o.guard = none) (hN : o.dst = none) {t : TypeId} {p v : Operand} (ho : o.op = .store t p v) (g j : Nat) (cs : Array Value) (e : TypeId) (x : Value) (hp : a.eval p = .pointer (some ⟨g, j, none⟩)) (hv : a.eval v = x)
  (hx1 : x.cells = #[x]) (h1 : x.oneCell' = true) (hs : (sizeOf t).run P W = .ok 1 W) (hb : W.heap[g]? = some (.cells cs e (0, 0))) (hj : j < cs.size)
  (h : ∀ w1, Put W w1 g (cs.setIfInBounds j x) e → wpList P ops Q rest a w1) : wpList P ops Q (o :: rest) a W := by
 refine wpList_plain hgd fun K hK => ?_
 have hrun : (execOp a.eval o).run P W = .ok .skip (W.setCell ⟨g, j, none⟩ x) := by
  unfold execOp
  simp only [ho, hp, hv, Sem.run_bind, run_store_one hx1 h1 hs hb hj, Result.andThen_ok, Sem.run_pure]
 unfold Oper.wp
 rw [hrun]
 show K (a.put o.dst undef) _
 rw [hN]
 exact hK _ _ (h _ (put_set hb))
theorem wpList_store_arr_const {W : World} (hgd : o.guard = none) (hN : o.dst = none) {t : TypeId} {p : Operand} {x : Value} (ho : o.op = .store t p (.const x)) (g j : Nat) (cs cs' : Array Value) (e : TypeId) (hp : a.eval p = .pointer (some ⟨g, j, none⟩))
  (hx1 : x.cells = #[x]) (h1 : x.oneCell' = true) (hs : (sizeOf t).run P W = .ok 1 W) (hb : W.heap[g]? = some (.cells cs e (0, 0))) (hj : j < cs.size) (hcs : cs.setIfInBounds j x = cs')
  (h : ∀ w1, Put W w1 g cs' e → wpList P ops Q rest a w1) : wpList P ops Q (o :: rest) a W :=
 wpList_store_arr hgd hN ho g j cs e x hp rfl hx1 h1 hs hb hj (fun w1 hp => h w1 (hcs ▸ hp))
theorem put_row {W : World} {g : Nat} {old cs : Array Value} {e : TypeId} (hb : W.heap[g]? = some (.cells old e (0, 0))) : Put W (W.setRow g cs) g cs e :=
 ⟨setRow_heap W g old cs e (0, 0) hb, fun k hk => by simp [World.setRow, Array.getElem?_modify, Ne.symm hk], by simp [World.setRow], fun h hB => ⟨h.os, h.tape, h.output, by simpa [World.setRow] using h.size, fun i hi => by
  rw [← h.block i hi]
  simp [World.setRow, Array.getElem?_modify]
  intro e
  omega⟩⟩
theorem wpList_store_whole {W : World} (hgd : o.guard = none) (hN : o.dst = none) {t : TypeId} {p v : Operand} (ho : o.op = .store t p v) (g : Nat) (old cs : Array Value) (e : TypeId) (hp : a.eval p = .pointer (some ⟨g, 0, none⟩)) (hv : a.eval v = .agg cs)
  (hb : W.heap[g]? = some (.cells old e (0, 0))) (hi : (P.info? t).map (·.size) = some cs.size) (hsz : old.size = cs.size) (h1 : cs.all (·.oneCell') = true)
  (h : ∀ w1, Put W w1 g cs e → wpList P ops Q rest a w1) : wpList P ops Q (o :: rest) a W := by
 refine wpList_plain hgd fun K hK => ?_
 have hrun : (execOp a.eval o).run P W = .ok .skip (W.setRow g cs) := by
  unfold execOp
  have := run_storeVar_row (P := P) W g e t old cs hb hi hsz h1
  simp only [ho, hp, hv, Instr.storeAt, Instr.sureAddr, Sem.run_bind, Sem.run_pure, this, Result.andThen_ok]
 unfold Oper.wp
 rw [hrun]
 show K (a.put o.dst undef) _
 rw [hN]
 exact hK _ _ (h _ (put_row hb))
end

end Go.Proofs.YtiaohbbafaaibabDoor.Arr

/- OWN TEXT: what object.Name comes to (it ranges over a text, which the print does not take), in the print's own form. -/
namespace Go.Proofs.YtiaohbbafaaibabDoor.P
open Go.RowKit Go.Proofs.YtiaohbbafaaibabDoorW.PrintWords Go.Proofs.YtiaohbbafaaibabDoorW.PrintLast Go.Proofs.YtiaohbbafaaibabDoorW.PrintMore
set_option linter.unusedVariables false
set_option linter.unusedSimpArgs false

def OkC (i : Nat) (c : Int) : Prop := (97 ≤ c ∧ c ≤ 122) ∨ (65 ≤ c ∧ c ≤ 90) ∨ c = 95 ∨ (0 < i ∧ ((48 ≤ c ∧ c ≤ 57) ∨ c = 46))
instance (i : Nat) (c : Int) : Decidable (OkC i c) := by unfold OkC; infer_instance
def nameS (s : ByteArray) : Bool := decide (0 < s.size ∧ s.size ≤ 24 ∧ ∀ j, j < s.size → OkC j (bt s (j : Int)))
def object_Name.f (a0 : ByteArray) : Option (Bool) := some (nameS a0)
theorem decode_bt (s : ByteArray) (pos : Nat) (h : pos < s.size) : (((Utf8.decode s pos).1 : Int) = bt s (pos : Int) ∧ (Utf8.decode s pos).2 = 1) ∨ (128 ≤ ((Utf8.decode s pos).1 : Int) ∧ 128 ≤ bt s (pos : Int) ∧ 1 ≤ (Utf8.decode s pos).2) := by
 have hb : ((s[pos]'h).toNat : Int) = bt s (pos : Int) := bt_at s (pos : Int) (by simpa using h)
 by_cases ha : (s[pos]'h).toNat < 128
 ·
  rw [decode_ascii s pos h ha]
  exact .inl ⟨hb, rfl⟩
 ·
  have := decode_high s pos h (by omega)
  exact .inr ⟨by omega, by omega, this.2⟩
set_option maxHeartbeats 4000000 in
set_option maxRecDepth 100000 in
theorem object_Name.calls (a0 : ByteArray) (r : Bool) (w : World) (h : object_Name.f a0 = some r) :
    Calls Tryd.prog 76 #[.string a0] w fun e w' => e = .returned (.bool r) ∧ Below w.heap.size w w' := by
  have h : nameS a0 = r := Option.some.inj h
  by_cases c0 : a0.size = 0
  · have hr : false = r := by rw [← h]; unfold nameS; exact (decide_eq_false (by omega)).symm
    subst hr
    have c0b : ((a0.size : Int) == 0) = true := by simp [c0]
    have c0c : (a0.size == 0) = true := by simp [c0]
    go_enter Tryd.func76, Tryd.ntmps76
    go_wp2
    go_ret
    exact ⟨rfl, Below.refl _ _⟩
  have c0b : ((a0.size : Int) == 0) = false := beq_eq_false_iff_ne.mpr (by omega)
  by_cases c1 : 24 < a0.size
  · have hr : false = r := by rw [← h]; unfold nameS; exact (decide_eq_false (by omega)).symm
    subst hr
    have c1b : decide ((24 : Int) < (a0.size : Int)) = true := decide_eq_true (by omega)
    go_enter Tryd.func76, Tryd.ntmps76
    go_wp2
    go_ret
    exact ⟨rfl, Below.refl _ _⟩
  have c1b : decide ((24 : Int) < (a0.size : Int)) = false := decide_eq_false (by omega)
  go_enter Tryd.func76, Tryd.ntmps76
  go_wp2
  go_loopw [15] (fun _ wr => ∃ pos : Nat, wr = w.iter a0 pos ∧ pos ≤ a0.size ∧ ∀ j, j < pos → OkC j (bt a0 (j : Int))) (fun _ wr => a0.size - wr.iterPos w.heap.size)
  case atStart => exact ⟨0, rfl, Nat.zero_le _, fun j hj => absurd hj (Nat.not_lt_zero _)⟩
  case round =>
    obtain ⟨pos, rfl, hle, hok⟩ := hrel
    by_cases hp : pos < a0.size
    · have hnx : ∀ ty, (Instr.next (.pointer (some ⟨w.heap.size, 0, none⟩)) true ty).run Tryd.prog (w.iter a0 pos) = _ := fun ty => run_next_any w a0 pos ty hp
      have hdec := decode_bt a0 pos hp
      generalize hd : Utf8.decode a0 pos = d at hnx hdec
      obtain ⟨c, wd⟩ := d
      simp only at hnx hdec
      by_cases hc : OkC pos (c : Int)
      · have hcb : (c : Int) = bt a0 (pos : Int) ∧ wd = 1 := by
          unfold OkC at hc
          omega
        obtain ⟨e1, e2⟩ := hcb
        subst e2
        have hnext : (∃ pos' : Nat, w.iter a0 (pos + 1) = w.iter a0 pos' ∧ pos' ≤ a0.size ∧ ∀ j, j < pos' → OkC j (bt a0 (j : Int))) := by
          refine ⟨pos + 1, rfl, by omega, fun j hj => ?_⟩
          by_cases e : j = pos
          · subst e; rw [← e1]; exact hc
          · exact hok j (by omega)
        clear hok hdec hd h e1
        unfold OkC at hc
        go_wp2
        all_goals first
          | (exfalso; simp at *; omega)
          | (go_roundw
             case rel => exact hnext
             case measure => simp; omega)
      · have hr : false = r := by
          rw [← h]
          unfold nameS
          refine (decide_eq_false (fun hall => ?_)).symm
          have := hall.2.2 pos hp
          unfold OkC at hc this
          omega
        subst hr
        clear hok hdec hd h
        unfold OkC at hc
        go_wp2
        all_goals first
          | (exfalso; simp at *; omega)
          | (go_ret; exact ⟨rfl, (Below.refl _ _).alloc (Nat.le_refl _) _⟩)
    · have hnx : ∀ ty, (Instr.next (.pointer (some ⟨w.heap.size, 0, none⟩)) true ty).run Tryd.prog (w.iter a0 pos) = _ := fun ty => run_next_end w a0 pos ty hp
      have hr : true = r := by
        rw [← h]
        unfold nameS
        exact (decide_eq_true ⟨by omega, by omega, fun j hj => hok j (by omega)⟩).symm
      subst hr
      go_wp2
      go_ret
      exact ⟨rfl, (Below.refl _ _).alloc (Nat.le_refl _) _⟩
end Go.Proofs.YtiaohbbafaaibabDoor.P

/- OWN TEXT: a map[K]bool that a call has made and uses as a set: what it holds, how a look-up without 'ok' answers, how a store turns it. -/
namespace Go.Proofs.YtiaohbbafaaibabDoor.MapB
open Go.RowKit Go.Maps Go.Proofs.YtiaohbbafaaibabDoorW.PrintWords Go.Proofs.YtiaohbbafaaibabDoor.Arr
set_option linter.unusedVariables false
set_option linter.unusedSimpArgs false

def Seen (w : World) (P : Program) (k e : TypeId) (b n : Nat) (S : Lit → Bool) : Prop :=
 ∃ D : DataW Unit, w.ownsMap P k (plainElem P e) b n D ∧ ∀ kl, WideAt.IsKeyLit kl → D.atKey kl (.lit (.bool false)) = .lit (.bool (S kl))
def addS (S : Lit → Bool) (kl : Lit) : Lit → Bool := fun l => l.sameKey kl || S l
variable {P : Program} {k e : TypeId} {w : World} {b n : Nat} {S : Lit → Bool}
theorem Seen.made (w : World) (P : Program) (k e : TypeId) : Seen (w.alloc (.map #[] 0)) P k e w.heap.size 0 (fun _ => false) :=
 ⟨.map [], World.ownsMap_made w P k _, fun kl _ => rfl⟩
theorem Seen.kept {w' : World} {row : Option Nat} (h : Seen w P k e b n S) (hg : w.grownBy w' row) (hne : some b ≠ row) : Seen w' P k e b n S := by
 obtain ⟨D, h1, h2⟩ := h
 exact ⟨D, h1.kept hg hne, h2⟩
theorem Seen.alloc (h : Seen w P k e b n S) (o : Obj) : Seen (w.alloc o) P k e b n S := h.kept (World.grownBy_alloc w o none) (by simp)
theorem Seen.below {w' : World} (h : Seen w P k e b n S) (hb : Below w.heap.size w w') : Seen w' P k e b n S := h.kept (grown_of_below hb none) (by simp)
theorem Seen.setCell (h : Seen w P k e b n S) {a : Addr} (ha : b ≠ a.block) (u : Value) : Seen (w.setCell a u) P k e b n S := by
 obtain ⟨D, h1, h2⟩ := h
 exact ⟨D, h1.setCell ha u, h2⟩
theorem Seen.mono (h : Seen w P k e b n S) {n' : Nat} (hn : n ≤ n') : Seen w P k e b n' S := by
 obtain ⟨D, h1, h2⟩ := h
 exact ⟨D, h1.mono hn, h2⟩
theorem Seen.to {S' : Lit → Bool} (h : Seen w P k e b n S) (e1 : S = S') : Seen w P k e b n S' := e1 ▸ h
theorem Seen.lt (h : Seen w P k e b n S) : b < w.heap.size := by
 obtain ⟨D, h1, h2⟩ := h
 exact h1.lt
theorem plainElem_bool_inv {H : Type} {P : Program} {e : TypeId} (he : P.underlying e = some .bool) {v : Value} {z : DataW H × List MemPlace} (h : plainElem P e v = some z) : ∃ x, v = .bool x ∧ z = (.lit (.bool x), []) := by
 unfold plainElem at h
 rw [he] at h
 cases v <;> simp at h
 exact ⟨_, rfl, h.symm⟩
theorem Seen.lookup {t : TypeId} (h : Seen w P k e b n S) (K : Keyed P k) (ht : P.underlying t = some (.map k e)) (he : P.underlying e = some .bool) (hz : (zeroValue e).run P w = .ok (.bool false) w)
  {key : Value} {kl : Lit} (hkey : keyOf P k key = some kl) (hkl : WideAt.IsKeyLit kl) : (Instr.lookup t (.map (some b)) key false).run P w = .ok (.bool (S kl)) w := by
 obtain ⟨D, h1, h2⟩ := h
 obtain ⟨v, ps, hrun, hv⟩ := h1.lookup K ht hz (plainElem_bool (H := Unit) he false) hkey
 obtain ⟨x, rfl, hx⟩ := plainElem_bool_inv he hv
 have hx1 := congrArg Prod.fst hx
 rw [h2 kl hkl] at hx1
 have hx2 : S kl = x := by
  have := DataW.lit.inj hx1
  injection this
 rw [hx2]
 exact hrun
theorem Seen.add {t : TypeId} (h : Seen w P k e b n S) (K : Keyed P k) (ht : P.underlying t = some (.map k e)) (he : P.underlying e = some .bool) (hn : n < maxLen)
  {key : Value} {kl : Lit} (hkey : keyOf P k key = some kl) (hkl : WideAt.IsKeyLit kl) : ∃ w', (Instr.mapUpdate t (.map (some b)) key (.bool true)).run P w = .ok () w' ∧ Seen w' P k e b (n + 1) (addS S kl) ∧ w.grownBy w' (some b) := by
 obtain ⟨D, h1, h2⟩ := h
 obtain ⟨w', r1, r2, r3⟩ := h1.update K ht hn hkey (plainElem_bool (H := Unit) he true)
 refine ⟨w', r1, ⟨_, r2, fun l hl => ?_⟩, r3⟩
 unfold addS
 by_cases hc : l = kl
 ·
  subst hc
  rw [atKey_put_same h1.isMap hkl, WideAt.sameKey_self hkl]
  rfl
 ·
  rw [atKey_put_other hc, h2 l hl, sameKey_ne hc]
  rfl
section
variable {ops : Array Oper} {rest : List Oper} {o : Oper} {a : Act} {Q : Exit → Act → World → Prop}
theorem wpList_lookup_seen (hg : o.guard = none) (m x : Operand) (t : TypeId) (hop : o.op = Op.lookup t m x false)
  (k e : TypeId) (K : Keyed P k) (ht : P.underlying t = some (.map k e)) (he : P.underlying e = some .bool) (hz : (zeroValue e).run P w = .ok (.bool false) w) (b n : Nat) (S : Lit → Bool)
  (hm : a.eval m = .map (some b)) (hs : Seen w P k e b n S) (key : Value) (kl : Lit) (hx : a.eval x = key) (hkey : keyOf P k key = some kl) (hkl : WideAt.IsKeyLit kl)
  (hK : wpList P ops Q rest (a.put o.dst (.bool (S kl))) w) : wpList P ops Q (o :: rest) a w := by
 refine wpList_plain hg fun K' hK' => ?_
 have hrun := hs.lookup K ht he hz hkey hkl
 unfold Oper.wp
 simp [execOp, hop, hm, hx, hrun, Result.andThen]
 exact hK' _ _ hK
theorem wpList_update_seen (hg : o.guard = none) (m x v : Operand) (t : TypeId) (hop : o.op = Op.mapUpdate t m x v)
  (k e : TypeId) (K : Keyed P k) (ht : P.underlying t = some (.map k e)) (he : P.underlying e = some .bool) (b n : Nat) (S : Lit → Bool)
  (hm : a.eval m = .map (some b)) (hs : Seen w P k e b n S) (hn : n < maxLen) (key : Value) (kl : Lit) (hx : a.eval x = key) (hv : a.eval v = .bool true) (hkey : keyOf P k key = some kl) (hkl : WideAt.IsKeyLit kl)
  (hK : ∀ w', Seen w' P k e b (n + 1) (addS S kl) → w.grownBy w' (some b) → wpList P ops Q rest (a.put o.dst undef) w') : wpList P ops Q (o :: rest) a w := by
 refine wpList_plain hg fun K' hK' => ?_
 obtain ⟨w', hrun, r1, r2⟩ := hs.add K ht he hn hkey hkl
 unfold Oper.wp
 simp [execOp, hop, hm, hx, hv, hrun, Result.andThen]
 exact hK' _ _ (hK w' r1 r2)
theorem wpList_make_map {W : World} (hgd : o.guard = none) {N : Tmp} (_hd : o.dst = some N) {t : TypeId} (hop : o.op = Op.makeMap t none)
  (hrun : (execOp a.eval o).run P W = .ok (.value (.map (some W.heap.size))) (W.alloc (.map #[] 0)))
  (h : ∀ g, g = W.heap.size → ∀ w1, Seen w1 P k e g 0 (fun _ => false) → Below W.heap.size W w1 → wpList P ops Q rest (a.put o.dst (.map (some g))) w1) : wpList P ops Q (o :: rest) a W :=
 Kd.event_run hgd hrun (h _ rfl _ (Seen.made W P k e) (below_alloc (Below.refl _ _) _))
end
end Go.Proofs.YtiaohbbafaaibabDoor.MapB

/- OWN TEXT: small words for the pure statements: what a function with rounds comes to in the end. -/
set_option linter.unusedVariables false
set_option linter.unusedSimpArgs false
namespace Go.Proofs.YtiaohbbafaaibabDoorW.PrintWords
open Go.RowKit

theorem Ev.succ {α : Type} {g : Nat → Option α} {r : α} (h : Ev (fun k => g (k + 1)) r) : Ev g r := Ev.step (fun _ => rfl) h
theorem Ev.val {α : Type} {a r : α} (h : a = r) : Ev (fun _ => some a) r := h ▸ Ev.now _
theorem Ev.bind0 {α β : Type} {g : Option α} {f : Nat → α → Option β} {a : α} {r : β} (h : g = some a) (k : Ev (fun n => f n a) r) : Ev (fun n => g.bind (f n)) r := by
 subst h; exact k
theorem Ev.iteT {α : Type} {c : Prop} [Decidable c] {a b : Nat → Option α} {r : α} (hc : c) (h : Ev a r) : Ev (fun k => if c then a k else b k) r := by
 simpa only [if_pos hc] using h
theorem Ev.iteF {α : Type} {c : Prop} [Decidable c] {a b : Nat → Option α} {r : α} (hc : ¬ c) (h : Ev b r) : Ev (fun k => if c then a k else b k) r := by
 simpa only [if_neg hc] using h
theorem Ev.ite2 {α : Type} {c : Prop} [Decidable c] {a b : Nat → Option α} {r : α} (h1 : c → Ev a r) (h2 : ¬ c → Ev b r) : Ev (fun k => if c then a k else b k) r := by
 by_cases hc : c
 ·
  exact Ev.iteT hc (h1 hc)
 ·
  exact Ev.iteF hc (h2 hc)
theorem Ev.to {α : Type} {g : Nat → Option α} {r r' : α} (h : Ev g r) (e : r = r') : Ev g r' := e ▸ h
theorem wrap64_id {x : Int} (h1 : -9223372036854775808 ≤ x) (h2 : x ≤ 9223372036854775807) : wrap64 x = x := by unfold wrap64; omega
theorem wf_i64 {x : Int} (h : (Lit.int .i64 x).wf = true) : -9223372036854775808 ≤ x ∧ x ≤ 9223372036854775807 := by have := bounds_i64 h; omega
theorem wf_u32 {x : Int} (h : (Lit.int .u32 x).wf = true) : 0 ≤ x ∧ x ≤ 4294967295 := by have := bounds_u32 h; omega

theorem rd_get {l : List Int} {i : Nat} (h : i < l.length) : rd l (i : Int) = l[i] := by
 unfold rd
 rw [Int.toNat_natCast, List.getD_eq_getElem?_getD, List.getElem?_eq_getElem h]
 rfl
theorem drop_get {α : Type} {l : List α} {i : Nat} (h : i < l.length) : l.drop i = l[i] :: l.drop (i + 1) := List.drop_eq_getElem_cons h

end Go.Proofs.YtiaohbbafaaibabDoorW.PrintWords

/- OWN TEXT: what object.symbols comes to (it keeps a set of names in a map, which the print does not take). -/
namespace Go.Proofs.YtiaohbbafaaibabDoor.P
open Go.RowKit Go.Maps Go.Proofs.YtiaohbbafaaibabDoorW.PrintWords Go.Proofs.YtiaohbbafaaibabDoorW.PrintLast Go.Proofs.YtiaohbbafaaibabDoorW.PrintMore Go.Proofs.YtiaohbbafaaibabDoor.Arr Go.Proofs.YtiaohbbafaaibabDoor.MapB
set_option linter.unusedVariables false
set_option linter.unusedSimpArgs false

abbrev Sym := S75
def sy (l : List Sym) (i : Nat) : Sym := rd_T75 l (i : Int)
theorem lawN : Keyed Tryd.prog 9 := string_keyed Tryd.underlying9
theorem zeroBN (w : World) : (zeroValue 4).run Tryd.prog w = .ok (.bool false) w := by kernel_rfl
abbrev SeenN (W : World) (b n : Nat) (S : Lit → Bool) : Prop := Seen W Tryd.prog 9 4 b n S
def keyN (s : ByteArray) : Lit := .string s.data.toList
def nameSeen (l : List Sym) : Nat → Lit → Bool
 | 0 => fun _ => false
 | i + 1 => addS (nameSeen l i) (keyN (sy l i).f0)
def symE (l : List Sym) (n : Int) (i : Nat) : Int :=
 if nameS (sy l i).f0 = true then (if nameSeen l i (keyN (sy l i).f0) = true then 26 else if (sy l i).f1 < 0 then 23 else if (sy l i).f1 > 3 then 23 else if (sy l i).f2 < 0 then 22 else if (sy l i).f2 > n then 22 else if (sy l i).f1 = 3 then (if (sy l i).f2 = 0 then 0 else 22) else 0) else 20
theorem symE_eq (l : List Sym) (n : Int) (i : Nat) : symE l n i = if nameS (sy l i).f0 = true then (if nameSeen l i (keyN (sy l i).f0) = true then 26 else if (sy l i).f1 < 0 then 23 else if (sy l i).f1 > 3 then 23 else if (sy l i).f2 < 0 then 22 else if (sy l i).f2 > n then 22 else if (sy l i).f1 = 3 then (if (sy l i).f2 = 0 then 0 else 22) else 0) else 20 := rfl
def firstS (g : Nat → Int) (n : Nat) : Nat → Int × Int
 | 0 => (0, 0)
 | d + 1 => if g (n - (d + 1)) = 0 then firstS g n d else (g (n - (d + 1)), ((n - (d + 1) : Nat) : Int))
theorem firstS_step (g : Nat → Int) {n i : Nat} (h : i < n) : firstS g n (n - i) = if g i = 0 then firstS g n (n - (i + 1)) else (g i, (i : Int)) := by
 rw [show n - i = (n - (i + 1)) + 1 by omega]
 show (if g (n - (n - (i + 1) + 1)) = 0 then _ else _) = _
 rw [show n - (n - (i + 1) + 1) = i by omega]
def symsS (l : List Sym) (n : Int) : Int × Int := firstS (symE l n) l.length l.length
def ansCell (a b : Int) : Obj := .cells #[.int .i64 a, .int .i64 b] 101 (0, 0)
def objCell (a0_0 : ByteArray) (A0_1 : Option Addr) (n1 c0_1 : Nat) (a0_2 : Int) (A0_3 : Option Addr) (n3 c0_3 : Nat) (A0_4 : Option Addr) (n4 c0_4 : Nat) (A0_5 : Option Addr) (n5 c0_5 : Nat) : Obj :=
 .cells #[.string a0_0, .slice A0_1 n1 c0_1, .int .i64 a0_2, .slice A0_3 n3 c0_3, .slice A0_4 n4 c0_4, .slice A0_5 n5 c0_5] 27 (0, 0)
structure Ob (w W : World) (gb : Nat) (oi : Obj) (gr b n : Nat) (S : Lit → Bool) : Prop where
  low : Below w.heap.size w W
  obj : W.heap[gb]? = some oi
  res : W.heap[gr]? = some (ansCell 0 0)
  seen : SeenN W b n S
  n1 : gb ≠ b
  n2 : gr ≠ b
  g1 : w.heap.size ≤ gr
  g2 : w.heap.size ≤ b
theorem Ob.below {w W W1 : World} {gb gr b n : Nat} {oi : Obj} {S : Lit → Bool} (h : Ob w W gb oi gr b n S) (hb : Below W.heap.size W W1) : Ob w W1 gb oi gr b n S :=
 ⟨below_then h.low h.low.size hb, blk_below h.obj hb, blk_below h.res hb, h.seen.below hb, h.n1, h.n2, h.g1, h.g2⟩
theorem Ob.grown {w W W1 : World} {gb gr b n g : Nat} {oi : Obj} {S : Lit → Bool} (h : Ob w W gb oi gr b n S) (hg : W.grownBy W1 (some g)) (hw : w.heap.size ≤ g) (h1 : gb ≠ g) (h2 : gr ≠ g) (h3 : b ≠ g) : Ob w W1 gb oi gr b n S :=
 ⟨pw_below_grown h.low (some g) h.low.size hg (fun k hk => by have := Option.some.inj hk; omega), blk_grown h.obj hg (fun e => h1 (Option.some.inj e)), blk_grown h.res hg (fun e => h2 (Option.some.inj e)), h.seen.kept hg (fun e => h3 (Option.some.inj e)), h.n1, h.n2, h.g1, h.g2⟩
theorem Ob.add {w W W1 : World} {gb gr b n n' : Nat} {oi : Obj} {S S' : Lit → Bool} (h : Ob w W gb oi gr b n S) (hg : W.grownBy W1 (some b)) (hs : SeenN W1 b n' S') : Ob w W1 gb oi gr b n' S' :=
 ⟨pw_below_grown h.low (some b) h.low.size hg (fun k hk => by have := Option.some.inj hk; have := h.g2; omega), blk_grown h.obj hg (fun e => h.n1 (Option.some.inj e)), blk_grown h.res hg (fun e => h.n2 (Option.some.inj e)), hs, h.n1, h.n2, h.g1, h.g2⟩
theorem put_grownN {W w1 : World} {g : Nat} {cs : Array Value} {e : TypeId} (h : Put W w1 g cs e) : W.grownBy w1 (some g) := by
 have hb := h.below (Below.refl 0 W) (Nat.zero_le _)
 exact ⟨hb.os, hb.tape, hb.output, hb.size, fun k _ hne => h.far k (fun e => hne (by rw [e]))⟩
theorem two_one (a b : Int) : ((#[.int .i64 a, .int .i64 b] : Array Value).all fun v => v.oneCell') = true := by kernel_rfl
theorem sym_one (s : ByteArray) (a b : Int) : ((#[.string s, .int .i8 a, .int .i64 b] : Array Value).all fun v => v.oneCell') = true := by kernel_rfl
theorem nameS_len {s : ByteArray} (h : nameS s = true) : s.size ≤ 24 := (of_decide_eq_true h).2.1

set_option maxHeartbeats 8000000 in
set_option maxRecDepth 100000 in
theorem object_symbols.calls (a0_0 : ByteArray) (A0_1 : Option Addr) (c0_1 : Nat) (l0_1 : List Int) (a0_2 : Int) (A0_3 : Option Addr) (c0_3 : Nat) (l0_3 : List Int) (A0_4 : Option Addr) (c0_4 : Nat) (l0_4 : List (Sym)) (A0_5 : Option Addr) (c0_5 : Nat) (l0_5 : List (S68)) (r1 r2 : Int) (w : World) (hr0_1 : Kd.C (Kd.int .u32) w A0_1 l0_1.length l0_1) (hc0_1 : l0_1.length ≤ c0_1) (hr0_3 : Kd.C (Kd.int .i64) w A0_3 l0_3.length l0_3) (hc0_3 : l0_3.length ≤ c0_3) (hr0_4 : Kd.C k75 w A0_4 l0_4.length l0_4) (hc0_4 : l0_4.length ≤ c0_4) (hr0_5 : Kd.C k68 w A0_5 l0_5.length l0_5) (hc0_5 : l0_5.length ≤ c0_5) (hl : l0_4.length ≤ 1000000) (h : symsS l0_4 (l0_1.length : Int) = (r1, r2)) :
  Calls Tryd.prog 46 #[.agg #[.string a0_0, .slice A0_1 l0_1.length c0_1, .int .i64 a0_2, .slice A0_3 l0_3.length c0_3, .slice A0_4 l0_4.length c0_4, .slice A0_5 l0_5.length c0_5]] w fun e w' => e = .returned (.agg #[.int .i64 r1, .int .i64 r2]) ∧ Below w.heap.size w w' := by
 have hu1 := Tryd.underlying27
 have hu2 := Tryd.underlying101
 have hu3 := Tryd.underlying75
 have HR := Aside0.mk hr0_4
 clear hr0_1 hc0_1 hr0_3 hc0_3 hr0_4 hc0_4 hr0_5 hc0_5
 unfold symsS at h
 go_enter Tryd.func46, Tryd.ntmps46
 go_wp2_with (first | ((with_reducible refine gate_dst (N := 1) rfl ?_); refine box_event ?hg (N := 1) ?hd (cs := #[.string a0_0, .slice A0_1 l0_1.length c0_1, .int .i64 a0_2, .slice A0_3 l0_3.length c0_3, .slice A0_4 l0_4.length c0_4, .slice A0_5 l0_5.length c0_5]) (t := 27) ?hr ?_; (case hd => rfl); (case hg => rfl); (case hr => first | (go_simp; done) | (go_simp; rfl)); intro gb hgb w1 BK1 hb1; have HB := Aside0.mk (below_then (Below.refl w.heap.size w) (Nat.le_refl _) hb1); have BO := Aside0.mk (show w1.heap[gb]? = some (objCell a0_0 A0_1 l0_1.length c0_1 a0_2 A0_3 l0_3.length c0_3 A0_4 l0_4.length c0_4 A0_5 l0_5.length c0_5) from BK1); clear BK1 hb1 hgb) | ((with_reducible refine gate_dst (N := 2) rfl ?_); refine box_event ?hg (N := 2) ?hd (cs := #[.int .i64 0, .int .i64 0]) (t := 101) ?hr ?_; (case hd => rfl); (case hg => rfl); (case hr => first | (go_simp; done) | (go_simp; rfl)); intro gr hgr w2 BK2 hb2; have G1 := Aside0.mk (show w.heap.size ≤ gr by rw [hgr]; exact HB.out.size); have L1 := Aside0.mk (show gb < gr by rw [hgr]; exact blk_lt BO.out); replace HB := Aside0.mk (below_then HB.out HB.out.size hb2); replace BO := Aside0.mk (blk_below BO.out hb2); have BR := Aside0.mk (show w2.heap[gr]? = some (ansCell 0 0) from BK2); clear BK2 hb2 hgr) | ((with_reducible refine gate_dst (N := 6) rfl ?_); refine wpList_make_map (P := Tryd.prog) (k := 9) (e := 4) (t := 129) ?hg (N := 6) ?hd ?ho ?hr ?_; (case hd => rfl); (case hg => rfl); (case ho => rfl); (case hr => first | (go_simp; done) | (go_simp; rfl)); intro b hgb w3 hs0 hb; have HO := Aside0.mk (show Ob w w3 gb (objCell a0_0 A0_1 l0_1.length c0_1 a0_2 A0_3 l0_3.length c0_3 A0_4 l0_4.length c0_4 A0_5 l0_5.length c0_5) gr b 0 (fun _ => false) from ⟨below_then HB.out HB.out.size hb, blk_below BO.out hb, blk_below BR.out hb, hs0, by rw [hgb]; exact Nat.ne_of_lt (blk_lt BO.out), by rw [hgb]; exact Nat.ne_of_lt (blk_lt BR.out), G1.out, by rw [hgb]; exact HB.out.size⟩); clear HB BO BR hb hs0 hgb; have hco := blk_cell HO.out.obj 4; have hco1 := blk_cell HO.out.obj 1))
 go_loopw [10] (fun u10 wr => ∃ i : Nat, u10 = .int .i64 (i : Int) ∧ i ≤ l0_4.length ∧ Aside0 (firstS (symE l0_4 (l0_1.length : Int)) l0_4.length (l0_4.length - i) = (r1, r2)) ∧ Aside0 (Ob w wr gb (objCell a0_0 A0_1 l0_1.length c0_1 a0_2 A0_3 l0_3.length c0_3 A0_4 l0_4.length c0_4 A0_5 l0_5.length c0_5) gr b i (nameSeen l0_4 i))) (fun u10 _ => l0_4.length - (intOf u10).toNat)
 case atStart => exact ⟨0, rfl, Nat.zero_le _, ⟨h⟩, HO⟩
 case round =>
  clear HO hco hco1 h
  obtain ⟨i, rfl, hile, HF, HO⟩ := hrel
  have hco := blk_cell HO.out.obj 4
  have hco1 := blk_cell HO.out.obj 1
  by_cases hlt : i < l0_4.length
  ·
   have hstep := firstS_step (symE l0_4 (l0_1.length : Int)) hlt
   rw [HF.out] at hstep
   have hse := symE_eq l0_4 (l0_1.length : Int) i
   have hns : nameSeen l0_4 (i + 1) = addS (nameSeen l0_4 i) (keyN (sy l0_4 i).f0) := rfl
   have p0 : (0 : Int) ≤ (i : Int) := by omega
   have q0 : (i : Int) < (l0_4.length : Int) := by omega
   obtain ⟨ad, eA, hx0, hx1, hx2⟩ := at_T75 HR.out (i : Int) p0 q0
   subst eA
   rw [show ((i : Int)).toNat = i by omega] at hx0 hx1 hx2
   have hy0 := (HO.out.low.cell (World.block_lt_of_cell? w _ hx0)).trans hx0
   have hy1 := (HO.out.low.cell (World.block_lt_of_cell? w _ hx1)).trans hx1
   have hy2 := (HO.out.low.cell (World.block_lt_of_cell? w _ hx2)).trans hx2
   clear hx0 hx1 hx2
   rw [show rd_T75 l0_4 (i : Int) = sy l0_4 i from rfl] at hy0 hy1 hy2
   generalize sy l0_4 i = s at hy0 hy1 hy2 hse hns
   obtain ⟨sn, sk, sa⟩ := s
   simp only at hy0 hy1 hy2 hse hns
   generalize hmb : nameSeen l0_4 i (keyN sn) = mb at hse
   have HM := Aside0.mk hmb
   obtain ⟨nb, hnb⟩ : ∃ nb, nb = nameS sn := ⟨_, rfl⟩
   have HN := Aside0.mk (show object_Name.f sn = some nb by rw [hnb]; rfl)
   rw [← hnb] at hse
   have HL := Aside0.mk (show i ≤ 1000000 by omega)
   have HNS := Aside0.mk hns
   clear hns HF hmb
   have hwr : wrap64 ((i : Int) + 1) = ((i + 1 : Nat) : Int) := by rw [wrap64_id (by omega) (by omega)]; rfl
   replace p0 := eq_true p0
   replace q0 := eq_true q0
   have hltb : decide ((i : Int) < (l0_4.length : Int)) = true := decide_eq_true (by omega)

   by_cases cn : nb = true
   ·
    rw [if_pos cn] at hse
    subst cn
    have HKY := Aside0.mk (show keyOf Tryd.prog 9 (.string sn) = some (keyN sn) from Go.WideMaps.keyOf_string_mk Tryd.underlying9 (by have := nameS_len hnb.symm; unfold maxLen; omega))
    clear hnb
    by_cases cm : mb = true
    ·
     rw [if_pos cm] at hse
     subst cm
     rw [hse, if_neg (by decide)] at hstep
     injection hstep with e1 e2
     subst e1 e2
     clear hse
     go_wp2_with (first | ((with_reducible refine gate_dst (N := 5) rfl ?_); refine box_event ?hg (N := 5) ?hd (cs := #[.string ⟨#[]⟩, .int .i8 0, .int .i64 0]) (t := 75) ?hr ?_; (case hd => rfl); (case hg => rfl); (case hr => first | (go_simp; done) | (go_simp; rfl)); intro gs hgs w5 BK5 hb5; have LB := Aside0.mk (show b < gs by rw [hgs]; exact HO.out.seen.lt); have LG := Aside0.mk (show gb < gs by rw [hgs]; exact blk_lt HO.out.obj); have LR := Aside0.mk (show gr < gs by rw [hgs]; exact blk_lt HO.out.res); replace HO := Aside0.mk (HO.out.below hb5); have BS := Aside0.mk BK5; clear BK5 hb5 hgs) | ((with_reducible refine gate_store (t := 75) rfl ?_); refine wpList_store_whole rfl rfl rfl gs _ #[.string sn, .int .i8 sk, .int .i64 sa] _ rfl rfl BS.out (by kernel_rfl) rfl (sym_one _ _ _) ?_; intro w6 hp; replace HO := Aside0.mk (HO.out.grown (put_grownN hp) (by have := LB.out; have := HO.out.g2; omega) (by have := LG.out; omega) (by have := LR.out; omega) (by have := LB.out; omega)); replace BS := Aside0.mk hp.blk; clear hp; have hco := blk_cell HO.out.obj 4; have hco1 := blk_cell HO.out.obj 1; have hs0 := blk_cell BS.out 0; have hs1 := blk_cell BS.out 1; have hs2 := blk_cell BS.out 2) | (go_at_call 76; refine (object_Name.calls sn _ _ HN.out).mono ?_; rintro e w7 ⟨rfl, hb⟩; replace HO := Aside0.mk (HO.out.below hb); replace BS := Aside0.mk (blk_below BS.out hb); clear hb hs0 hs1 hs2; have hco := blk_cell HO.out.obj 4; have hco1 := blk_cell HO.out.obj 1; have hs0 := blk_cell BS.out 0; have hs1 := blk_cell BS.out 1; have hs2 := blk_cell BS.out 2) | (at_lookup; refine wpList_lookup_seen rfl _ _ 129 rfl 9 4 lawN Tryd.underlying129 Tryd.underlying4 (zeroBN _) b _ _ rfl HO.out.seen _ _ rfl HKY.out trivial ?_; rw [HM.out]) | ((with_reducible refine gate_store (t := 101) rfl ?_); refine wpList_store_whole rfl rfl rfl gr _ #[.int .i64 26, .int .i64 (i : Int)] _ rfl rfl HO.out.res (by kernel_rfl) rfl (two_one _ _) ?_; intro w9 hp; have HE := Aside0.mk (hp.below HO.out.low HO.out.g1); have HP := Aside0.mk hp.blk; clear hp))
     refine bodyPost_ret (results_cell_row rfl _ _ gr 101 #[.int .i64 26, .int .i64 (i : Int)] (0, 0) _ rfl HP.out Tryd.underlying101 rfl (by kernel_rfl)) rfl ?_
     exact ⟨rfl, HE.out⟩
    ·
     rw [if_neg cm] at hse
     have cm : mb = false := by simpa using cm
     subst cm
     by_cases c4 : sk < 0
     ·
      rw [if_pos c4] at hse
      have d4 : decide (sk < 0) = true := decide_eq_true c4
      clear c4
      rw [hse, if_neg (by decide)] at hstep
      injection hstep with e1 e2
      subst e1 e2
      clear hse
      go_wp2_with (first | ((with_reducible refine gate_dst (N := 5) rfl ?_); refine box_event ?hg (N := 5) ?hd (cs := #[.string ⟨#[]⟩, .int .i8 0, .int .i64 0]) (t := 75) ?hr ?_; (case hd => rfl); (case hg => rfl); (case hr => first | (go_simp; done) | (go_simp; rfl)); intro gs hgs w5 BK5 hb5; have LB := Aside0.mk (show b < gs by rw [hgs]; exact HO.out.seen.lt); have LG := Aside0.mk (show gb < gs by rw [hgs]; exact blk_lt HO.out.obj); have LR := Aside0.mk (show gr < gs by rw [hgs]; exact blk_lt HO.out.res); replace HO := Aside0.mk (HO.out.below hb5); have BS := Aside0.mk BK5; clear BK5 hb5 hgs) | ((with_reducible refine gate_store (t := 75) rfl ?_); refine wpList_store_whole rfl rfl rfl gs _ #[.string sn, .int .i8 sk, .int .i64 sa] _ rfl rfl BS.out (by kernel_rfl) rfl (sym_one _ _ _) ?_; intro w6 hp; replace HO := Aside0.mk (HO.out.grown (put_grownN hp) (by have := LB.out; have := HO.out.g2; omega) (by have := LG.out; omega) (by have := LR.out; omega) (by have := LB.out; omega)); replace BS := Aside0.mk hp.blk; clear hp; have hco := blk_cell HO.out.obj 4; have hco1 := blk_cell HO.out.obj 1; have hs0 := blk_cell BS.out 0; have hs1 := blk_cell BS.out 1; have hs2 := blk_cell BS.out 2) | (go_at_call 76; refine (object_Name.calls sn _ _ HN.out).mono ?_; rintro e w7 ⟨rfl, hb⟩; replace HO := Aside0.mk (HO.out.below hb); replace BS := Aside0.mk (blk_below BS.out hb); clear hb hs0 hs1 hs2; have hco := blk_cell HO.out.obj 4; have hco1 := blk_cell HO.out.obj 1; have hs0 := blk_cell BS.out 0; have hs1 := blk_cell BS.out 1; have hs2 := blk_cell BS.out 2) | (at_lookup; refine wpList_lookup_seen rfl _ _ 129 rfl 9 4 lawN Tryd.underlying129 Tryd.underlying4 (zeroBN _) b _ _ rfl HO.out.seen _ _ rfl HKY.out trivial ?_; rw [HM.out]) | ((with_reducible refine gate_store (t := 101) rfl ?_); refine wpList_store_whole rfl rfl rfl gr _ #[.int .i64 23, .int .i64 (i : Int)] _ rfl rfl HO.out.res (by kernel_rfl) rfl (two_one _ _) ?_; intro w9 hp; have HE := Aside0.mk (hp.below HO.out.low HO.out.g1); have HP := Aside0.mk hp.blk; clear hp))
      refine bodyPost_ret (results_cell_row rfl _ _ gr 101 #[.int .i64 23, .int .i64 (i : Int)] (0, 0) _ rfl HP.out Tryd.underlying101 rfl (by kernel_rfl)) rfl ?_
      exact ⟨rfl, HE.out⟩
     ·
      rw [if_neg c4] at hse
      have d4 : decide (sk < 0) = false := decide_eq_false c4
      clear c4
      by_cases c3 : sk > 3
      ·
       rw [if_pos c3] at hse
       have d3 : decide (3 < sk) = true := decide_eq_true c3
       clear c3
       rw [hse, if_neg (by decide)] at hstep
       injection hstep with e1 e2
       subst e1 e2
       clear hse
       go_wp2_with (first | ((with_reducible refine gate_dst (N := 5) rfl ?_); refine box_event ?hg (N := 5) ?hd (cs := #[.string ⟨#[]⟩, .int .i8 0, .int .i64 0]) (t := 75) ?hr ?_; (case hd => rfl); (case hg => rfl); (case hr => first | (go_simp; done) | (go_simp; rfl)); intro gs hgs w5 BK5 hb5; have LB := Aside0.mk (show b < gs by rw [hgs]; exact HO.out.seen.lt); have LG := Aside0.mk (show gb < gs by rw [hgs]; exact blk_lt HO.out.obj); have LR := Aside0.mk (show gr < gs by rw [hgs]; exact blk_lt HO.out.res); replace HO := Aside0.mk (HO.out.below hb5); have BS := Aside0.mk BK5; clear BK5 hb5 hgs) | ((with_reducible refine gate_store (t := 75) rfl ?_); refine wpList_store_whole rfl rfl rfl gs _ #[.string sn, .int .i8 sk, .int .i64 sa] _ rfl rfl BS.out (by kernel_rfl) rfl (sym_one _ _ _) ?_; intro w6 hp; replace HO := Aside0.mk (HO.out.grown (put_grownN hp) (by have := LB.out; have := HO.out.g2; omega) (by have := LG.out; omega) (by have := LR.out; omega) (by have := LB.out; omega)); replace BS := Aside0.mk hp.blk; clear hp; have hco := blk_cell HO.out.obj 4; have hco1 := blk_cell HO.out.obj 1; have hs0 := blk_cell BS.out 0; have hs1 := blk_cell BS.out 1; have hs2 := blk_cell BS.out 2) | (go_at_call 76; refine (object_Name.calls sn _ _ HN.out).mono ?_; rintro e w7 ⟨rfl, hb⟩; replace HO := Aside0.mk (HO.out.below hb); replace BS := Aside0.mk (blk_below BS.out hb); clear hb hs0 hs1 hs2; have hco := blk_cell HO.out.obj 4; have hco1 := blk_cell HO.out.obj 1; have hs0 := blk_cell BS.out 0; have hs1 := blk_cell BS.out 1; have hs2 := blk_cell BS.out 2) | (at_lookup; refine wpList_lookup_seen rfl _ _ 129 rfl 9 4 lawN Tryd.underlying129 Tryd.underlying4 (zeroBN _) b _ _ rfl HO.out.seen _ _ rfl HKY.out trivial ?_; rw [HM.out]) | ((with_reducible refine gate_store (t := 101) rfl ?_); refine wpList_store_whole rfl rfl rfl gr _ #[.int .i64 23, .int .i64 (i : Int)] _ rfl rfl HO.out.res (by kernel_rfl) rfl (two_one _ _) ?_; intro w9 hp; have HE := Aside0.mk (hp.below HO.out.low HO.out.g1); have HP := Aside0.mk hp.blk; clear hp))
       refine bodyPost_ret (results_cell_row rfl _ _ gr 101 #[.int .i64 23, .int .i64 (i : Int)] (0, 0) _ rfl HP.out Tryd.underlying101 rfl (by kernel_rfl)) rfl ?_
       exact ⟨rfl, HE.out⟩
      ·
       rw [if_neg c3] at hse
       have d3 : decide (3 < sk) = false := decide_eq_false c3
       clear c3
       by_cases c2 : sa < 0
       ·
        rw [if_pos c2] at hse
        have d2 : decide (sa < 0) = true := decide_eq_true c2
        clear c2
        rw [hse, if_neg (by decide)] at hstep
        injection hstep with e1 e2
        subst e1 e2
        clear hse
        go_wp2_with (first | ((with_reducible refine gate_dst (N := 5) rfl ?_); refine box_event ?hg (N := 5) ?hd (cs := #[.string ⟨#[]⟩, .int .i8 0, .int .i64 0]) (t := 75) ?hr ?_; (case hd => rfl); (case hg => rfl); (case hr => first | (go_simp; done) | (go_simp; rfl)); intro gs hgs w5 BK5 hb5; have LB := Aside0.mk (show b < gs by rw [hgs]; exact HO.out.seen.lt); have LG := Aside0.mk (show gb < gs by rw [hgs]; exact blk_lt HO.out.obj); have LR := Aside0.mk (show gr < gs by rw [hgs]; exact blk_lt HO.out.res); replace HO := Aside0.mk (HO.out.below hb5); have BS := Aside0.mk BK5; clear BK5 hb5 hgs) | ((with_reducible refine gate_store (t := 75) rfl ?_); refine wpList_store_whole rfl rfl rfl gs _ #[.string sn, .int .i8 sk, .int .i64 sa] _ rfl rfl BS.out (by kernel_rfl) rfl (sym_one _ _ _) ?_; intro w6 hp; replace HO := Aside0.mk (HO.out.grown (put_grownN hp) (by have := LB.out; have := HO.out.g2; omega) (by have := LG.out; omega) (by have := LR.out; omega) (by have := LB.out; omega)); replace BS := Aside0.mk hp.blk; clear hp; have hco := blk_cell HO.out.obj 4; have hco1 := blk_cell HO.out.obj 1; have hs0 := blk_cell BS.out 0; have hs1 := blk_cell BS.out 1; have hs2 := blk_cell BS.out 2) | (go_at_call 76; refine (object_Name.calls sn _ _ HN.out).mono ?_; rintro e w7 ⟨rfl, hb⟩; replace HO := Aside0.mk (HO.out.below hb); replace BS := Aside0.mk (blk_below BS.out hb); clear hb hs0 hs1 hs2; have hco := blk_cell HO.out.obj 4; have hco1 := blk_cell HO.out.obj 1; have hs0 := blk_cell BS.out 0; have hs1 := blk_cell BS.out 1; have hs2 := blk_cell BS.out 2) | (at_lookup; refine wpList_lookup_seen rfl _ _ 129 rfl 9 4 lawN Tryd.underlying129 Tryd.underlying4 (zeroBN _) b _ _ rfl HO.out.seen _ _ rfl HKY.out trivial ?_; rw [HM.out]) | ((with_reducible refine gate_store (t := 101) rfl ?_); refine wpList_store_whole rfl rfl rfl gr _ #[.int .i64 22, .int .i64 (i : Int)] _ rfl rfl HO.out.res (by kernel_rfl) rfl (two_one _ _) ?_; intro w9 hp; have HE := Aside0.mk (hp.below HO.out.low HO.out.g1); have HP := Aside0.mk hp.blk; clear hp))
        refine bodyPost_ret (results_cell_row rfl _ _ gr 101 #[.int .i64 22, .int .i64 (i : Int)] (0, 0) _ rfl HP.out Tryd.underlying101 rfl (by kernel_rfl)) rfl ?_
        exact ⟨rfl, HE.out⟩
       ·
        rw [if_neg c2] at hse
        have d2 : decide (sa < 0) = false := decide_eq_false c2
        clear c2
        by_cases c1 : sa > (l0_1.length : Int)
        ·
         rw [if_pos c1] at hse
         have d1 : decide ((l0_1.length : Int) < sa) = true := decide_eq_true c1
         clear c1
         rw [hse, if_neg (by decide)] at hstep
         injection hstep with e1 e2
         subst e1 e2
         clear hse
         go_wp2_with (first | ((with_reducible refine gate_dst (N := 5) rfl ?_); refine box_event ?hg (N := 5) ?hd (cs := #[.string ⟨#[]⟩, .int .i8 0, .int .i64 0]) (t := 75) ?hr ?_; (case hd => rfl); (case hg => rfl); (case hr => first | (go_simp; done) | (go_simp; rfl)); intro gs hgs w5 BK5 hb5; have LB := Aside0.mk (show b < gs by rw [hgs]; exact HO.out.seen.lt); have LG := Aside0.mk (show gb < gs by rw [hgs]; exact blk_lt HO.out.obj); have LR := Aside0.mk (show gr < gs by rw [hgs]; exact blk_lt HO.out.res); replace HO := Aside0.mk (HO.out.below hb5); have BS := Aside0.mk BK5; clear BK5 hb5 hgs) | ((with_reducible refine gate_store (t := 75) rfl ?_); refine wpList_store_whole rfl rfl rfl gs _ #[.string sn, .int .i8 sk, .int .i64 sa] _ rfl rfl BS.out (by kernel_rfl) rfl (sym_one _ _ _) ?_; intro w6 hp; replace HO := Aside0.mk (HO.out.grown (put_grownN hp) (by have := LB.out; have := HO.out.g2; omega) (by have := LG.out; omega) (by have := LR.out; omega) (by have := LB.out; omega)); replace BS := Aside0.mk hp.blk; clear hp; have hco := blk_cell HO.out.obj 4; have hco1 := blk_cell HO.out.obj 1; have hs0 := blk_cell BS.out 0; have hs1 := blk_cell BS.out 1; have hs2 := blk_cell BS.out 2) | (go_at_call 76; refine (object_Name.calls sn _ _ HN.out).mono ?_; rintro e w7 ⟨rfl, hb⟩; replace HO := Aside0.mk (HO.out.below hb); replace BS := Aside0.mk (blk_below BS.out hb); clear hb hs0 hs1 hs2; have hco := blk_cell HO.out.obj 4; have hco1 := blk_cell HO.out.obj 1; have hs0 := blk_cell BS.out 0; have hs1 := blk_cell BS.out 1; have hs2 := blk_cell BS.out 2) | (at_lookup; refine wpList_lookup_seen rfl _ _ 129 rfl 9 4 lawN Tryd.underlying129 Tryd.underlying4 (zeroBN _) b _ _ rfl HO.out.seen _ _ rfl HKY.out trivial ?_; rw [HM.out]) | ((with_reducible refine gate_store (t := 101) rfl ?_); refine wpList_store_whole rfl rfl rfl gr _ #[.int .i64 22, .int .i64 (i : Int)] _ rfl rfl HO.out.res (by kernel_rfl) rfl (two_one _ _) ?_; intro w9 hp; have HE := Aside0.mk (hp.below HO.out.low HO.out.g1); have HP := Aside0.mk hp.blk; clear hp))
         refine bodyPost_ret (results_cell_row rfl _ _ gr 101 #[.int .i64 22, .int .i64 (i : Int)] (0, 0) _ rfl HP.out Tryd.underlying101 rfl (by kernel_rfl)) rfl ?_
         exact ⟨rfl, HE.out⟩
        ·
         rw [if_neg c1] at hse
         have d1 : decide ((l0_1.length : Int) < sa) = false := decide_eq_false c1
         clear c1
         by_cases k3 : sk = 3
         ·
          rw [if_pos k3] at hse
          have k3b : (sk == 3) = true := beq_iff_eq.mpr k3
          by_cases a0 : sa = 0
          ·
           rw [if_pos a0] at hse
           have a0b : (sa == 0) = true := beq_iff_eq.mpr a0
           have a0c : (sa != 0) = false := bne_eq_false_iff_eq.mpr a0
           clear a0 k3
           rw [hse, if_pos rfl] at hstep
           have HF := Aside0.mk hstep.symm
           clear hstep hse
           go_wp2_with (first | ((with_reducible refine gate_dst (N := 5) rfl ?_); refine box_event ?hg (N := 5) ?hd (cs := #[.string ⟨#[]⟩, .int .i8 0, .int .i64 0]) (t := 75) ?hr ?_; (case hd => rfl); (case hg => rfl); (case hr => first | (go_simp; done) | (go_simp; rfl)); intro gs hgs w5 BK5 hb5; have LB := Aside0.mk (show b < gs by rw [hgs]; exact HO.out.seen.lt); have LG := Aside0.mk (show gb < gs by rw [hgs]; exact blk_lt HO.out.obj); have LR := Aside0.mk (show gr < gs by rw [hgs]; exact blk_lt HO.out.res); replace HO := Aside0.mk (HO.out.below hb5); have BS := Aside0.mk BK5; clear BK5 hb5 hgs) | ((with_reducible refine gate_store (t := 75) rfl ?_); refine wpList_store_whole rfl rfl rfl gs _ #[.string sn, .int .i8 sk, .int .i64 sa] _ rfl rfl BS.out (by kernel_rfl) rfl (sym_one _ _ _) ?_; intro w6 hp; replace HO := Aside0.mk (HO.out.grown (put_grownN hp) (by have := LB.out; have := HO.out.g2; omega) (by have := LG.out; omega) (by have := LR.out; omega) (by have := LB.out; omega)); replace BS := Aside0.mk hp.blk; clear hp; have hco := blk_cell HO.out.obj 4; have hco1 := blk_cell HO.out.obj 1; have hs0 := blk_cell BS.out 0; have hs1 := blk_cell BS.out 1; have hs2 := blk_cell BS.out 2) | (go_at_call 76; refine (object_Name.calls sn _ _ HN.out).mono ?_; rintro e w7 ⟨rfl, hb⟩; replace HO := Aside0.mk (HO.out.below hb); replace BS := Aside0.mk (blk_below BS.out hb); clear hb hs0 hs1 hs2; have hco := blk_cell HO.out.obj 4; have hco1 := blk_cell HO.out.obj 1; have hs0 := blk_cell BS.out 0; have hs1 := blk_cell BS.out 1; have hs2 := blk_cell BS.out 2) | (at_lookup; refine wpList_lookup_seen rfl _ _ 129 rfl 9 4 lawN Tryd.underlying129 Tryd.underlying4 (zeroBN _) b _ _ rfl HO.out.seen _ _ rfl HKY.out trivial ?_; rw [HM.out]) | (at_mapUpdate; refine wpList_update_seen rfl _ _ _ 129 rfl 9 4 lawN Tryd.underlying129 Tryd.underlying4 b _ _ rfl HO.out.seen (by have := HL.out; unfold maxLen; omega) _ _ rfl rfl HKY.out trivial ?_; intro w8 hs8 hg8; replace HO := Aside0.mk (HO.out.add hg8 hs8); clear hs8 hg8))
           go_roundw
           case measure => simp [intOf]; omega
           case rel => exact ⟨i + 1, by first | rfl | (simp; done) | (simp [*]; done), by omega, HF, ⟨by rw [HNS.out]; exact HO.out⟩⟩
          ·
           rw [if_neg a0] at hse
           have a0b : (sa == 0) = false := beq_eq_false_iff_ne.mpr a0
           have a0c : (sa != 0) = true := bne_iff_ne.mpr a0
           clear a0 k3
           rw [hse, if_neg (by decide)] at hstep
           injection hstep with e1 e2
           subst e1 e2
           clear hse
           go_wp2_with (first | ((with_reducible refine gate_dst (N := 5) rfl ?_); refine box_event ?hg (N := 5) ?hd (cs := #[.string ⟨#[]⟩, .int .i8 0, .int .i64 0]) (t := 75) ?hr ?_; (case hd => rfl); (case hg => rfl); (case hr => first | (go_simp; done) | (go_simp; rfl)); intro gs hgs w5 BK5 hb5; have LB := Aside0.mk (show b < gs by rw [hgs]; exact HO.out.seen.lt); have LG := Aside0.mk (show gb < gs by rw [hgs]; exact blk_lt HO.out.obj); have LR := Aside0.mk (show gr < gs by rw [hgs]; exact blk_lt HO.out.res); replace HO := Aside0.mk (HO.out.below hb5); have BS := Aside0.mk BK5; clear BK5 hb5 hgs) | ((with_reducible refine gate_store (t := 75) rfl ?_); refine wpList_store_whole rfl rfl rfl gs _ #[.string sn, .int .i8 sk, .int .i64 sa] _ rfl rfl BS.out (by kernel_rfl) rfl (sym_one _ _ _) ?_; intro w6 hp; replace HO := Aside0.mk (HO.out.grown (put_grownN hp) (by have := LB.out; have := HO.out.g2; omega) (by have := LG.out; omega) (by have := LR.out; omega) (by have := LB.out; omega)); replace BS := Aside0.mk hp.blk; clear hp; have hco := blk_cell HO.out.obj 4; have hco1 := blk_cell HO.out.obj 1; have hs0 := blk_cell BS.out 0; have hs1 := blk_cell BS.out 1; have hs2 := blk_cell BS.out 2) | (go_at_call 76; refine (object_Name.calls sn _ _ HN.out).mono ?_; rintro e w7 ⟨rfl, hb⟩; replace HO := Aside0.mk (HO.out.below hb); replace BS := Aside0.mk (blk_below BS.out hb); clear hb hs0 hs1 hs2; have hco := blk_cell HO.out.obj 4; have hco1 := blk_cell HO.out.obj 1; have hs0 := blk_cell BS.out 0; have hs1 := blk_cell BS.out 1; have hs2 := blk_cell BS.out 2) | (at_lookup; refine wpList_lookup_seen rfl _ _ 129 rfl 9 4 lawN Tryd.underlying129 Tryd.underlying4 (zeroBN _) b _ _ rfl HO.out.seen _ _ rfl HKY.out trivial ?_; rw [HM.out]) | ((with_reducible refine gate_store (t := 101) rfl ?_); refine wpList_store_whole rfl rfl rfl gr _ #[.int .i64 22, .int .i64 (i : Int)] _ rfl rfl HO.out.res (by kernel_rfl) rfl (two_one _ _) ?_; intro w9 hp; have HE := Aside0.mk (hp.below HO.out.low HO.out.g1); have HP := Aside0.mk hp.blk; clear hp))
           refine bodyPost_ret (results_cell_row rfl _ _ gr 101 #[.int .i64 22, .int .i64 (i : Int)] (0, 0) _ rfl HP.out Tryd.underlying101 rfl (by kernel_rfl)) rfl ?_
           exact ⟨rfl, HE.out⟩
         ·
          rw [if_neg k3] at hse
          have k3b : (sk == 3) = false := beq_eq_false_iff_ne.mpr k3
          clear k3
          rw [hse, if_pos rfl] at hstep
          have HF := Aside0.mk hstep.symm
          clear hstep hse
          go_wp2_with (first | ((with_reducible refine gate_dst (N := 5) rfl ?_); refine box_event ?hg (N := 5) ?hd (cs := #[.string ⟨#[]⟩, .int .i8 0, .int .i64 0]) (t := 75) ?hr ?_; (case hd => rfl); (case hg => rfl); (case hr => first | (go_simp; done) | (go_simp; rfl)); intro gs hgs w5 BK5 hb5; have LB := Aside0.mk (show b < gs by rw [hgs]; exact HO.out.seen.lt); have LG := Aside0.mk (show gb < gs by rw [hgs]; exact blk_lt HO.out.obj); have LR := Aside0.mk (show gr < gs by rw [hgs]; exact blk_lt HO.out.res); replace HO := Aside0.mk (HO.out.below hb5); have BS := Aside0.mk BK5; clear BK5 hb5 hgs) | ((with_reducible refine gate_store (t := 75) rfl ?_); refine wpList_store_whole rfl rfl rfl gs _ #[.string sn, .int .i8 sk, .int .i64 sa] _ rfl rfl BS.out (by kernel_rfl) rfl (sym_one _ _ _) ?_; intro w6 hp; replace HO := Aside0.mk (HO.out.grown (put_grownN hp) (by have := LB.out; have := HO.out.g2; omega) (by have := LG.out; omega) (by have := LR.out; omega) (by have := LB.out; omega)); replace BS := Aside0.mk hp.blk; clear hp; have hco := blk_cell HO.out.obj 4; have hco1 := blk_cell HO.out.obj 1; have hs0 := blk_cell BS.out 0; have hs1 := blk_cell BS.out 1; have hs2 := blk_cell BS.out 2) | (go_at_call 76; refine (object_Name.calls sn _ _ HN.out).mono ?_; rintro e w7 ⟨rfl, hb⟩; replace HO := Aside0.mk (HO.out.below hb); replace BS := Aside0.mk (blk_below BS.out hb); clear hb hs0 hs1 hs2; have hco := blk_cell HO.out.obj 4; have hco1 := blk_cell HO.out.obj 1; have hs0 := blk_cell BS.out 0; have hs1 := blk_cell BS.out 1; have hs2 := blk_cell BS.out 2) | (at_lookup; refine wpList_lookup_seen rfl _ _ 129 rfl 9 4 lawN Tryd.underlying129 Tryd.underlying4 (zeroBN _) b _ _ rfl HO.out.seen _ _ rfl HKY.out trivial ?_; rw [HM.out]) | (at_mapUpdate; refine wpList_update_seen rfl _ _ _ 129 rfl 9 4 lawN Tryd.underlying129 Tryd.underlying4 b _ _ rfl HO.out.seen (by have := HL.out; unfold maxLen; omega) _ _ rfl rfl HKY.out trivial ?_; intro w8 hs8 hg8; replace HO := Aside0.mk (HO.out.add hg8 hs8); clear hs8 hg8))
          go_roundw
          case measure => simp [intOf]; omega
          case rel => exact ⟨i + 1, by first | rfl | (simp; done) | (simp [*]; done), by omega, HF, ⟨by rw [HNS.out]; exact HO.out⟩⟩
   ·
    rw [if_neg cn] at hse
    have cn : nb = false := by simpa using cn
    subst cn
    clear hnb
    rw [hse, if_neg (by decide)] at hstep
    injection hstep with e1 e2
    subst e1 e2
    clear hse
    go_wp2_with (first | ((with_reducible refine gate_dst (N := 5) rfl ?_); refine box_event ?hg (N := 5) ?hd (cs := #[.string ⟨#[]⟩, .int .i8 0, .int .i64 0]) (t := 75) ?hr ?_; (case hd => rfl); (case hg => rfl); (case hr => first | (go_simp; done) | (go_simp; rfl)); intro gs hgs w5 BK5 hb5; have LB := Aside0.mk (show b < gs by rw [hgs]; exact HO.out.seen.lt); have LG := Aside0.mk (show gb < gs by rw [hgs]; exact blk_lt HO.out.obj); have LR := Aside0.mk (show gr < gs by rw [hgs]; exact blk_lt HO.out.res); replace HO := Aside0.mk (HO.out.below hb5); have BS := Aside0.mk BK5; clear BK5 hb5 hgs) | ((with_reducible refine gate_store (t := 75) rfl ?_); refine wpList_store_whole rfl rfl rfl gs _ #[.string sn, .int .i8 sk, .int .i64 sa] _ rfl rfl BS.out (by kernel_rfl) rfl (sym_one _ _ _) ?_; intro w6 hp; replace HO := Aside0.mk (HO.out.grown (put_grownN hp) (by have := LB.out; have := HO.out.g2; omega) (by have := LG.out; omega) (by have := LR.out; omega) (by have := LB.out; omega)); replace BS := Aside0.mk hp.blk; clear hp; have hco := blk_cell HO.out.obj 4; have hco1 := blk_cell HO.out.obj 1; have hs0 := blk_cell BS.out 0; have hs1 := blk_cell BS.out 1; have hs2 := blk_cell BS.out 2) | (go_at_call 76; refine (object_Name.calls sn _ _ HN.out).mono ?_; rintro e w7 ⟨rfl, hb⟩; replace HO := Aside0.mk (HO.out.below hb); replace BS := Aside0.mk (blk_below BS.out hb); clear hb hs0 hs1 hs2; have hco := blk_cell HO.out.obj 4; have hco1 := blk_cell HO.out.obj 1; have hs0 := blk_cell BS.out 0; have hs1 := blk_cell BS.out 1; have hs2 := blk_cell BS.out 2) | ((with_reducible refine gate_store (t := 101) rfl ?_); refine wpList_store_whole rfl rfl rfl gr _ #[.int .i64 20, .int .i64 (i : Int)] _ rfl rfl HO.out.res (by kernel_rfl) rfl (two_one _ _) ?_; intro w9 hp; have HE := Aside0.mk (hp.below HO.out.low HO.out.g1); have HP := Aside0.mk hp.blk; clear hp))
    refine bodyPost_ret (results_cell_row rfl _ _ gr 101 #[.int .i64 20, .int .i64 (i : Int)] (0, 0) _ rfl HP.out Tryd.underlying101 rfl (by kernel_rfl)) rfl ?_
    exact ⟨rfl, HE.out⟩
  ·
   have : i = l0_4.length := by omega
   subst this
   have hltb : decide ((l0_4.length : Int) < (l0_4.length : Int)) = false := by simp
   have hf : ((0 : Int), (0 : Int)) = (r1, r2) := by
    have := HF.out
    rw [Nat.sub_self] at this
    exact this
   injection hf with e1 e2
   subst e1 e2
   clear hlt hile
   go_wp2_with (first | ((with_reducible refine gate_store (t := 101) rfl ?_); refine wpList_store_whole rfl rfl rfl gr _ #[.int .i64 0, .int .i64 0] _ rfl rfl HO.out.res (by kernel_rfl) rfl (two_one _ _) ?_; intro w9 hp; have HE := Aside0.mk (hp.below HO.out.low HO.out.g1); have HP := Aside0.mk hp.blk; clear hp))
   refine bodyPost_ret (results_cell_row rfl _ _ gr 101 #[.int .i64 0, .int .i64 0] (0, 0) _ rfl HP.out Tryd.underlying101 rfl (by kernel_rfl)) rfl ?_
   exact ⟨rfl, HE.out⟩

end Go.Proofs.YtiaohbbafaaibabDoor.P

/- OWN TEXT: a map from names (a text, and whether it is Weak) to places, that a call has made: what it holds, how it answers, how a new entry turns it. -/
namespace Go.Proofs.YtiaohbbafaaibabDoor.SymM
open Go.RowKit Go.Maps Go.ChangeMaps Go.Proofs.YtiaohbbafaaibabDoorW.PrintWords Go.Proofs.YtiaohbbafaaibabDoorW.PrintLast Go.Proofs.YtiaohbbafaaibabDoorW.PrintMore Go.Proofs.YtiaohbbafaaibabDoor.Arr Go.Proofs.YtiaohbbafaaibabDoor.P
set_option linter.unusedVariables false
set_option linter.unusedSimpArgs false

structure Ent where
  s : ByteArray
  f : Bool
  i : Int
  a : Int
def kEnc (s : ByteArray) (f : Bool) : Value := .agg #[.string s, .bool f]
def vEnc (i a : Int) : Value := .agg #[.int .i64 i, .int .i64 a]
def findE (L : List Ent) (s : ByteArray) (f : Bool) : Option (Int × Int) := (L.find? fun x => decide (x.s = s) && x.f == f).map fun x => (x.i, x.a)
def vOf : Option (Int × Int) → Value | none => vEnc 0 0 | some (i, a) => vEnc i a
def NMap (W : World) (b : Nat) (L : List Ent) : Prop := ∃ es clock, W.heap[b]? = some (.map es clock) ∧ es.toList.map (fun e => (e.key, e.val)) = L.map fun x => (kEnc x.s x.f, vEnc x.i x.a)
theorem NMap.made (w : World) : NMap (w.alloc (.map #[] 0)) w.heap.size [] := ⟨#[], 0, (MapKept.heap_alloc w _).1, rfl⟩
theorem NMap.lt {W : World} {b : Nat} {L : List Ent} (h : NMap W b L) : b < W.heap.size := by
 obtain ⟨es, clock, hb, _⟩ := h
 exact (Array.getElem?_eq_some_iff.1 hb).1
theorem NMap.kept {W W1 : World} {b : Nat} {L : List Ent} {row : Option Nat} (h : NMap W b L) (hg : W.grownBy W1 row) (hne : some b ≠ row) : NMap W1 b L := by
 have hlt := h.lt
 obtain ⟨es, clock, hb, hL⟩ := h
 exact ⟨es, clock, (hg.block b hlt hne).trans hb, hL⟩
theorem NMap.below {W W1 : World} {b : Nat} {L : List Ent} (h : NMap W b L) (hb : Below W.heap.size W W1) : NMap W1 b L := h.kept (grown_of_below hb none) (by simp)
theorem beq_dec (s t : ByteArray) : (s == t) = decide (s = t) := by
 cases s; cases t
 rename_i a b
 show (a == b) = _
 rw [Bool.eq_iff_iff, beq_iff_eq, decide_eq_true_eq]
 constructor
 ·
  intro h; rw [h]
 ·
  intro h; injection h
theorem eqKey (w : World) (s t : ByteArray) (f g : Bool) : (Op.equal 156 (kEnc s f) (kEnc t g)).run Tryd.prog w = .ok (s == t && f == g) w := by
 refine eqA_of (d := 9999) Tryd.underlying156 (by kernel_rfl) ?_
 refine eqf_cons (r := (s == t)) (a := .string s) (b := .string t) (by rfl) (by kernel_rfl) (by kernel_rfl) (by kernel_rfl) ?_
 exact eqf_last (a := .bool f) (b := .bool g) (by rfl) (by kernel_rfl) (by kernel_rfl) (by kernel_rfl)
theorem checkKey (w : World) (e : Bool) (s : ByteArray) (f : Bool) : (Instr.checkKey e 10000 156 (kEnc s f)).run Tryd.prog w = .ok () w := by kernel_rfl
theorem zeroDef (w : World) : (zeroValue 59).run Tryd.prog w = .ok (vEnc 0 0) w := by kernel_rfl
theorem asking (w : World) (s : ByteArray) (f : Bool) : ∀ (es : List MapEntry) (L : List Ent) (n : Nat), es.map (fun e => (e.key, e.val)) = L.map (fun x => (kEnc x.s x.f, vEnc x.i x.a)) →
    ∃ j, (Instr.findAsking 156 (kEnc s f) es n).run Tryd.prog w = .ok ((findE L s f).map fun x => (j, vEnc x.1 x.2)) w
  | [], [], n, _ => ⟨0, by simp [Instr.findAsking, findE]⟩
  | [], _ :: _, n, h => by simp at h
  | _ :: _, [], n, h => by simp at h
  | e :: es, x :: L, n, h => by
    simp only [List.map_cons, List.cons.injEq, Prod.mk.injEq] at h
    obtain ⟨⟨h1, h2⟩, h3⟩ := h
    obtain ⟨j, IH⟩ := asking w s f es L (n + 1) h3
    rw [Instr.findAsking]
    simp only [Sem.run_bind, h1, eqKey, Result.andThen_ok]
    have hc : (s == x.s && f == x.f) = (decide (x.s = s) && x.f == f) := by
      rw [beq_dec, Bool.eq_iff_iff]
      simp only [Bool.and_eq_true, beq_iff_eq, decide_eq_true_eq]
      constructor <;> rintro ⟨a, b⟩ <;> exact ⟨a.symm, b.symm⟩
    rw [hc]
    unfold findE
    rw [List.find?_cons]
    cases hq : (decide (x.s = s) && x.f == f)
    · simp only [Bool.false_eq_true, if_false]
      exact ⟨j, IH⟩
    · refine ⟨n, ?_⟩
      simp [h2]
theorem findKey (w : World) (s : ByteArray) (f : Bool) (es : List MapEntry) (L : List Ent) (h : es.map (fun e => (e.key, e.val)) = L.map (fun x => (kEnc x.s x.f, vEnc x.i x.a))) :
    ∃ j, (Instr.findKey 156 (kEnc s f) es).run Tryd.prog w = .ok ((findE L s f).map fun x => (j, vEnc x.1 x.2)) w := by
  cases es with
  | nil =>
    cases L with
    | nil => exact ⟨0, by simp [Instr.findKey, Instr.findNow, findE, run_underlying Tryd.underlying156, Result.andThen]⟩
    | cons x L => simp at h
  | cons e es =>
    obtain ⟨j, hj⟩ := asking w s f (e :: es) L 0 h
    refine ⟨j, ?_⟩
    rw [← hj]
    simp only [Instr.findKey, Sem.run_bind, run_underlying Tryd.underlying156, Result.andThen_ok]
    rfl
theorem NMap.lookup {W : World} {b : Nat} {L : List Ent} (h : NMap W b L) (s : ByteArray) (f : Bool) : (Instr.lookup 132 (.map (some b)) (kEnc s f) true).run Tryd.prog W = .ok (.tuple #[vOf (findE L s f), .bool (findE L s f).isSome]) W := by
 obtain ⟨es, clock, hb, hL⟩ := h
 obtain ⟨j, hj⟩ := findKey W s f es.toList L hL
 simp only [Instr.lookup, Sem.run_bind, run_underlying Tryd.underlying132, Result.andThen_ok, MapKept.run_getObj_map hb, Sem.run_pure, checkKey, hj]
 cases findE L s f with
 | none => simp [zeroDef, vOf, vEnc, Result.andThen]
 | some x => simp [vOf, Result.andThen]
theorem NMap.update {W : World} {b : Nat} {L : List Ent} (h : NMap W b L) (s : ByteArray) (f : Bool) (i a : Int) (hn : findE L s f = none) :
  ∃ W', (Instr.mapUpdate 132 (.map (some b)) (kEnc s f) (vEnc i a)).run Tryd.prog W = .ok () W' ∧ NMap W' b (L ++ [⟨s, f, i, a⟩]) ∧ W.grownBy W' (some b) := by
 obtain ⟨es, clock, hb, hL⟩ := h
 obtain ⟨j, hj⟩ := findKey W s f es.toList L hL
 rw [hn] at hj
 refine ⟨setBlock W b (.map (es.push { key := kEnc s f, val := vEnc i a, born := clock }) (clock + 1)), ?_, ⟨_, _, heap_setBlock_same hb _, ?_⟩, ⟨rfl, rfl, rfl, by simp [setBlock], fun i _ hi => heap_setBlock_other hb _ (fun e => hi (by rw [e]))⟩⟩
 ·
  simp [Instr.mapUpdate, run_underlying Tryd.underlying132, MapKept.run_getObj_map hb, checkKey, hj, MapKept.run_setObj_map _ hb, Result.andThen, setBlock]
 ·
  rw [Array.toList_push, List.map_append, List.map_append, hL]
  rfl
section
variable {P : Program} {ops : Array Oper} {rest : List Oper} {o : Oper} {a : Act} {Q : Exit → Act → World → Prop} {w : World}
theorem wpList_lookup_name (hg : o.guard = none) (m x : Operand) (hop : o.op = Op.lookup 132 m x true) (b : Nat) (L : List Ent) (hm : a.eval m = .map (some b)) (hs : NMap w b L) (s : ByteArray) (f : Bool) (hx : a.eval x = kEnc s f)
  (hK : wpList Tryd.prog ops Q rest (a.put o.dst (.tuple #[vOf (findE L s f), .bool (findE L s f).isSome])) w) : wpList Tryd.prog ops Q (o :: rest) a w := by
 refine wpList_plain hg fun K' hK' => ?_
 have hrun := hs.lookup s f
 unfold Oper.wp
 simp [execOp, hop, hm, hx, hrun, Result.andThen]
 exact hK' _ _ hK
theorem wpList_update_name (hg : o.guard = none) (m x v : Operand) (hop : o.op = Op.mapUpdate 132 m x v) (b : Nat) (L : List Ent) (hm : a.eval m = .map (some b)) (hs : NMap w b L) (s : ByteArray) (f : Bool) (i q : Int) (hx : a.eval x = kEnc s f) (hv : a.eval v = vEnc i q) (hn : findE L s f = none)
  (hK : ∀ w', NMap w' b (L ++ [⟨s, f, i, q⟩]) → w.grownBy w' (some b) → wpList Tryd.prog ops Q rest (a.put o.dst undef) w') : wpList Tryd.prog ops Q (o :: rest) a w := by
 refine wpList_plain hg fun K' hK' => ?_
 obtain ⟨w', hrun, r1, r2⟩ := hs.update s f i q hn
 unfold Oper.wp
 simp [execOp, hop, hm, hx, hv, hrun, Result.andThen]
 exact hK' _ _ (hK w' r1 r2)
theorem wpList_make_names {W : World} (hgd : o.guard = none) {N : Tmp} (_hd : o.dst = some N) (hop : o.op = Op.makeMap 132 none)
  (hrun : (execOp a.eval o).run Tryd.prog W = .ok (.value (.map (some W.heap.size))) (W.alloc (.map #[] 0)))
  (h : ∀ g, g = W.heap.size → ∀ w1, NMap w1 g [] → Below W.heap.size W w1 → wpList Tryd.prog ops Q rest (a.put o.dst (.map (some g))) w1) : wpList Tryd.prog ops Q (o :: rest) a W :=
 Kd.event_run hgd hrun (h _ rfl _ (NMap.made W) (below_alloc (Below.refl _ _) _))
end
end Go.Proofs.YtiaohbbafaaibabDoor.SymM

/- OWN TEXT: what a name's being put and being found come to. -/
namespace Go.Proofs.YtiaohbbafaaibabDoor.P
open Go.RowKit Go.Maps Go.Proofs.YtiaohbbafaaibabDoorW.PrintWords Go.Proofs.YtiaohbbafaaibabDoorW.PrintLast Go.Proofs.YtiaohbbafaaibabDoorW.PrintMore Go.Proofs.YtiaohbbafaaibabDoor.Arr Go.Proofs.YtiaohbbafaaibabDoor.SymM
set_option linter.unusedVariables false
set_option linter.unusedSimpArgs false

theorem grownT {w0 w1 w2 : World} {row : Option Nat} (h : w0.grownBy w1 row) (h2 : w1.grownBy w2 row) : w0.grownBy w2 row :=
 ⟨h2.os.trans h.os, h2.tape.trans h.tape, h2.output.trans h.output, Nat.le_trans h.size h2.size, fun k hk hne => (h2.block k (Nat.lt_of_lt_of_le hk h.size) hne).trans (h.block k hk hne)⟩
def putB (L : List Ent) (s : ByteArray) (k : Int) : Bool := if k = 1 then (findE L s false).isSome else if k = 2 then (findE L s true).isSome else false
def putL (L : List Ent) (s : ByteArray) (k a i : Int) : List Ent := if k = 1 then (if (findE L s false).isSome = true then L else L ++ [⟨s, false, i, a⟩]) else if k = 2 then (if (findE L s true).isSome = true then L else L ++ [⟨s, true, i, a⟩]) else L
structure PW (W0 W : World) (b : Nat) (L : List Ent) : Prop where
  nm : NMap W b L
  gr : W0.grownBy W (some b)
  old : b < W0.heap.size
theorem PW.below {W0 W W1 : World} {b : Nat} {L : List Ent} (h : PW W0 W b L) (hb : Below W.heap.size W W1) : PW W0 W1 b L := ⟨h.nm.below hb, grownT h.gr (grown_of_below hb _), h.old⟩
theorem grown_put {W0 W W1 : World} {g : Nat} {cs : Array Value} {e : TypeId} {row : Option Nat} (h : W0.grownBy W row) (hp : Put W W1 g cs e) (hg : W0.heap.size ≤ g) : W0.grownBy W1 row :=
 ⟨(put_grownN hp).os.trans h.os, (put_grownN hp).tape.trans h.tape, (put_grownN hp).output.trans h.output, Nat.le_trans h.size (Nat.le_of_eq hp.size.symm), fun k hk hne => (hp.far k (by omega)).trans (h.block k hk hne)⟩
theorem PW.put {W0 W W1 : World} {b g : Nat} {L : List Ent} {cs : Array Value} {e : TypeId} (h : PW W0 W b L) (hp : Put W W1 g cs e) (hg : W0.heap.size ≤ g) : PW W0 W1 b L :=
 ⟨h.nm.kept (put_grownN hp) (fun e => by have := h.old; have := Option.some.inj e; omega), grown_put h.gr hp hg, h.old⟩
theorem PW.upd {W0 W W1 : World} {b : Nat} {L L' : List Ent} (h : PW W0 W b L) (hn : NMap W1 b L') (hg : W.grownBy W1 (some b)) : PW W0 W1 b L' := ⟨hn, grownT h.gr hg, h.old⟩
theorem key_one (s : ByteArray) (f : Bool) : ((#[.string s, .bool f] : Array Value).all fun v => v.oneCell') = true := by kernel_rfl
theorem def_one (i a : Int) : ((#[.int .i64 i, .int .i64 a] : Array Value).all fun v => v.oneCell') = true := by kernel_rfl

set_option maxHeartbeats 4000000 in
set_option maxRecDepth 100000 in
theorem put.calls (sn : ByteArray) (sk sa i : Int) (W : World) (b : Nat) (L : List Ent) (hN : NMap W b L) :
  Calls Tryd.prog 78 #[.map (some b), .agg #[.string sn, .int .i8 sk, .int .i64 sa], .int .i64 i] W fun e w' => e = .returned (.bool (putB L sn sk)) ∧ NMap w' b (putL L sn sk sa i) ∧ W.grownBy w' (some b) := by
 have hu1 := Tryd.underlying75
 have hu2 := Tryd.underlying156
 have hu3 := Tryd.underlying59
 have HP := Aside0.mk (show PW W W b L from ⟨hN, grown_of_below (Below.refl _ _) _, hN.lt⟩)
 clear hN
 by_cases k1 : sk = 1
 ·
  subst k1
  obtain ⟨fr, hfr⟩ : ∃ fr, findE L sn false = fr := ⟨_, rfl⟩
  cases fr with
  | some x =>
   obtain ⟨xi, xa⟩ := x
   have hb : putB L sn 1 = true := by unfold putB; rw [if_pos rfl, hfr]; rfl
   have hl : putL L sn 1 sa i = L := by unfold putL; rw [if_pos rfl, hfr]; rfl
   rw [hb, hl]
   clear hb hl
   have HF := Aside0.mk hfr
   clear hfr
   go_enter Tryd.func78, Tryd.ntmps78
   go_wp2_with (first | ((with_reducible refine gate_dst (N := 4) rfl ?_); refine box_event ?hg (N := 4) ?hd (cs := #[.string sn, .int .i8 1, .int .i64 sa]) (t := 75) ?hr ?_; (case hd => rfl); (case hg => rfl); (case hr => first | (go_simp; done) | (go_simp; rfl)); intro gs hgs w1 BK1 hb1; have BS := Aside0.mk BK1; have GS := Aside0.mk (show W.heap.size ≤ gs by rw [hgs]; exact HP.out.gr.size); replace HP := Aside0.mk (HP.out.below hb1); clear BK1 hb1 hgs; have hs0 := blk_cell BS.out 0; have hs1 := blk_cell BS.out 1; have hs2 := blk_cell BS.out 2) | ((with_reducible refine gate_dst (N := 7) rfl ?_); refine box_event ?hg (N := 7) ?hd (cs := #[.string (⟨#[]⟩ : ByteArray), .bool false]) (t := 156) ?hr ?_; (case hd => rfl); (case hg => rfl); (case hr => first | (go_simp; done) | (go_simp; rfl)); intro gk hgk w2 BK2 hb2; have BK := Aside0.mk BK2; have GK := Aside0.mk (show W.heap.size ≤ gk by rw [hgk]; exact HP.out.gr.size); have LS := Aside0.mk (show gs < gk by rw [hgk]; exact blk_lt BS.out); replace HP := Aside0.mk (HP.out.below hb2); replace BS := Aside0.mk (blk_below BS.out hb2); clear BK2 hb2 hgk hs0 hs1 hs2; have hs0 := blk_cell BS.out 0; have hs1 := blk_cell BS.out 1; have hs2 := blk_cell BS.out 2) | ((with_reducible refine gate_store (t := 156) rfl ?_); refine wpList_store_whole rfl rfl rfl gk _ #[.string sn, .bool false] _ rfl rfl BK.out (by kernel_rfl) rfl (key_one _ _) ?_; intro w3 hp; replace HP := Aside0.mk (HP.out.put hp GK.out); replace BS := Aside0.mk (blk_grown BS.out (put_grownN hp) (fun e => by have := LS.out; have := Option.some.inj e; omega)); replace BK := Aside0.mk hp.blk; clear hp hs0 hs1 hs2; have hs0 := blk_cell BS.out 0; have hs1 := blk_cell BS.out 1; have hs2 := blk_cell BS.out 2; have hk0 := blk_cell BK.out 0; have hk1 := blk_cell BK.out 1) | (at_lookup; refine wpList_lookup_name rfl _ _ rfl b L rfl HP.out.nm sn false rfl ?_; rw [HF.out]; simp only [vOf, vEnc, Option.isSome]) | ((with_reducible refine gate_dst (N := 8) rfl ?_); refine box_event ?hg (N := 8) ?hd (cs := #[.int .i64 0, .int .i64 0]) (t := 59) ?hr ?_; (case hd => rfl); (case hg => rfl); (case hr => first | (go_simp; done) | (go_simp; rfl)); intro gd hgd w4 BK4 hb4; have BD := Aside0.mk BK4; have GD := Aside0.mk (show W.heap.size ≤ gd by rw [hgd]; exact HP.out.gr.size); have LD := Aside0.mk (show gs < gd by rw [hgd]; exact blk_lt BS.out); have LK := Aside0.mk (show gk < gd by rw [hgd]; exact blk_lt BK.out); replace HP := Aside0.mk (HP.out.below hb4); replace BS := Aside0.mk (blk_below BS.out hb4); replace BK := Aside0.mk (blk_below BK.out hb4); clear BK4 hb4 hgd hs0 hs1 hs2 hk0 hk1; have hs0 := blk_cell BS.out 0; have hs1 := blk_cell BS.out 1; have hs2 := blk_cell BS.out 2; have hk0 := blk_cell BK.out 0; have hk1 := blk_cell BK.out 1) | ((with_reducible refine gate_store (t := 59) rfl ?_); refine wpList_store_whole rfl rfl rfl gd _ #[.int .i64 xi, .int .i64 xa] _ rfl rfl BD.out (by kernel_rfl) rfl (def_one _ _) ?_; intro w5 hp; replace HP := Aside0.mk (HP.out.put hp GD.out); replace BS := Aside0.mk (blk_grown BS.out (put_grownN hp) (fun e => by have := LD.out; have := Option.some.inj e; omega)); replace BK := Aside0.mk (blk_grown BK.out (put_grownN hp) (fun e => by have := LK.out; have := Option.some.inj e; omega)); clear hp BD hs0 hs1 hs2 hk0 hk1; have hs0 := blk_cell BS.out 0; have hs1 := blk_cell BS.out 1; have hs2 := blk_cell BS.out 2; have hk0 := blk_cell BK.out 0; have hk1 := blk_cell BK.out 1))
   go_ret
   exact ⟨rfl, HP.out.nm, HP.out.gr⟩
  | none =>
   have hb : putB L sn 1 = false := by unfold putB; rw [if_pos rfl, hfr]; rfl
   have hl : putL L sn 1 sa i = L ++ [⟨sn, false, i, sa⟩] := by unfold putL; rw [if_pos rfl, hfr]; rfl
   rw [hb, hl]
   clear hb hl
   have HF := Aside0.mk hfr
   clear hfr
   go_enter Tryd.func78, Tryd.ntmps78
   go_wp2_with (first | ((with_reducible refine gate_dst (N := 4) rfl ?_); refine box_event ?hg (N := 4) ?hd (cs := #[.string sn, .int .i8 1, .int .i64 sa]) (t := 75) ?hr ?_; (case hd => rfl); (case hg => rfl); (case hr => first | (go_simp; done) | (go_simp; rfl)); intro gs hgs w1 BK1 hb1; have BS := Aside0.mk BK1; have GS := Aside0.mk (show W.heap.size ≤ gs by rw [hgs]; exact HP.out.gr.size); replace HP := Aside0.mk (HP.out.below hb1); clear BK1 hb1 hgs; have hs0 := blk_cell BS.out 0; have hs1 := blk_cell BS.out 1; have hs2 := blk_cell BS.out 2) | ((with_reducible refine gate_dst (N := 7) rfl ?_); refine box_event ?hg (N := 7) ?hd (cs := #[.string (⟨#[]⟩ : ByteArray), .bool false]) (t := 156) ?hr ?_; (case hd => rfl); (case hg => rfl); (case hr => first | (go_simp; done) | (go_simp; rfl)); intro gk hgk w2 BK2 hb2; have BK := Aside0.mk BK2; have GK := Aside0.mk (show W.heap.size ≤ gk by rw [hgk]; exact HP.out.gr.size); have LS := Aside0.mk (show gs < gk by rw [hgk]; exact blk_lt BS.out); replace HP := Aside0.mk (HP.out.below hb2); replace BS := Aside0.mk (blk_below BS.out hb2); clear BK2 hb2 hgk hs0 hs1 hs2; have hs0 := blk_cell BS.out 0; have hs1 := blk_cell BS.out 1; have hs2 := blk_cell BS.out 2) | ((with_reducible refine gate_store (t := 156) rfl ?_); refine wpList_store_whole rfl rfl rfl gk _ #[.string sn, .bool false] _ rfl rfl BK.out (by kernel_rfl) rfl (key_one _ _) ?_; intro w3 hp; replace HP := Aside0.mk (HP.out.put hp GK.out); replace BS := Aside0.mk (blk_grown BS.out (put_grownN hp) (fun e => by have := LS.out; have := Option.some.inj e; omega)); replace BK := Aside0.mk hp.blk; clear hp hs0 hs1 hs2; have hs0 := blk_cell BS.out 0; have hs1 := blk_cell BS.out 1; have hs2 := blk_cell BS.out 2; have hk0 := blk_cell BK.out 0; have hk1 := blk_cell BK.out 1) | (at_lookup; refine wpList_lookup_name rfl _ _ rfl b L rfl HP.out.nm sn false rfl ?_; rw [HF.out]; simp only [vOf, vEnc, Option.isSome]) | ((with_reducible refine gate_dst (N := 8) rfl ?_); refine box_event ?hg (N := 8) ?hd (cs := #[.int .i64 0, .int .i64 0]) (t := 59) ?hr ?_; (case hd => rfl); (case hg => rfl); (case hr => first | (go_simp; done) | (go_simp; rfl)); intro gd hgd w4 BK4 hb4; have BD := Aside0.mk BK4; have GD := Aside0.mk (show W.heap.size ≤ gd by rw [hgd]; exact HP.out.gr.size); have LD := Aside0.mk (show gs < gd by rw [hgd]; exact blk_lt BS.out); have LK := Aside0.mk (show gk < gd by rw [hgd]; exact blk_lt BK.out); replace HP := Aside0.mk (HP.out.below hb4); replace BS := Aside0.mk (blk_below BS.out hb4); replace BK := Aside0.mk (blk_below BK.out hb4); clear BK4 hb4 hgd hs0 hs1 hs2 hk0 hk1; have hs0 := blk_cell BS.out 0; have hs1 := blk_cell BS.out 1; have hs2 := blk_cell BS.out 2; have hk0 := blk_cell BK.out 0; have hk1 := blk_cell BK.out 1) | ((with_reducible refine gate_store (t := 59) rfl ?_); refine wpList_store_whole rfl rfl rfl gd _ #[.int .i64 0, .int .i64 0] _ rfl rfl BD.out (by kernel_rfl) rfl (def_one _ _) ?_; intro w5 hp; replace HP := Aside0.mk (HP.out.put hp GD.out); replace BS := Aside0.mk (blk_grown BS.out (put_grownN hp) (fun e => by have := LD.out; have := Option.some.inj e; omega)); replace BK := Aside0.mk (blk_grown BK.out (put_grownN hp) (fun e => by have := LK.out; have := Option.some.inj e; omega)); clear hp BD hs0 hs1 hs2 hk0 hk1; have hs0 := blk_cell BS.out 0; have hs1 := blk_cell BS.out 1; have hs2 := blk_cell BS.out 2; have hk0 := blk_cell BK.out 0; have hk1 := blk_cell BK.out 1) | (at_mapUpdate; refine wpList_update_name rfl _ _ _ rfl b L rfl HP.out.nm sn false i sa rfl rfl HF.out ?_; intro w6 hn6 hg6; replace HP := Aside0.mk (HP.out.upd hn6 hg6); clear hn6 hg6))
   go_ret
   exact ⟨rfl, HP.out.nm, HP.out.gr⟩
 by_cases k2 : sk = 2
 ·
  subst k2
  clear k1
  obtain ⟨fr, hfr⟩ : ∃ fr, findE L sn true = fr := ⟨_, rfl⟩
  cases fr with
  | some x =>
   obtain ⟨xi, xa⟩ := x
   have hb : putB L sn 2 = true := by unfold putB; rw [if_neg (by decide), if_pos rfl, hfr]; rfl
   have hl : putL L sn 2 sa i = L := by unfold putL; rw [if_neg (by decide), if_pos rfl, hfr]; rfl
   rw [hb, hl]
   clear hb hl
   have HF := Aside0.mk hfr
   clear hfr
   go_enter Tryd.func78, Tryd.ntmps78
   go_wp2_with (first | ((with_reducible refine gate_dst (N := 4) rfl ?_); refine box_event ?hg (N := 4) ?hd (cs := #[.string sn, .int .i8 2, .int .i64 sa]) (t := 75) ?hr ?_; (case hd => rfl); (case hg => rfl); (case hr => first | (go_simp; done) | (go_simp; rfl)); intro gs hgs w1 BK1 hb1; have BS := Aside0.mk BK1; have GS := Aside0.mk (show W.heap.size ≤ gs by rw [hgs]; exact HP.out.gr.size); replace HP := Aside0.mk (HP.out.below hb1); clear BK1 hb1 hgs; have hs0 := blk_cell BS.out 0; have hs1 := blk_cell BS.out 1; have hs2 := blk_cell BS.out 2) | ((with_reducible refine gate_dst (N := 7) rfl ?_); refine box_event ?hg (N := 7) ?hd (cs := #[.string (⟨#[]⟩ : ByteArray), .bool false]) (t := 156) ?hr ?_; (case hd => rfl); (case hg => rfl); (case hr => first | (go_simp; done) | (go_simp; rfl)); intro gk hgk w2 BK2 hb2; have BK := Aside0.mk BK2; have GK := Aside0.mk (show W.heap.size ≤ gk by rw [hgk]; exact HP.out.gr.size); have LS := Aside0.mk (show gs < gk by rw [hgk]; exact blk_lt BS.out); replace HP := Aside0.mk (HP.out.below hb2); replace BS := Aside0.mk (blk_below BS.out hb2); clear BK2 hb2 hgk hs0 hs1 hs2; have hs0 := blk_cell BS.out 0; have hs1 := blk_cell BS.out 1; have hs2 := blk_cell BS.out 2) | ((with_reducible refine gate_store (t := 156) rfl ?_); refine wpList_store_whole rfl rfl rfl gk _ #[.string sn, .bool true] _ rfl rfl BK.out (by kernel_rfl) rfl (key_one _ _) ?_; intro w3 hp; replace HP := Aside0.mk (HP.out.put hp GK.out); replace BS := Aside0.mk (blk_grown BS.out (put_grownN hp) (fun e => by have := LS.out; have := Option.some.inj e; omega)); replace BK := Aside0.mk hp.blk; clear hp hs0 hs1 hs2; have hs0 := blk_cell BS.out 0; have hs1 := blk_cell BS.out 1; have hs2 := blk_cell BS.out 2; have hk0 := blk_cell BK.out 0; have hk1 := blk_cell BK.out 1) | (at_lookup; refine wpList_lookup_name rfl _ _ rfl b L rfl HP.out.nm sn true rfl ?_; rw [HF.out]; simp only [vOf, vEnc, Option.isSome]) | ((with_reducible refine gate_dst (N := 8) rfl ?_); refine box_event ?hg (N := 8) ?hd (cs := #[.int .i64 0, .int .i64 0]) (t := 59) ?hr ?_; (case hd => rfl); (case hg => rfl); (case hr => first | (go_simp; done) | (go_simp; rfl)); intro gd hgd w4 BK4 hb4; have BD := Aside0.mk BK4; have GD := Aside0.mk (show W.heap.size ≤ gd by rw [hgd]; exact HP.out.gr.size); have LD := Aside0.mk (show gs < gd by rw [hgd]; exact blk_lt BS.out); have LK := Aside0.mk (show gk < gd by rw [hgd]; exact blk_lt BK.out); replace HP := Aside0.mk (HP.out.below hb4); replace BS := Aside0.mk (blk_below BS.out hb4); replace BK := Aside0.mk (blk_below BK.out hb4); clear BK4 hb4 hgd hs0 hs1 hs2 hk0 hk1; have hs0 := blk_cell BS.out 0; have hs1 := blk_cell BS.out 1; have hs2 := blk_cell BS.out 2; have hk0 := blk_cell BK.out 0; have hk1 := blk_cell BK.out 1) | ((with_reducible refine gate_store (t := 59) rfl ?_); refine wpList_store_whole rfl rfl rfl gd _ #[.int .i64 xi, .int .i64 xa] _ rfl rfl BD.out (by kernel_rfl) rfl (def_one _ _) ?_; intro w5 hp; replace HP := Aside0.mk (HP.out.put hp GD.out); replace BS := Aside0.mk (blk_grown BS.out (put_grownN hp) (fun e => by have := LD.out; have := Option.some.inj e; omega)); replace BK := Aside0.mk (blk_grown BK.out (put_grownN hp) (fun e => by have := LK.out; have := Option.some.inj e; omega)); clear hp BD hs0 hs1 hs2 hk0 hk1; have hs0 := blk_cell BS.out 0; have hs1 := blk_cell BS.out 1; have hs2 := blk_cell BS.out 2; have hk0 := blk_cell BK.out 0; have hk1 := blk_cell BK.out 1))
   go_ret
   exact ⟨rfl, HP.out.nm, HP.out.gr⟩
  | none =>
   have hb : putB L sn 2 = false := by unfold putB; rw [if_neg (by decide), if_pos rfl, hfr]; rfl
   have hl : putL L sn 2 sa i = L ++ [⟨sn, true, i, sa⟩] := by unfold putL; rw [if_neg (by decide), if_pos rfl, hfr]; rfl
   rw [hb, hl]
   clear hb hl
   have HF := Aside0.mk hfr
   clear hfr
   go_enter Tryd.func78, Tryd.ntmps78
   go_wp2_with (first | ((with_reducible refine gate_dst (N := 4) rfl ?_); refine box_event ?hg (N := 4) ?hd (cs := #[.string sn, .int .i8 2, .int .i64 sa]) (t := 75) ?hr ?_; (case hd => rfl); (case hg => rfl); (case hr => first | (go_simp; done) | (go_simp; rfl)); intro gs hgs w1 BK1 hb1; have BS := Aside0.mk BK1; have GS := Aside0.mk (show W.heap.size ≤ gs by rw [hgs]; exact HP.out.gr.size); replace HP := Aside0.mk (HP.out.below hb1); clear BK1 hb1 hgs; have hs0 := blk_cell BS.out 0; have hs1 := blk_cell BS.out 1; have hs2 := blk_cell BS.out 2) | ((with_reducible refine gate_dst (N := 7) rfl ?_); refine box_event ?hg (N := 7) ?hd (cs := #[.string (⟨#[]⟩ : ByteArray), .bool false]) (t := 156) ?hr ?_; (case hd => rfl); (case hg => rfl); (case hr => first | (go_simp; done) | (go_simp; rfl)); intro gk hgk w2 BK2 hb2; have BK := Aside0.mk BK2; have GK := Aside0.mk (show W.heap.size ≤ gk by rw [hgk]; exact HP.out.gr.size); have LS := Aside0.mk (show gs < gk by rw [hgk]; exact blk_lt BS.out); replace HP := Aside0.mk (HP.out.below hb2); replace BS := Aside0.mk (blk_below BS.out hb2); clear BK2 hb2 hgk hs0 hs1 hs2; have hs0 := blk_cell BS.out 0; have hs1 := blk_cell BS.out 1; have hs2 := blk_cell BS.out 2) | ((with_reducible refine gate_store (t := 156) rfl ?_); refine wpList_store_whole rfl rfl rfl gk _ #[.string sn, .bool true] _ rfl rfl BK.out (by kernel_rfl) rfl (key_one _ _) ?_; intro w3 hp; replace HP := Aside0.mk (HP.out.put hp GK.out); replace BS := Aside0.mk (blk_grown BS.out (put_grownN hp) (fun e => by have := LS.out; have := Option.some.inj e; omega)); replace BK := Aside0.mk hp.blk; clear hp hs0 hs1 hs2; have hs0 := blk_cell BS.out 0; have hs1 := blk_cell BS.out 1; have hs2 := blk_cell BS.out 2; have hk0 := blk_cell BK.out 0; have hk1 := blk_cell BK.out 1) | (at_lookup; refine wpList_lookup_name rfl _ _ rfl b L rfl HP.out.nm sn true rfl ?_; rw [HF.out]; simp only [vOf, vEnc, Option.isSome]) | ((with_reducible refine gate_dst (N := 8) rfl ?_); refine box_event ?hg (N := 8) ?hd (cs := #[.int .i64 0, .int .i64 0]) (t := 59) ?hr ?_; (case hd => rfl); (case hg => rfl); (case hr => first | (go_simp; done) | (go_simp; rfl)); intro gd hgd w4 BK4 hb4; have BD := Aside0.mk BK4; have GD := Aside0.mk (show W.heap.size ≤ gd by rw [hgd]; exact HP.out.gr.size); have LD := Aside0.mk (show gs < gd by rw [hgd]; exact blk_lt BS.out); have LK := Aside0.mk (show gk < gd by rw [hgd]; exact blk_lt BK.out); replace HP := Aside0.mk (HP.out.below hb4); replace BS := Aside0.mk (blk_below BS.out hb4); replace BK := Aside0.mk (blk_below BK.out hb4); clear BK4 hb4 hgd hs0 hs1 hs2 hk0 hk1; have hs0 := blk_cell BS.out 0; have hs1 := blk_cell BS.out 1; have hs2 := blk_cell BS.out 2; have hk0 := blk_cell BK.out 0; have hk1 := blk_cell BK.out 1) | ((with_reducible refine gate_store (t := 59) rfl ?_); refine wpList_store_whole rfl rfl rfl gd _ #[.int .i64 0, .int .i64 0] _ rfl rfl BD.out (by kernel_rfl) rfl (def_one _ _) ?_; intro w5 hp; replace HP := Aside0.mk (HP.out.put hp GD.out); replace BS := Aside0.mk (blk_grown BS.out (put_grownN hp) (fun e => by have := LD.out; have := Option.some.inj e; omega)); replace BK := Aside0.mk (blk_grown BK.out (put_grownN hp) (fun e => by have := LK.out; have := Option.some.inj e; omega)); clear hp BD hs0 hs1 hs2 hk0 hk1; have hs0 := blk_cell BS.out 0; have hs1 := blk_cell BS.out 1; have hs2 := blk_cell BS.out 2; have hk0 := blk_cell BK.out 0; have hk1 := blk_cell BK.out 1) | (at_mapUpdate; refine wpList_update_name rfl _ _ _ rfl b L rfl HP.out.nm sn true i sa rfl rfl HF.out ?_; intro w6 hn6 hg6; replace HP := Aside0.mk (HP.out.upd hn6 hg6); clear hn6 hg6))
   go_ret
   exact ⟨rfl, HP.out.nm, HP.out.gr⟩
 have hb : putB L sn sk = false := by unfold putB; rw [if_neg k1, if_neg k2]
 have hl : putL L sn sk sa i = L := by unfold putL; rw [if_neg k1, if_neg k2]
 rw [hb, hl]
 clear hb hl
 have b1 : (sk != 1) = true := bne_iff_ne.mpr k1
 have b2 : (sk != 2) = true := bne_iff_ne.mpr k2
 clear k1 k2
 go_enter Tryd.func78, Tryd.ntmps78
 go_wp2_with (first | ((with_reducible refine gate_dst (N := 4) rfl ?_); refine box_event ?hg (N := 4) ?hd (cs := #[.string sn, .int .i8 sk, .int .i64 sa]) (t := 75) ?hr ?_; (case hd => rfl); (case hg => rfl); (case hr => first | (go_simp; done) | (go_simp; rfl)); intro gs hgs w1 BK1 hb1; have BS := Aside0.mk BK1; have GS := Aside0.mk (show W.heap.size ≤ gs by rw [hgs]; exact HP.out.gr.size); replace HP := Aside0.mk (HP.out.below hb1); clear BK1 hb1 hgs; have hs0 := blk_cell BS.out 0; have hs1 := blk_cell BS.out 1; have hs2 := blk_cell BS.out 2))
 go_ret
 exact ⟨rfl, HP.out.nm, HP.out.gr⟩

def findR (L : List Ent) (s : ByteArray) : Int × Int × Bool := match findE L s false with
  | some (i, a) => (i, a, true)
  | none => match findE L s true with
    | some (i, a) => (i, a, true)
    | none => (0, 0, false)
set_option maxHeartbeats 4000000 in
set_option maxRecDepth 100000 in
theorem find.calls (sn : ByteArray) (W : World) (b : Nat) (L : List Ent) (hN : NMap W b L) :
  Calls Tryd.prog 67 #[.map (some b), .string sn] W fun e w' => e = .returned (.tuple #[.agg #[.int .i64 (findR L sn).1, .int .i64 (findR L sn).2.1], .bool (findR L sn).2.2]) ∧ Below W.heap.size W w' := by
 have hu3 := Tryd.underlying59
 have HN := Aside0.mk hN
 have HB := Aside0.mk (Below.refl W.heap.size W)
 clear hN
 obtain ⟨fr, hfr⟩ : ∃ fr, findE L sn false = fr := ⟨_, rfl⟩
 cases fr with
 | some x =>
  obtain ⟨xi, xa⟩ := x
  have hr : findR L sn = (xi, xa, true) := by unfold findR; rw [hfr]
  rw [hr]
  clear hr
  have HF := Aside0.mk hfr
  clear hfr
  go_enter Tryd.func67, Tryd.ntmps67
  go_wp2_with (first | ((with_reducible refine gate_dst (N := 4) rfl ?_); refine box_event ?hg (N := 4) ?hd (cs := #[.int .i64 0, .int .i64 0]) (t := 59) ?hr ?_; (case hd => rfl); (case hg => rfl); (case hr => first | (go_simp; done) | (go_simp; rfl)); intro gr hgr w1 BK1 hb1; have BR := Aside0.mk BK1; have GR := Aside0.mk (show W.heap.size ≤ gr by rw [hgr]; exact HB.out.size); replace HN := Aside0.mk (HN.out.below hb1); replace HB := Aside0.mk (below_then HB.out HB.out.size hb1); clear BK1 hb1 hgr) | (at_lookup; refine wpList_lookup_name rfl _ _ rfl b L rfl HN.out sn false rfl ?_; rw [HF.out]; simp only [vOf, vEnc, Option.isSome]) | ((with_reducible refine gate_dst (N := 6) rfl ?_); refine box_event ?hg (N := 6) ?hd (cs := #[.int .i64 0, .int .i64 0]) (t := 59) ?hr ?_; (case hd => rfl); (case hg => rfl); (case hr => first | (go_simp; done) | (go_simp; rfl)); intro ga hga wga BK1 hb1; have Bga := Aside0.mk BK1; have Gga := Aside0.mk (show W.heap.size ≤ ga by rw [hga]; exact HB.out.size); have Lga := Aside0.mk (show gr < ga by rw [hga]; exact blk_lt BR.out); have Nga := Aside0.mk (show b < ga by rw [hga]; exact HN.out.lt); replace HN := Aside0.mk (HN.out.below hb1); replace HB := Aside0.mk (below_then HB.out HB.out.size hb1); replace BR := Aside0.mk (blk_below BR.out hb1); clear BK1 hb1 hga) | ((with_reducible refine gate_store (t := 59) rfl ?_); refine wpList_store_whole rfl rfl rfl ga _ #[.int .i64 xi, .int .i64 xa] _ rfl rfl Bga.out (by kernel_rfl) rfl (def_one _ _) ?_; intro wzga hp; replace HN := Aside0.mk (HN.out.kept (put_grownN hp) (fun e => by have := Nga.out; have := Option.some.inj e; omega)); replace HB := Aside0.mk (hp.below HB.out Gga.out); replace BR := Aside0.mk (blk_grown BR.out (put_grownN hp) (fun e => by have := Lga.out; have := Option.some.inj e; omega)); replace Bga := Aside0.mk hp.blk; clear hp; have hv0 := blk_cell Bga.out 0; have hv1 := blk_cell Bga.out 1) | ((with_reducible refine gate_store (t := 59) rfl ?_); refine wpList_store_whole rfl rfl rfl gr _ #[.int .i64 xi, .int .i64 xa] _ rfl rfl BR.out (by kernel_rfl) rfl (def_one _ _) ?_; intro w9 hp; have HE := Aside0.mk (hp.below HB.out GR.out); have HPf := Aside0.mk hp.blk; clear hp))
  refine bodyPost_ret (results_ct rfl _ _ gr 59 #[.int .i64 xi, .int .i64 xa] (0, 0) _ rfl HPf.out Tryd.underlying59 rfl (by kernel_rfl)) rfl ?_
  exact ⟨rfl, HE.out⟩
 | none =>
  obtain ⟨fq, hfq⟩ : ∃ fq, findE L sn true = fq := ⟨_, rfl⟩
  cases fq with
  | some x =>
   obtain ⟨xi, xa⟩ := x
   have hr : findR L sn = (xi, xa, true) := by unfold findR; rw [hfr]; simp only [hfq]
   rw [hr]
   clear hr
   have HF := Aside0.mk hfr
   have HQ := Aside0.mk hfq
   clear hfr hfq
   go_enter Tryd.func67, Tryd.ntmps67
   go_wp2_with (first | ((with_reducible refine gate_dst (N := 4) rfl ?_); refine box_event ?hg (N := 4) ?hd (cs := #[.int .i64 0, .int .i64 0]) (t := 59) ?hr ?_; (case hd => rfl); (case hg => rfl); (case hr => first | (go_simp; done) | (go_simp; rfl)); intro gr hgr w1 BK1 hb1; have BR := Aside0.mk BK1; have GR := Aside0.mk (show W.heap.size ≤ gr by rw [hgr]; exact HB.out.size); replace HN := Aside0.mk (HN.out.below hb1); replace HB := Aside0.mk (below_then HB.out HB.out.size hb1); clear BK1 hb1 hgr) | (at_lookup; refine wpList_lookup_name rfl _ _ rfl b L rfl HN.out sn false rfl ?_; rw [HF.out]; simp only [vOf, vEnc, Option.isSome]) | (at_lookup; refine wpList_lookup_name rfl _ _ rfl b L rfl HN.out sn true rfl ?_; rw [HQ.out]; simp only [vOf, vEnc, Option.isSome]) | ((with_reducible refine gate_dst (N := 6) rfl ?_); refine box_event ?hg (N := 6) ?hd (cs := #[.int .i64 0, .int .i64 0]) (t := 59) ?hr ?_; (case hd => rfl); (case hg => rfl); (case hr => first | (go_simp; done) | (go_simp; rfl)); intro ga hga wga BK1 hb1; have Bga := Aside0.mk BK1; have Gga := Aside0.mk (show W.heap.size ≤ ga by rw [hga]; exact HB.out.size); have Lga := Aside0.mk (show gr < ga by rw [hga]; exact blk_lt BR.out); have Nga := Aside0.mk (show b < ga by rw [hga]; exact HN.out.lt); replace HN := Aside0.mk (HN.out.below hb1); replace HB := Aside0.mk (below_then HB.out HB.out.size hb1); replace BR := Aside0.mk (blk_below BR.out hb1); clear BK1 hb1 hga) | ((with_reducible refine gate_store (t := 59) rfl ?_); refine wpList_store_whole rfl rfl rfl ga _ #[.int .i64 0, .int .i64 0] _ rfl rfl Bga.out (by kernel_rfl) rfl (def_one _ _) ?_; intro wzga hp; replace HN := Aside0.mk (HN.out.kept (put_grownN hp) (fun e => by have := Nga.out; have := Option.some.inj e; omega)); replace HB := Aside0.mk (hp.below HB.out Gga.out); replace BR := Aside0.mk (blk_grown BR.out (put_grownN hp) (fun e => by have := Lga.out; have := Option.some.inj e; omega)); replace Bga := Aside0.mk hp.blk; clear hp; have hv0ga := blk_cell Bga.out 0; have hv1ga := blk_cell Bga.out 1) | ((with_reducible refine gate_dst (N := 8) rfl ?_); refine box_event ?hg (N := 8) ?hd (cs := #[.int .i64 0, .int .i64 0]) (t := 59) ?hr ?_; (case hd => rfl); (case hg => rfl); (case hr => first | (go_simp; done) | (go_simp; rfl)); intro gc hgc wgc BK1 hb1; have Bgc := Aside0.mk BK1; have Ggc := Aside0.mk (show W.heap.size ≤ gc by rw [hgc]; exact HB.out.size); have Lgc := Aside0.mk (show gr < gc by rw [hgc]; exact blk_lt BR.out); have Ngc := Aside0.mk (show b < gc by rw [hgc]; exact HN.out.lt); replace HN := Aside0.mk (HN.out.below hb1); replace HB := Aside0.mk (below_then HB.out HB.out.size hb1); replace BR := Aside0.mk (blk_below BR.out hb1); clear BK1 hb1 hgc) | ((with_reducible refine gate_store (t := 59) rfl ?_); refine wpList_store_whole rfl rfl rfl gc _ #[.int .i64 xi, .int .i64 xa] _ rfl rfl Bgc.out (by kernel_rfl) rfl (def_one _ _) ?_; intro wzgc hp; replace HN := Aside0.mk (HN.out.kept (put_grownN hp) (fun e => by have := Ngc.out; have := Option.some.inj e; omega)); replace HB := Aside0.mk (hp.below HB.out Ggc.out); replace BR := Aside0.mk (blk_grown BR.out (put_grownN hp) (fun e => by have := Lgc.out; have := Option.some.inj e; omega)); replace Bgc := Aside0.mk hp.blk; clear hp; have hv0 := blk_cell Bgc.out 0; have hv1 := blk_cell Bgc.out 1) | ((with_reducible refine gate_store (t := 59) rfl ?_); refine wpList_store_whole rfl rfl rfl gr _ #[.int .i64 xi, .int .i64 xa] _ rfl rfl BR.out (by kernel_rfl) rfl (def_one _ _) ?_; intro w9 hp; have HE := Aside0.mk (hp.below HB.out GR.out); have HPf := Aside0.mk hp.blk; clear hp))
   refine bodyPost_ret (results_ct rfl _ _ gr 59 #[.int .i64 xi, .int .i64 xa] (0, 0) _ rfl HPf.out Tryd.underlying59 rfl (by kernel_rfl)) rfl ?_
   exact ⟨rfl, HE.out⟩
  | none =>
   have hr : findR L sn = (0, 0, false) := by unfold findR; rw [hfr]; simp only [hfq]
   rw [hr]
   clear hr
   have HF := Aside0.mk hfr
   have HQ := Aside0.mk hfq
   clear hfr hfq
   go_enter Tryd.func67, Tryd.ntmps67
   go_wp2_with (first | ((with_reducible refine gate_dst (N := 4) rfl ?_); refine box_event ?hg (N := 4) ?hd (cs := #[.int .i64 0, .int .i64 0]) (t := 59) ?hr ?_; (case hd => rfl); (case hg => rfl); (case hr => first | (go_simp; done) | (go_simp; rfl)); intro gr hgr w1 BK1 hb1; have BR := Aside0.mk BK1; have GR := Aside0.mk (show W.heap.size ≤ gr by rw [hgr]; exact HB.out.size); replace HN := Aside0.mk (HN.out.below hb1); replace HB := Aside0.mk (below_then HB.out HB.out.size hb1); clear BK1 hb1 hgr) | (at_lookup; refine wpList_lookup_name rfl _ _ rfl b L rfl HN.out sn false rfl ?_; rw [HF.out]; simp only [vOf, vEnc, Option.isSome]) | (at_lookup; refine wpList_lookup_name rfl _ _ rfl b L rfl HN.out sn true rfl ?_; rw [HQ.out]; simp only [vOf, vEnc, Option.isSome]) | ((with_reducible refine gate_dst (N := 6) rfl ?_); refine box_event ?hg (N := 6) ?hd (cs := #[.int .i64 0, .int .i64 0]) (t := 59) ?hr ?_; (case hd => rfl); (case hg => rfl); (case hr => first | (go_simp; done) | (go_simp; rfl)); intro ga hga wga BK1 hb1; have Bga := Aside0.mk BK1; have Gga := Aside0.mk (show W.heap.size ≤ ga by rw [hga]; exact HB.out.size); have Lga := Aside0.mk (show gr < ga by rw [hga]; exact blk_lt BR.out); have Nga := Aside0.mk (show b < ga by rw [hga]; exact HN.out.lt); replace HN := Aside0.mk (HN.out.below hb1); replace HB := Aside0.mk (below_then HB.out HB.out.size hb1); replace BR := Aside0.mk (blk_below BR.out hb1); clear BK1 hb1 hga) | ((with_reducible refine gate_store (t := 59) rfl ?_); refine wpList_store_whole rfl rfl rfl ga _ #[.int .i64 0, .int .i64 0] _ rfl rfl Bga.out (by kernel_rfl) rfl (def_one _ _) ?_; intro wzga hp; replace HN := Aside0.mk (HN.out.kept (put_grownN hp) (fun e => by have := Nga.out; have := Option.some.inj e; omega)); replace HB := Aside0.mk (hp.below HB.out Gga.out); replace BR := Aside0.mk (blk_grown BR.out (put_grownN hp) (fun e => by have := Lga.out; have := Option.some.inj e; omega)); replace Bga := Aside0.mk hp.blk; clear hp; have hv0ga := blk_cell Bga.out 0; have hv1ga := blk_cell Bga.out 1) | ((with_reducible refine gate_dst (N := 8) rfl ?_); refine box_event ?hg (N := 8) ?hd (cs := #[.int .i64 0, .int .i64 0]) (t := 59) ?hr ?_; (case hd => rfl); (case hg => rfl); (case hr => first | (go_simp; done) | (go_simp; rfl)); intro gc hgc wgc BK1 hb1; have Bgc := Aside0.mk BK1; have Ggc := Aside0.mk (show W.heap.size ≤ gc by rw [hgc]; exact HB.out.size); have Lgc := Aside0.mk (show gr < gc by rw [hgc]; exact blk_lt BR.out); have Ngc := Aside0.mk (show b < gc by rw [hgc]; exact HN.out.lt); replace HN := Aside0.mk (HN.out.below hb1); replace HB := Aside0.mk (below_then HB.out HB.out.size hb1); replace BR := Aside0.mk (blk_below BR.out hb1); clear BK1 hb1 hgc) | ((with_reducible refine gate_store (t := 59) rfl ?_); refine wpList_store_whole rfl rfl rfl gc _ #[.int .i64 0, .int .i64 0] _ rfl rfl Bgc.out (by kernel_rfl) rfl (def_one _ _) ?_; intro wzgc hp; replace HN := Aside0.mk (HN.out.kept (put_grownN hp) (fun e => by have := Ngc.out; have := Option.some.inj e; omega)); replace HB := Aside0.mk (hp.below HB.out Ggc.out); replace BR := Aside0.mk (blk_grown BR.out (put_grownN hp) (fun e => by have := Lgc.out; have := Option.some.inj e; omega)); replace Bgc := Aside0.mk hp.blk; clear hp; have hv0 := blk_cell Bgc.out 0; have hv1 := blk_cell Bgc.out 1) | ((with_reducible refine gate_store (t := 59) rfl ?_); refine wpList_store_whole rfl rfl rfl gr _ #[.int .i64 0, .int .i64 0] _ rfl rfl BR.out (by kernel_rfl) rfl (def_one _ _) ?_; intro w9 hp; have HE := Aside0.mk (hp.below HB.out GR.out); have HPf := Aside0.mk hp.blk; clear hp))
   refine bodyPost_ret (results_ct rfl _ _ gr 59 #[.int .i64 0, .int .i64 0] (0, 0) _ rfl HPf.out Tryd.underlying59 rfl (by kernel_rfl)) rfl ?_
   exact ⟨rfl, HE.out⟩
end Go.Proofs.YtiaohbbafaaibabDoor.P
