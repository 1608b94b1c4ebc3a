/- OWN TEXT and printed parts of this claim, laid together: P0, P29, HObjN, HArr, HMap, Ev, HObjS, HIsa, HIsaE. -/
import Derived.Test.YtiaohbbafaaibaaProg
import Derived.Test.YtiaohbbafaaibaaZtWWords
import Derived.Test.YtiaohbbafaaibaaZtWLast
import Derived.Test.YtiaohbbafaaibaaZtWTab
import Derived.Test.YtiaohbbafaaibaaZtWApart
import Derived.Test.YtiaohbbafaaibaaZtWFoot
import Derived.Test.YtiaohbbafaaibaaZtWKept
import Derived.Test.YtiaohbbafaaibaaZtWShare
import Derived.Test.YtiaohbbafaaibaaZtWN
import Derived.Test.YtiaohbbafaaibaaZtWEqStruct
import Derived.Test.YtiaohbbafaaibaaZtWRepsOne
import Derived.Test.YtiaohbbafaaibaaZtWInv
import Derived.Test.YtiaohbbafaaibaaZtWGuard
import Derived.Test.YtiaohbbafaaibaaZtWMore
import Derived.Below
import Derived.Deep.Draws
import Derived.Deep.AppendLies
import Derived.Maps.AppendAt
import Derived.OwnWalk
import Derived.Laws.BytesArg
import Derived.Laws.MakeOwn
import Derived.Laws.OwnMore
import Derived.Deep.OwnRows
import Derived.Tactics
import Derived.Lib.ConvBytes
import Derived.Laws.Slices
import Derived.WalkKit
import Derived.KernelRfl
import Derived.RowKit3
import Derived.Deep.LoopGhost
import Derived.Deep.QuietTactic
import Derived.BigQuiet
import Derived.WideLaws
import Derived.Deep.DeepCutAuto
import Derived.Deep.CutBlock
import Derived.Deep.RegionHeld3
import Derived.Laws.Rows
import Derived.Lib.AppendStr
import Derived.ArgAppend
import Derived.Laws.IdiomCopy
import Derived.OrdersHeld
import Derived.Laws.BitsLemmas
import Derived.RowKit
import Derived.Laws.RangeString
import Derived.Laws.RangeAny
import Derived.LoopTactic
import Derived.Tactics2
import Derived.Handy
import Derived.ChangeKeysEq
import Derived.Laws.CopyRow
import Derived.Laws.Tables
import Derived.Maps.OwnSet
import Derived.OpenShut
import Derived.StringKeys
import Derived.MapViews
import Derived.ProofKit
import Derived.Outline
import Derived.Deep.DeepMust
/- What the Go functions named below come to, as plain functions, each with its proof; written by this session's prt.py over the kit's print. -/
namespace Go.Proofs.Ytiaohbbafaaibaa.P
open Go.RowKit Go.Proofs.YtiaohbbafaaibaaW.PrintWords Go.Proofs.YtiaohbbafaaibaaW.PrintLast Go.Proofs.YtiaohbbafaaibaaW.PrintMore
attribute [local go_sem] max2_int min2_int max_two min_two max_three min_three max_four min_four   -- for this text's walks alone
set_option linter.unusedVariables false
set_option linter.unusedSimpArgs false



def errW : Option Int → Value
  | none => .nilIface
  | some c => .iface 0 (.int .i64 c)
theorem errW_none : errW none = .nilIface := rfl
theorem errW_some (c : Int) : errW (some c) = .iface 0 (.int .i64 c) := rfl

theorem info2 : (Try.prog.info? 2).map (fun i => (i.zero, i.size, i.bytes)) = some (some (.int .i64 0), 1, 8) := by kernel_rfl
theorem info34 : (Try.prog.info? 34).map (fun i => (i.zero, i.size, i.bytes)) = some (some (.int .u32 0), 1, 4) := by kernel_rfl
theorem info120 : (Try.prog.info? 120).map (fun i => (i.zero, i.size, i.bytes)) = some (some (.agg #[(.string ⟨#[]⟩), (.int .i8 0), (.int .i64 0)]), 3, 32) := by kernel_rfl
theorem info130 : (Try.prog.info? 130).map (fun i => (i.zero, i.size, i.bytes)) = some (some (.agg #[(.int .i64 0), (.int .i64 0)]), 2, 16) := by kernel_rfl
-- the values' own types
/-! #### struct type 32 -/
structure S32 where
  f0 : Int
  f1 : Int
  f2 : Int
/-! #### struct type 36 -/
structure S36 where
  f0 : Int
  f1 : Int
  f2 : Int
  f3 : Int
  f4 : Int
/-! #### struct type 69 -/
structure S69 where
  f0 : (List Int)
  f1 : Int
  f2 : (List Int)
/-! #### struct type 84 -/
structure S84 where
  f0 : Int
  f1 : Int
/-! #### struct type 120 -/
structure S120 where
  f0 : ByteArray
  f1 : Int
  f2 : Int
def z120 : S120 := ⟨(⟨#[]⟩ : ByteArray), (0 : Int), (0 : Int)⟩
def k120 : Kd S120 := Kd.iso (Kd.pair Kd.string (Kd.pair (Kd.int .i8) (Kd.int .i64))) (fun x : S120 => (x.f0, x.f1, x.f2))
theorem k120_open {w : World} {x : S120} {cs : List Value} (h : k120.K w x cs) : cs = [.string x.f0, .int .i8 x.f1, .int .i64 x.f2] := by
  obtain ⟨_, _, rfl, rfl, ⟨_, _, rfl, rfl, rfl⟩⟩ := h
  exact rfl
theorem k120_openM {w : World} {base : Nat} {ok : Nat → Prop} {x : S120} {cs : List Value} (h : k120.M w base ok x cs) : cs = [.string x.f0, .int .i8 x.f1, .int .i64 x.f2] := by
  obtain ⟨_, _, rfl, rfl, ⟨_, _, rfl, rfl, rfl⟩⟩ := h
  exact rfl
theorem k120_mkM (w : World) (base : Nat) (ok : Nat → Prop) (x : S120)  : k120.M w base ok x [.string x.f0, .int .i8 x.f1, .int .i64 x.f2] := ⟨[.string x.f0], [.int .i8 x.f1, .int .i64 x.f2], rfl, rfl, ⟨[.int .i8 x.f1], [.int .i64 x.f2], rfl, rfl, rfl⟩⟩
def rd_T120 (xs : List S120) (i : Int) : S120 := xs.getD i.toNat z120
theorem at_T120 {w : World} {A : Option Addr} {n : Nat} {xs : List S120} (h : Kd.C k120 w A n xs) (i : Int) (h0 : 0 ≤ i) (h1 : i < n) : ∃ ad , A = some ad ∧ w.cell? (ad.add (i.toNat * 3)) = some (.string (rd_T120 xs i).f0) ∧ w.cell? ⟨(ad.add (i.toNat * 3)).block, (ad.add (i.toNat * 3)).off + 1, none⟩ = some (.int .i8 (rd_T120 xs i).f1) ∧ w.cell? ⟨(ad.add (i.toNat * 3)).block, (ad.add (i.toNat * 3)).off + 2, none⟩ = some (.int .i64 (rd_T120 xs i).f2) := by
  obtain ⟨ad, c, e, _, hK, hc0⟩ := Kd.C_get h z120 i h0 h1
  have hc : ∀ j u, c[j]? = some u → w.cell? (ad.add (i.toNat * 3 + j)) = some u := hc0
  obtain rfl := k120_open hK
  exact ⟨ad, e, hc 0 _ rfl, by rw [← add_field _ _ 1 (by omega)]; exact hc 1 _ rfl, by rw [← add_field _ _ 2 (by omega)]; exact hc 2 _ rfl⟩

/-! #### struct type 130 -/
structure S130 where
  f0 : Int
  f1 : Int
def z130 : S130 := ⟨(0 : Int), (0 : Int)⟩
def k130 : Kd S130 := Kd.iso (Kd.pair (Kd.int .i64) (Kd.int .i64)) (fun x : S130 => (x.f0, x.f1))
theorem k130_open {w : World} {x : S130} {cs : List Value} (h : k130.K w x cs) : cs = [.int .i64 x.f0, .int .i64 x.f1] := by
  obtain ⟨_, _, rfl, rfl, rfl⟩ := h
  exact rfl
theorem k130_openM {w : World} {base : Nat} {ok : Nat → Prop} {x : S130} {cs : List Value} (h : k130.M w base ok x cs) : cs = [.int .i64 x.f0, .int .i64 x.f1] := by
  obtain ⟨_, _, rfl, rfl, rfl⟩ := h
  exact rfl
theorem k130_mkM (w : World) (base : Nat) (ok : Nat → Prop) (x : S130)  : k130.M w base ok x [.int .i64 x.f0, .int .i64 x.f1] := ⟨[.int .i64 x.f0], [.int .i64 x.f1], rfl, rfl, rfl⟩
def rd_T130 (xs : List S130) (i : Int) : S130 := xs.getD i.toNat z130
theorem at_T130 {w : World} {A : Option Addr} {n : Nat} {xs : List S130} (h : Kd.C k130 w A n xs) (i : Int) (h0 : 0 ≤ i) (h1 : i < n) : ∃ ad , A = some ad ∧ w.cell? (ad.add (i.toNat * 2)) = some (.int .i64 (rd_T130 xs i).f0) ∧ w.cell? ⟨(ad.add (i.toNat * 2)).block, (ad.add (i.toNat * 2)).off + 1, none⟩ = some (.int .i64 (rd_T130 xs i).f1) := by
  obtain ⟨ad, c, e, _, hK, hc0⟩ := Kd.C_get h z130 i h0 h1
  have hc : ∀ j u, c[j]? = some u → w.cell? (ad.add (i.toNat * 2 + j)) = some u := hc0
  obtain rfl := k130_open hK
  exact ⟨ad, e, hc 0 _ rfl, by rw [← add_field _ _ 1 (by omega)]; exact hc 1 _ rfl⟩

/-! #### struct type 88 -/
structure S88 where
  f0 : ByteArray
  f1 : (List Int)
  f2 : Int
  f3 : (List Int)
  f4 : (List S120)
  f5 : (List S130)
def k88 : Kd S88 := Kd.iso (Kd.pair Kd.string (Kd.pair (Kd.slice 34 (Kd.int .u32)) (Kd.pair (Kd.int .i64) (Kd.pair (Kd.slice 2 (Kd.int .i64)) (Kd.pair (Kd.slice 120 k120) (Kd.slice 130 k130)))))) (fun x : S88 => (x.f0, x.f1, x.f2, x.f3, x.f4, x.f5))
theorem k88_open {w : World} {x : S88} {cs : List Value} (h : k88.K w x cs) : ∃ A1 c1 A3 c3 A4 c4 A5 c5, cs = [.string x.f0, .slice A1 x.f1.length c1, .int .i64 x.f2, .slice A3 x.f3.length c3, .slice A4 x.f4.length c4, .slice A5 x.f5.length c5] ∧ x.f1.length ≤ c1 ∧ (Kd.int .u32).C w A1 x.f1.length x.f1 ∧ x.f3.length ≤ c3 ∧ (Kd.int .i64).C w A3 x.f3.length x.f3 ∧ x.f4.length ≤ c4 ∧ k120.C w A4 x.f4.length x.f4 ∧ x.f5.length ≤ c5 ∧ k130.C w A5 x.f5.length x.f5 := by
  obtain ⟨_, _, rfl, rfl, ⟨_, _, rfl, ⟨A1, c1, rfl, l1, g1⟩, ⟨_, _, rfl, rfl, ⟨_, _, rfl, ⟨A3, c3, rfl, l3, g3⟩, ⟨_, _, rfl, ⟨A4, c4, rfl, l4, g4⟩, ⟨A5, c5, rfl, l5, g5⟩⟩⟩⟩⟩⟩ := h
  exact ⟨A1, c1, A3, c3, A4, c4, A5, c5, rfl, l1, g1, l3, g3, l4, g4, l5, g5⟩
end Go.Proofs.Ytiaohbbafaaibaa.P

/- What the Go functions named below come to, as plain functions, each with its proof; written by this session's prt.py over the kit's print. -/
namespace Go.Proofs.Ytiaohbbafaaibaa.P
open Go.RowKit Go.Proofs.YtiaohbbafaaibaaW.PrintWords Go.Proofs.YtiaohbbafaaibaaW.PrintLast Go.Proofs.YtiaohbbafaaibaaW.PrintMore
attribute [local go_sem] max2_int min2_int max_two min_two max_three min_three max_four min_four   -- for this text's walks alone
set_option linter.unusedVariables false
set_option linter.unusedSimpArgs false
/-! ### pleatlaw03_heavy: function 72 -/
def pleatlaw03_heavy.l0 : Nat → Int → Int → ByteArray → List Int → Int → List Int → List (S120) → List (S130) → Option (Bool)
 | 0, _, _, _, _, _, _, _, _ => none
 | k + 1, x3, x4, x597000, x597001, x597002, x597003, x597004, x597005 => if x4 < (x597004.length : Int) then (if x3 ≤ 1048576 then (if 0 ≤ x4 then (pleatlaw03_heavy.l0 k (wrap64 ((wrap64 (x3 + 1)) + (((rd_T120 x597004 x4).f0).size : Int))) (wrap64 (x4 + 1)) x597000 x597001 x597002 x597003 x597004 x597005) else (none)) else (if x3 > 1048576 then (some true) else (if (x597000.size : Int) > 1048576 then (some true) else (if (x597001.length : Int) > 32768 then (some true) else (if (x597003.length : Int) > 32768 then (some true) else (some (decide ((x597005.length : Int) > 32768)))))))) else (if x3 > 1048576 then (some true) else (if (x597000.size : Int) > 1048576 then (some true) else (if (x597001.length : Int) > 32768 then (some true) else (if (x597003.length : Int) > 32768 then (some true) else (some (decide ((x597005.length : Int) > 32768)))))))
def pleatlaw03_heavy.f (k : Nat) (a0_0 : ByteArray) (l0_1 : List Int) (a0_2 : Int) (l0_3 : List Int) (l0_4 : List (S120)) (l0_5 : List (S130)) : Option (Bool) := pleatlaw03_heavy.l0 k 0 0 a0_0 l0_1 a0_2 l0_3 l0_4 l0_5
theorem pleatlaw03_heavy.mono_l : ∀ k, (∀ y0 y1 y2 y3 y4 y5 y6 y7, LeO (pleatlaw03_heavy.l0 k y0 y1 y2 y3 y4 y5 y6 y7) (pleatlaw03_heavy.l0 (k + 1) y0 y1 y2 y3 y4 y5 y6 y7))
 | 0 => fun _ _ _ _ _ _ _ _ r h => by simp [pleatlaw03_heavy.l0] at h
 | k + 1 => by
  have ih0 := pleatlaw03_heavy.mono_l k
  ·
   intro y0 y1 y2 y3 y4 y5 y6 y7
   unfold pleatlaw03_heavy.l0
   repeat' first
   | (with_reducible exact ih0 _ _ _ _ _ _ _ _)
   | (with_reducible exact LeO.refl _)
   | (with_reducible exact LeO.none _)
   | (with_reducible refine LeO.ite ?_ ?_)
   | (with_reducible refine LeO.bind ?_ (fun _ => ?_))
   | exact ih0 _ _ _ _ _ _ _ _
   | exact LeO.none _
   | refine LeO.ite ?_ ?_
   | refine LeO.bind ?_ (fun _ => ?_)
theorem pleatlaw03_heavy.mono : ∀ a0 a1 a2 a3 a4 a5 k, LeO (pleatlaw03_heavy.f k a0 a1 a2 a3 a4 a5) (pleatlaw03_heavy.f (k + 1) a0 a1 a2 a3 a4 a5) := by
 intro a0 a1 a2 a3 a4 a5 k
 have ih0 := pleatlaw03_heavy.mono_l k
 unfold pleatlaw03_heavy.f
 repeat' first
   | (with_reducible exact ih0 _ _ _ _ _ _ _ _)
   | (with_reducible exact LeO.refl _)
   | (with_reducible exact LeO.none _)
   | (with_reducible refine LeO.ite ?_ ?_)
   | (with_reducible refine LeO.bind ?_ (fun _ => ?_))
   | exact ih0 _ _ _ _ _ _ _ _
   | exact LeO.none _
   | refine LeO.ite ?_ ?_
   | refine LeO.bind ?_ (fun _ => ?_)
set_option maxHeartbeats 8000000 in
set_option maxRecDepth 100000 in
theorem pleatlaw03_heavy.calls (k : Nat) (a0_0 : ByteArray) (A0_1 : Option Addr) (c0_1 : Nat) (l0_1 : List Int) (a0_2 : Int) (A0_3 : Option Addr) (c0_3 : Nat) (l0_3 : List Int) (A0_4 : Option Addr) (c0_4 : Nat) (l0_4 : List (S120)) (A0_5 : Option Addr) (c0_5 : Nat) (l0_5 : List (S130)) (r : Bool) (w : World) (hr0_1 : Kd.C (Kd.int .u32) w A0_1 l0_1.length l0_1) (hc0_1 : l0_1.length ≤ c0_1) (hr0_3 : Kd.C (Kd.int .i64) w A0_3 l0_3.length l0_3) (hc0_3 : l0_3.length ≤ c0_3) (hr0_4 : Kd.C k120 w A0_4 l0_4.length l0_4) (hc0_4 : l0_4.length ≤ c0_4) (hr0_5 : Kd.C k130 w A0_5 l0_5.length l0_5) (hc0_5 : l0_5.length ≤ c0_5) (h : pleatlaw03_heavy.f k a0_0 l0_1 a0_2 l0_3 l0_4 l0_5 = some r) :
  Calls Try.prog 72 #[.agg #[.string a0_0, .slice A0_1 l0_1.length c0_1, .int .i64 a0_2, .slice A0_3 l0_3.length c0_3, .slice A0_4 l0_4.length c0_4, .slice A0_5 l0_5.length c0_5]] w fun e w' => e = .returned (.bool r) ∧ Below w.heap.size w w' := by
 have hu88 := Try.underlying88
 have HR0_1 := Aside0.mk hr0_1
 have HC0_1 := Aside0.mk hc0_1
 clear hr0_1 hc0_1
 have HR0_3 := Aside0.mk hr0_3
 have HC0_3 := Aside0.mk hc0_3
 clear hr0_3 hc0_3
 have HR0_4 := Aside0.mk hr0_4
 have HC0_4 := Aside0.mk hc0_4
 clear hr0_4 hc0_4
 have HR0_5 := Aside0.mk hr0_5
 have HC0_5 := Aside0.mk hc0_5
 clear hr0_5 hc0_5
 have HB := Aside0.mk (Below.refl w.heap.size w)
 have H : (pleatlaw03_heavy.l0 k 0 0 a0_0 l0_1 a0_2 l0_3 l0_4 l0_5) = some r := h
 clear h
 have H' := Aside0.mk H
 clear H
 go_enter Try.func72, Try.ntmps72
 go_wp2_with (first | ((with_reducible refine gate_dst (N := 1) rfl ?_); (try (refine gate_guard (by rfl) ?_; dsimp only)); refine box_event ?hg (N := 1) ?hd (cs := #[.string a0_0, .slice A0_1 l0_1.length c0_1, .int .i64 a0_2, .slice A0_3 l0_3.length c0_3, .slice A0_4 l0_4.length c0_4, .slice A0_5 l0_5.length c0_5]) (t := 88) ?hr ?_; (case hd => rfl); (case hg => rfl); (case hr => first | (go_simp; done) | (go_simp; rfl)); intro gb596 hg w2 hbox hb; have n0_ := Aside0.mk (below_step (by repeat (first | (with_reducible first | exact HB.out | apply below_alloc | apply pw_below_drewN | apply below_drew1) | exact HB.out)) hb); have n1_ := Aside0.mk (hbox); have n2_ := Aside0.mk ((by rw [hg]; exact (below_size (by repeat (first | (with_reducible first | exact HB.out | apply below_alloc | apply pw_below_drewN | apply below_drew1) | exact HB.out))) : w.heap.size ≤ gb596)); have n3_ := Aside0.mk ((by rw [hg]; exact (below_size (by repeat (first | (with_reducible first | exact HB.out | apply below_alloc | apply pw_below_drewN | apply below_drew1) | exact HB.out))) : w.heap.size ≤ gb596)); clear HB; have HB := n0_; have BK596 := n1_; have GW596 := n2_; have GE596 := n3_; clear n0_ n1_ n2_ n3_; clear hb hbox hg))
 go_loopg [3, 4] k (fun kq v3 v4 w' => ∃ (x3_1 : Int) (x4_1 : Int), v3 = .int .i64 x3_1 ∧ v4 = .int .i64 x4_1 ∧ Aside0 (pleatlaw03_heavy.l0 kq x3_1 x4_1 a0_0 l0_1 a0_2 l0_3 l0_4 l0_5 = some r) ∧ Aside0 (kq ≤ k) ∧ Aside0 (w'.heap[gb596]? = some (.cells #[.string a0_0, (.slice A0_1 l0_1.length c0_1), .int .i64 a0_2, (.slice A0_3 l0_3.length c0_3), (.slice A0_4 l0_4.length c0_4), (.slice A0_5 l0_5.length c0_5)] 88 (0, 0))) ∧ Aside0 (Below w.heap.size w w'))
 case atStart => exact ⟨(0), (0), (by first | rfl | (simp; done) | (simp [*]; done)), (by first | rfl | (simp; done) | (simp [*]; done)), H', ⟨Nat.le_refl _⟩, ⟨by (with_reducible repeat (first | refine blk_drewN ?_ _ | refine blk_drew ?_ | refine blk_alloc ?_ _)); exact BK596.out⟩, ⟨by repeat (first | (with_reducible first | exact HB.out | apply below_alloc | apply pw_below_drewN | apply below_drew1 | refine below_set ?_ GE596.out) | exact HB.out)⟩⟩
 case round =>
  clear H'
  try clear p2
  obtain ⟨x3_1, x4_1, rfl, rfl, HA, HK1, BK596, HB⟩ := hrel
  cases gk with
  | zero => exact absurd HA.out (by simp [pleatlaw03_heavy.l0])
  | succ k1 =>
   have H := HA.out
   clear HA
   simp only [pleatlaw03_heavy.l0] at H
   by_cases c3 : x4_1 < (l0_4.length : Int)
   ·
    rw [if_pos c3] at H
    have c3b0 : decide (x4_1 < (l0_4.length : Int)) = true := decide_eq_true c3
    clear c3
    by_cases c4 : x3_1 ≤ 1048576
    ·
     rw [if_pos c4] at H
     have c4b0 : decide (x3_1 ≤ 1048576) = true := decide_eq_true c4
     clear c4
     by_cases c5 : 0 ≤ x4_1
     ·
      rw [if_pos c5] at H
      have c5b0 : decide (0 ≤ x4_1) = true := decide_eq_true c5
      clear c5
      have H' := Aside0.mk H
      clear H
      have hcz6_0 : wr.cell? ⟨gb596, 0, none⟩ = some (.string a0_0) := (blk_cell BK596.out 0).trans rfl
      have hcz6_1 : wr.cell? ⟨gb596, 1, none⟩ = some (.slice A0_1 l0_1.length c0_1) := (blk_cell BK596.out 1).trans rfl
      have hcz6_2 : wr.cell? ⟨gb596, 2, none⟩ = some (.int .i64 a0_2) := (blk_cell BK596.out 2).trans rfl
      have hcz6_3 : wr.cell? ⟨gb596, 3, none⟩ = some (.slice A0_3 l0_3.length c0_3) := (blk_cell BK596.out 3).trans rfl
      have hcz6_4 : wr.cell? ⟨gb596, 4, none⟩ = some (.slice A0_4 l0_4.length c0_4) := (blk_cell BK596.out 4).trans rfl
      have hcz6_5 : wr.cell? ⟨gb596, 5, none⟩ = some (.slice A0_5 l0_5.length c0_5) := (blk_cell BK596.out 5).trans rfl
      have hfz6_0 := blk_frozen BK596.out 0
      have hfz6_1 := blk_frozen BK596.out 1
      have hfz6_2 := blk_frozen BK596.out 2
      have hfz6_3 := blk_frozen BK596.out 3
      have hfz6_4 := blk_frozen BK596.out 4
      have hfz6_5 := blk_frozen BK596.out 5
      have p597 : 0 ≤ (x4_1 : Int) := of_decide_eq_true (by first | (with_reducible assumption) | assumption)
      have q597 : x4_1 < (l0_4.length : Int) := of_decide_eq_true (by first | (with_reducible assumption) | assumption)
      obtain ⟨ad597, e597, hx597_0, hx597_1, hx597_2⟩ := at_T120 HR0_4.out x4_1 p597 q597
      cases e597
      replace hx597_0 := (HB.out.cell (World.block_lt_of_cell? w _ hx597_0)).trans hx597_0
      replace hx597_1 := (HB.out.cell (World.block_lt_of_cell? w _ hx597_1)).trans hx597_1
      replace hx597_2 := (HB.out.cell (World.block_lt_of_cell? w _ hx597_2)).trans hx597_2
      replace p597 := eq_true p597
      replace q597 := eq_true q597
      go_wp2
      go_roundg k1
      case measure => have := HK1.out; omega
      case rel => exact ⟨(wrap64 ((wrap64 (x3_1 + 1)) + (((rd_T120 l0_4 x4_1).f0).size : Int))), (wrap64 (x4_1 + 1)), (by first | rfl | (simp; done) | (simp [*]; done)), (by first | rfl | (simp; done) | (simp [*]; done)), H', ⟨by have := HK1.out; omega⟩, ⟨by (with_reducible repeat (first | refine blk_drewN ?_ _ | refine blk_drew ?_ | refine blk_alloc ?_ _)); exact BK596.out⟩, ⟨by repeat (first | (with_reducible first | exact HB.out | apply below_alloc | apply pw_below_drewN | apply below_drew1 | refine below_set ?_ GE596.out) | exact HB.out)⟩⟩
     ·
      rw [if_neg c5] at H
      exact absurd H (by simp)
    ·
     rw [if_neg c4] at H
     have c4b0 : decide (x3_1 ≤ 1048576) = false := decide_eq_false c4
     clear c4
     by_cases c7 : x3_1 > 1048576
     ·
      rw [if_pos c7] at H
      have c7b0 : decide (1048576 < x3_1) = true := decide_eq_true c7
      clear c7
      obtain rfl := Option.some.inj H
      have hcz8_0 : wr.cell? ⟨gb596, 0, none⟩ = some (.string a0_0) := (blk_cell BK596.out 0).trans rfl
      have hcz8_1 : wr.cell? ⟨gb596, 1, none⟩ = some (.slice A0_1 l0_1.length c0_1) := (blk_cell BK596.out 1).trans rfl
      have hcz8_2 : wr.cell? ⟨gb596, 2, none⟩ = some (.int .i64 a0_2) := (blk_cell BK596.out 2).trans rfl
      have hcz8_3 : wr.cell? ⟨gb596, 3, none⟩ = some (.slice A0_3 l0_3.length c0_3) := (blk_cell BK596.out 3).trans rfl
      have hcz8_4 : wr.cell? ⟨gb596, 4, none⟩ = some (.slice A0_4 l0_4.length c0_4) := (blk_cell BK596.out 4).trans rfl
      have hcz8_5 : wr.cell? ⟨gb596, 5, none⟩ = some (.slice A0_5 l0_5.length c0_5) := (blk_cell BK596.out 5).trans rfl
      have hfz8_0 := blk_frozen BK596.out 0
      have hfz8_1 := blk_frozen BK596.out 1
      have hfz8_2 := blk_frozen BK596.out 2
      have hfz8_3 := blk_frozen BK596.out 3
      have hfz8_4 := blk_frozen BK596.out 4
      have hfz8_5 := blk_frozen BK596.out 5
      go_wp2
      go_ret
      exact ⟨by first | rfl | (simp [errW_none, errW_some] <;> rfl) | (simp [*, errW_none, errW_some] <;> rfl), by repeat (first | (with_reducible first | exact HB.out | apply below_alloc | apply pw_below_drewN | apply below_drew1 | refine below_set ?_ GE596.out) | exact HB.out)⟩
     ·
      rw [if_neg c7] at H
      have c7b0 : decide (1048576 < x3_1) = false := decide_eq_false c7
      clear c7
      by_cases c9 : (a0_0.size : Int) > 1048576
      ·
       rw [if_pos c9] at H
       have c9b0 : decide (1048576 < (a0_0.size : Int)) = true := decide_eq_true c9
       have c9b1 : decide (1048576 < a0_0.size) = true := decide_eq_true (by omega)
       clear c9
       obtain rfl := Option.some.inj H
       have hcz10_0 : wr.cell? ⟨gb596, 0, none⟩ = some (.string a0_0) := (blk_cell BK596.out 0).trans rfl
       have hcz10_1 : wr.cell? ⟨gb596, 1, none⟩ = some (.slice A0_1 l0_1.length c0_1) := (blk_cell BK596.out 1).trans rfl
       have hcz10_2 : wr.cell? ⟨gb596, 2, none⟩ = some (.int .i64 a0_2) := (blk_cell BK596.out 2).trans rfl
       have hcz10_3 : wr.cell? ⟨gb596, 3, none⟩ = some (.slice A0_3 l0_3.length c0_3) := (blk_cell BK596.out 3).trans rfl
       have hcz10_4 : wr.cell? ⟨gb596, 4, none⟩ = some (.slice A0_4 l0_4.length c0_4) := (blk_cell BK596.out 4).trans rfl
       have hcz10_5 : wr.cell? ⟨gb596, 5, none⟩ = some (.slice A0_5 l0_5.length c0_5) := (blk_cell BK596.out 5).trans rfl
       have hfz10_0 := blk_frozen BK596.out 0
       have hfz10_1 := blk_frozen BK596.out 1
       have hfz10_2 := blk_frozen BK596.out 2
       have hfz10_3 := blk_frozen BK596.out 3
       have hfz10_4 := blk_frozen BK596.out 4
       have hfz10_5 := blk_frozen BK596.out 5
       go_wp2
       go_ret
       exact ⟨by first | rfl | (simp [errW_none, errW_some] <;> rfl) | (simp [*, errW_none, errW_some] <;> rfl), by repeat (first | (with_reducible first | exact HB.out | apply below_alloc | apply pw_below_drewN | apply below_drew1 | refine below_set ?_ GE596.out) | exact HB.out)⟩
      ·
       rw [if_neg c9] at H
       have c9b0 : decide (1048576 < (a0_0.size : Int)) = false := decide_eq_false c9
       have c9b1 : decide (1048576 < a0_0.size) = false := decide_eq_false (by omega)
       clear c9
       by_cases c11 : (l0_1.length : Int) > 32768
       ·
        rw [if_pos c11] at H
        have c11b0 : decide (32768 < (l0_1.length : Int)) = true := decide_eq_true c11
        have c11b1 : decide (32768 < l0_1.length) = true := decide_eq_true (by omega)
        clear c11
        obtain rfl := Option.some.inj H
        have hcz12_0 : wr.cell? ⟨gb596, 0, none⟩ = some (.string a0_0) := (blk_cell BK596.out 0).trans rfl
        have hcz12_1 : wr.cell? ⟨gb596, 1, none⟩ = some (.slice A0_1 l0_1.length c0_1) := (blk_cell BK596.out 1).trans rfl
        have hcz12_2 : wr.cell? ⟨gb596, 2, none⟩ = some (.int .i64 a0_2) := (blk_cell BK596.out 2).trans rfl
        have hcz12_3 : wr.cell? ⟨gb596, 3, none⟩ = some (.slice A0_3 l0_3.length c0_3) := (blk_cell BK596.out 3).trans rfl
        have hcz12_4 : wr.cell? ⟨gb596, 4, none⟩ = some (.slice A0_4 l0_4.length c0_4) := (blk_cell BK596.out 4).trans rfl
        have hcz12_5 : wr.cell? ⟨gb596, 5, none⟩ = some (.slice A0_5 l0_5.length c0_5) := (blk_cell BK596.out 5).trans rfl
        have hfz12_0 := blk_frozen BK596.out 0
        have hfz12_1 := blk_frozen BK596.out 1
        have hfz12_2 := blk_frozen BK596.out 2
        have hfz12_3 := blk_frozen BK596.out 3
        have hfz12_4 := blk_frozen BK596.out 4
        have hfz12_5 := blk_frozen BK596.out 5
        go_wp2
        go_ret
        exact ⟨by first | rfl | (simp [errW_none, errW_some] <;> rfl) | (simp [*, errW_none, errW_some] <;> rfl), by repeat (first | (with_reducible first | exact HB.out | apply below_alloc | apply pw_below_drewN | apply below_drew1 | refine below_set ?_ GE596.out) | exact HB.out)⟩
       ·
        rw [if_neg c11] at H
        have c11b0 : decide (32768 < (l0_1.length : Int)) = false := decide_eq_false c11
        have c11b1 : decide (32768 < l0_1.length) = false := decide_eq_false (by omega)
        clear c11
        by_cases c13 : (l0_3.length : Int) > 32768
        ·
         rw [if_pos c13] at H
         have c13b0 : decide (32768 < (l0_3.length : Int)) = true := decide_eq_true c13
         have c13b1 : decide (32768 < l0_3.length) = true := decide_eq_true (by omega)
         clear c13
         obtain rfl := Option.some.inj H
         have hcz14_0 : wr.cell? ⟨gb596, 0, none⟩ = some (.string a0_0) := (blk_cell BK596.out 0).trans rfl
         have hcz14_1 : wr.cell? ⟨gb596, 1, none⟩ = some (.slice A0_1 l0_1.length c0_1) := (blk_cell BK596.out 1).trans rfl
         have hcz14_2 : wr.cell? ⟨gb596, 2, none⟩ = some (.int .i64 a0_2) := (blk_cell BK596.out 2).trans rfl
         have hcz14_3 : wr.cell? ⟨gb596, 3, none⟩ = some (.slice A0_3 l0_3.length c0_3) := (blk_cell BK596.out 3).trans rfl
         have hcz14_4 : wr.cell? ⟨gb596, 4, none⟩ = some (.slice A0_4 l0_4.length c0_4) := (blk_cell BK596.out 4).trans rfl
         have hcz14_5 : wr.cell? ⟨gb596, 5, none⟩ = some (.slice A0_5 l0_5.length c0_5) := (blk_cell BK596.out 5).trans rfl
         have hfz14_0 := blk_frozen BK596.out 0
         have hfz14_1 := blk_frozen BK596.out 1
         have hfz14_2 := blk_frozen BK596.out 2
         have hfz14_3 := blk_frozen BK596.out 3
         have hfz14_4 := blk_frozen BK596.out 4
         have hfz14_5 := blk_frozen BK596.out 5
         go_wp2
         go_ret
         exact ⟨by first | rfl | (simp [errW_none, errW_some] <;> rfl) | (simp [*, errW_none, errW_some] <;> rfl), by repeat (first | (with_reducible first | exact HB.out | apply below_alloc | apply pw_below_drewN | apply below_drew1 | refine below_set ?_ GE596.out) | exact HB.out)⟩
        ·
         rw [if_neg c13] at H
         have c13b0 : decide (32768 < (l0_3.length : Int)) = false := decide_eq_false c13
         have c13b1 : decide (32768 < l0_3.length) = false := decide_eq_false (by omega)
         clear c13
         obtain rfl := Option.some.inj H
         have hcz15_0 : wr.cell? ⟨gb596, 0, none⟩ = some (.string a0_0) := (blk_cell BK596.out 0).trans rfl
         have hcz15_1 : wr.cell? ⟨gb596, 1, none⟩ = some (.slice A0_1 l0_1.length c0_1) := (blk_cell BK596.out 1).trans rfl
         have hcz15_2 : wr.cell? ⟨gb596, 2, none⟩ = some (.int .i64 a0_2) := (blk_cell BK596.out 2).trans rfl
         have hcz15_3 : wr.cell? ⟨gb596, 3, none⟩ = some (.slice A0_3 l0_3.length c0_3) := (blk_cell BK596.out 3).trans rfl
         have hcz15_4 : wr.cell? ⟨gb596, 4, none⟩ = some (.slice A0_4 l0_4.length c0_4) := (blk_cell BK596.out 4).trans rfl
         have hcz15_5 : wr.cell? ⟨gb596, 5, none⟩ = some (.slice A0_5 l0_5.length c0_5) := (blk_cell BK596.out 5).trans rfl
         have hfz15_0 := blk_frozen BK596.out 0
         have hfz15_1 := blk_frozen BK596.out 1
         have hfz15_2 := blk_frozen BK596.out 2
         have hfz15_3 := blk_frozen BK596.out 3
         have hfz15_4 := blk_frozen BK596.out 4
         have hfz15_5 := blk_frozen BK596.out 5
         go_wp2
         go_ret
         exact ⟨by first | rfl | (simp [errW_none, errW_some] <;> rfl) | (simp [*, errW_none, errW_some] <;> rfl), by repeat (first | (with_reducible first | exact HB.out | apply below_alloc | apply pw_below_drewN | apply below_drew1 | refine below_set ?_ GE596.out) | exact HB.out)⟩
   ·
    rw [if_neg c3] at H
    have c3b0 : decide (x4_1 < (l0_4.length : Int)) = false := decide_eq_false c3
    clear c3
    by_cases c16 : x3_1 > 1048576
    ·
     rw [if_pos c16] at H
     have c16b0 : decide (1048576 < x3_1) = true := decide_eq_true c16
     clear c16
     obtain rfl := Option.some.inj H
     have hcz17_0 : wr.cell? ⟨gb596, 0, none⟩ = some (.string a0_0) := (blk_cell BK596.out 0).trans rfl
     have hcz17_1 : wr.cell? ⟨gb596, 1, none⟩ = some (.slice A0_1 l0_1.length c0_1) := (blk_cell BK596.out 1).trans rfl
     have hcz17_2 : wr.cell? ⟨gb596, 2, none⟩ = some (.int .i64 a0_2) := (blk_cell BK596.out 2).trans rfl
     have hcz17_3 : wr.cell? ⟨gb596, 3, none⟩ = some (.slice A0_3 l0_3.length c0_3) := (blk_cell BK596.out 3).trans rfl
     have hcz17_4 : wr.cell? ⟨gb596, 4, none⟩ = some (.slice A0_4 l0_4.length c0_4) := (blk_cell BK596.out 4).trans rfl
     have hcz17_5 : wr.cell? ⟨gb596, 5, none⟩ = some (.slice A0_5 l0_5.length c0_5) := (blk_cell BK596.out 5).trans rfl
     have hfz17_0 := blk_frozen BK596.out 0
     have hfz17_1 := blk_frozen BK596.out 1
     have hfz17_2 := blk_frozen BK596.out 2
     have hfz17_3 := blk_frozen BK596.out 3
     have hfz17_4 := blk_frozen BK596.out 4
     have hfz17_5 := blk_frozen BK596.out 5
     go_wp2
     go_ret
     exact ⟨by first | rfl | (simp [errW_none, errW_some] <;> rfl) | (simp [*, errW_none, errW_some] <;> rfl), by repeat (first | (with_reducible first | exact HB.out | apply below_alloc | apply pw_below_drewN | apply below_drew1 | refine below_set ?_ GE596.out) | exact HB.out)⟩
    ·
     rw [if_neg c16] at H
     have c16b0 : decide (1048576 < x3_1) = false := decide_eq_false c16
     clear c16
     by_cases c18 : (a0_0.size : Int) > 1048576
     ·
      rw [if_pos c18] at H
      have c18b0 : decide (1048576 < (a0_0.size : Int)) = true := decide_eq_true c18
      have c18b1 : decide (1048576 < a0_0.size) = true := decide_eq_true (by omega)
      clear c18
      obtain rfl := Option.some.inj H
      have hcz19_0 : wr.cell? ⟨gb596, 0, none⟩ = some (.string a0_0) := (blk_cell BK596.out 0).trans rfl
      have hcz19_1 : wr.cell? ⟨gb596, 1, none⟩ = some (.slice A0_1 l0_1.length c0_1) := (blk_cell BK596.out 1).trans rfl
      have hcz19_2 : wr.cell? ⟨gb596, 2, none⟩ = some (.int .i64 a0_2) := (blk_cell BK596.out 2).trans rfl
      have hcz19_3 : wr.cell? ⟨gb596, 3, none⟩ = some (.slice A0_3 l0_3.length c0_3) := (blk_cell BK596.out 3).trans rfl
      have hcz19_4 : wr.cell? ⟨gb596, 4, none⟩ = some (.slice A0_4 l0_4.length c0_4) := (blk_cell BK596.out 4).trans rfl
      have hcz19_5 : wr.cell? ⟨gb596, 5, none⟩ = some (.slice A0_5 l0_5.length c0_5) := (blk_cell BK596.out 5).trans rfl
      have hfz19_0 := blk_frozen BK596.out 0
      have hfz19_1 := blk_frozen BK596.out 1
      have hfz19_2 := blk_frozen BK596.out 2
      have hfz19_3 := blk_frozen BK596.out 3
      have hfz19_4 := blk_frozen BK596.out 4
      have hfz19_5 := blk_frozen BK596.out 5
      go_wp2
      go_ret
      exact ⟨by first | rfl | (simp [errW_none, errW_some] <;> rfl) | (simp [*, errW_none, errW_some] <;> rfl), by repeat (first | (with_reducible first | exact HB.out | apply below_alloc | apply pw_below_drewN | apply below_drew1 | refine below_set ?_ GE596.out) | exact HB.out)⟩
     ·
      rw [if_neg c18] at H
      have c18b0 : decide (1048576 < (a0_0.size : Int)) = false := decide_eq_false c18
      have c18b1 : decide (1048576 < a0_0.size) = false := decide_eq_false (by omega)
      clear c18
      by_cases c20 : (l0_1.length : Int) > 32768
      ·
       rw [if_pos c20] at H
       have c20b0 : decide (32768 < (l0_1.length : Int)) = true := decide_eq_true c20
       have c20b1 : decide (32768 < l0_1.length) = true := decide_eq_true (by omega)
       clear c20
       obtain rfl := Option.some.inj H
       have hcz21_0 : wr.cell? ⟨gb596, 0, none⟩ = some (.string a0_0) := (blk_cell BK596.out 0).trans rfl
       have hcz21_1 : wr.cell? ⟨gb596, 1, none⟩ = some (.slice A0_1 l0_1.length c0_1) := (blk_cell BK596.out 1).trans rfl
       have hcz21_2 : wr.cell? ⟨gb596, 2, none⟩ = some (.int .i64 a0_2) := (blk_cell BK596.out 2).trans rfl
       have hcz21_3 : wr.cell? ⟨gb596, 3, none⟩ = some (.slice A0_3 l0_3.length c0_3) := (blk_cell BK596.out 3).trans rfl
       have hcz21_4 : wr.cell? ⟨gb596, 4, none⟩ = some (.slice A0_4 l0_4.length c0_4) := (blk_cell BK596.out 4).trans rfl
       have hcz21_5 : wr.cell? ⟨gb596, 5, none⟩ = some (.slice A0_5 l0_5.length c0_5) := (blk_cell BK596.out 5).trans rfl
       have hfz21_0 := blk_frozen BK596.out 0
       have hfz21_1 := blk_frozen BK596.out 1
       have hfz21_2 := blk_frozen BK596.out 2
       have hfz21_3 := blk_frozen BK596.out 3
       have hfz21_4 := blk_frozen BK596.out 4
       have hfz21_5 := blk_frozen BK596.out 5
       go_wp2
       go_ret
       exact ⟨by first | rfl | (simp [errW_none, errW_some] <;> rfl) | (simp [*, errW_none, errW_some] <;> rfl), by repeat (first | (with_reducible first | exact HB.out | apply below_alloc | apply pw_below_drewN | apply below_drew1 | refine below_set ?_ GE596.out) | exact HB.out)⟩
      ·
       rw [if_neg c20] at H
       have c20b0 : decide (32768 < (l0_1.length : Int)) = false := decide_eq_false c20
       have c20b1 : decide (32768 < l0_1.length) = false := decide_eq_false (by omega)
       clear c20
       by_cases c22 : (l0_3.length : Int) > 32768
       ·
        rw [if_pos c22] at H
        have c22b0 : decide (32768 < (l0_3.length : Int)) = true := decide_eq_true c22
        have c22b1 : decide (32768 < l0_3.length) = true := decide_eq_true (by omega)
        clear c22
        obtain rfl := Option.some.inj H
        have hcz23_0 : wr.cell? ⟨gb596, 0, none⟩ = some (.string a0_0) := (blk_cell BK596.out 0).trans rfl
        have hcz23_1 : wr.cell? ⟨gb596, 1, none⟩ = some (.slice A0_1 l0_1.length c0_1) := (blk_cell BK596.out 1).trans rfl
        have hcz23_2 : wr.cell? ⟨gb596, 2, none⟩ = some (.int .i64 a0_2) := (blk_cell BK596.out 2).trans rfl
        have hcz23_3 : wr.cell? ⟨gb596, 3, none⟩ = some (.slice A0_3 l0_3.length c0_3) := (blk_cell BK596.out 3).trans rfl
        have hcz23_4 : wr.cell? ⟨gb596, 4, none⟩ = some (.slice A0_4 l0_4.length c0_4) := (blk_cell BK596.out 4).trans rfl
        have hcz23_5 : wr.cell? ⟨gb596, 5, none⟩ = some (.slice A0_5 l0_5.length c0_5) := (blk_cell BK596.out 5).trans rfl
        have hfz23_0 := blk_frozen BK596.out 0
        have hfz23_1 := blk_frozen BK596.out 1
        have hfz23_2 := blk_frozen BK596.out 2
        have hfz23_3 := blk_frozen BK596.out 3
        have hfz23_4 := blk_frozen BK596.out 4
        have hfz23_5 := blk_frozen BK596.out 5
        go_wp2
        go_ret
        exact ⟨by first | rfl | (simp [errW_none, errW_some] <;> rfl) | (simp [*, errW_none, errW_some] <;> rfl), by repeat (first | (with_reducible first | exact HB.out | apply below_alloc | apply pw_below_drewN | apply below_drew1 | refine below_set ?_ GE596.out) | exact HB.out)⟩
       ·
        rw [if_neg c22] at H
        have c22b0 : decide (32768 < (l0_3.length : Int)) = false := decide_eq_false c22
        have c22b1 : decide (32768 < l0_3.length) = false := decide_eq_false (by omega)
        clear c22
        obtain rfl := Option.some.inj H
        have hcz24_0 : wr.cell? ⟨gb596, 0, none⟩ = some (.string a0_0) := (blk_cell BK596.out 0).trans rfl
        have hcz24_1 : wr.cell? ⟨gb596, 1, none⟩ = some (.slice A0_1 l0_1.length c0_1) := (blk_cell BK596.out 1).trans rfl
        have hcz24_2 : wr.cell? ⟨gb596, 2, none⟩ = some (.int .i64 a0_2) := (blk_cell BK596.out 2).trans rfl
        have hcz24_3 : wr.cell? ⟨gb596, 3, none⟩ = some (.slice A0_3 l0_3.length c0_3) := (blk_cell BK596.out 3).trans rfl
        have hcz24_4 : wr.cell? ⟨gb596, 4, none⟩ = some (.slice A0_4 l0_4.length c0_4) := (blk_cell BK596.out 4).trans rfl
        have hcz24_5 : wr.cell? ⟨gb596, 5, none⟩ = some (.slice A0_5 l0_5.length c0_5) := (blk_cell BK596.out 5).trans rfl
        have hfz24_0 := blk_frozen BK596.out 0
        have hfz24_1 := blk_frozen BK596.out 1
        have hfz24_2 := blk_frozen BK596.out 2
        have hfz24_3 := blk_frozen BK596.out 3
        have hfz24_4 := blk_frozen BK596.out 4
        have hfz24_5 := blk_frozen BK596.out 5
        go_wp2
        go_ret
        exact ⟨by first | rfl | (simp [errW_none, errW_some] <;> rfl) | (simp [*, errW_none, errW_some] <;> rfl), by repeat (first | (with_reducible first | exact HB.out | apply below_alloc | apply pw_below_drewN | apply below_drew1 | refine below_set ?_ GE596.out) | exact HB.out)⟩
end Go.Proofs.Ytiaohbbafaaibaa.P

/- OWN TEXT: what object.Name comes to (it ranges over a text, which the print does not take), in the print's own form. -/
namespace Go.Proofs.Ytiaohbbafaaibaa.P
open Go.RowKit Go.Proofs.YtiaohbbafaaibaaW.PrintWords Go.Proofs.YtiaohbbafaaibaaW.PrintLast Go.Proofs.YtiaohbbafaaibaaW.PrintMore
set_option linter.unusedVariables false
set_option linter.unusedSimpArgs false

def OkC (i : Nat) (c : Int) : Prop := (97 ≤ c ∧ c ≤ 122) ∨ (65 ≤ c ∧ c ≤ 90) ∨ c = 95 ∨ (0 < i ∧ ((48 ≤ c ∧ c ≤ 57) ∨ c = 46))
instance (i : Nat) (c : Int) : Decidable (OkC i c) := by unfold OkC; infer_instance
def nameS (s : ByteArray) : Bool := decide (0 < s.size ∧ s.size ≤ 24 ∧ ∀ j, j < s.size → OkC j (bt s (j : Int)))
def object_Name.f (a0 : ByteArray) : Option (Bool) := some (nameS a0)
theorem decode_bt (s : ByteArray) (pos : Nat) (h : pos < s.size) : (((Utf8.decode s pos).1 : Int) = bt s (pos : Int) ∧ (Utf8.decode s pos).2 = 1) ∨ (128 ≤ ((Utf8.decode s pos).1 : Int) ∧ 128 ≤ bt s (pos : Int) ∧ 1 ≤ (Utf8.decode s pos).2) := by
  have hb : ((s[pos]'h).toNat : Int) = bt s (pos : Int) := bt_at s (pos : Int) (by simpa using h)
  by_cases ha : (s[pos]'h).toNat < 128
  · rw [decode_ascii s pos h ha]
    exact .inl ⟨hb, rfl⟩
  · have := decode_high s pos h (by omega)
    exact .inr ⟨by omega, by omega, this.2⟩
set_option maxHeartbeats 4000000 in
set_option maxRecDepth 100000 in
theorem object_Name.calls (a0 : ByteArray) (r : Bool) (w : World) (h : object_Name.f a0 = some r) :
    Calls Try.prog 84 #[.string a0] w fun e w' => e = .returned (.bool r) ∧ Below w.heap.size w w' := by
  have h : nameS a0 = r := Option.some.inj h
  by_cases c0 : a0.size = 0
  · have hr : false = r := by rw [← h]; unfold nameS; exact (decide_eq_false (by omega)).symm
    subst hr
    have c0b : ((a0.size : Int) == 0) = true := by simp [c0]
    have c0c : (a0.size == 0) = true := by simp [c0]
    go_enter Try.func84, Try.ntmps84
    go_wp2
    go_ret
    exact ⟨rfl, Below.refl _ _⟩
  have c0b : ((a0.size : Int) == 0) = false := beq_eq_false_iff_ne.mpr (by omega)
  by_cases c1 : 24 < a0.size
  · have hr : false = r := by rw [← h]; unfold nameS; exact (decide_eq_false (by omega)).symm
    subst hr
    have c1b : decide ((24 : Int) < (a0.size : Int)) = true := decide_eq_true (by omega)
    go_enter Try.func84, Try.ntmps84
    go_wp2
    go_ret
    exact ⟨rfl, Below.refl _ _⟩
  have c1b : decide ((24 : Int) < (a0.size : Int)) = false := decide_eq_false (by omega)
  go_enter Try.func84, Try.ntmps84
  go_wp2
  go_loopw [15] (fun _ wr => ∃ pos : Nat, wr = w.iter a0 pos ∧ pos ≤ a0.size ∧ ∀ j, j < pos → OkC j (bt a0 (j : Int))) (fun _ wr => a0.size - wr.iterPos w.heap.size)
  case atStart => exact ⟨0, rfl, Nat.zero_le _, fun j hj => absurd hj (Nat.not_lt_zero _)⟩
  case round =>
    obtain ⟨pos, rfl, hle, hok⟩ := hrel
    by_cases hp : pos < a0.size
    · have hnx : ∀ ty, (Instr.next (.pointer (some ⟨w.heap.size, 0, none⟩)) true ty).run Try.prog (w.iter a0 pos) = _ := fun ty => run_next_any w a0 pos ty hp
      have hdec := decode_bt a0 pos hp
      generalize hd : Utf8.decode a0 pos = d at hnx hdec
      obtain ⟨c, wd⟩ := d
      simp only at hnx hdec
      by_cases hc : OkC pos (c : Int)
      · have hcb : (c : Int) = bt a0 (pos : Int) ∧ wd = 1 := by
          unfold OkC at hc
          omega
        obtain ⟨e1, e2⟩ := hcb
        subst e2
        have hnext : (∃ pos' : Nat, w.iter a0 (pos + 1) = w.iter a0 pos' ∧ pos' ≤ a0.size ∧ ∀ j, j < pos' → OkC j (bt a0 (j : Int))) := by
          refine ⟨pos + 1, rfl, by omega, fun j hj => ?_⟩
          by_cases e : j = pos
          · subst e; rw [← e1]; exact hc
          · exact hok j (by omega)
        clear hok hdec hd h e1
        unfold OkC at hc
        go_wp2
        all_goals first
          | (exfalso; simp at *; omega)
          | (go_roundw
             case rel => exact hnext
             case measure => simp; omega)
      · have hr : false = r := by
          rw [← h]
          unfold nameS
          refine (decide_eq_false (fun hall => ?_)).symm
          have := hall.2.2 pos hp
          unfold OkC at hc this
          omega
        subst hr
        clear hok hdec hd h
        unfold OkC at hc
        go_wp2
        all_goals first
          | (exfalso; simp at *; omega)
          | (go_ret; exact ⟨rfl, (Below.refl _ _).alloc (Nat.le_refl _) _⟩)
    · have hnx : ∀ ty, (Instr.next (.pointer (some ⟨w.heap.size, 0, none⟩)) true ty).run Try.prog (w.iter a0 pos) = _ := fun ty => run_next_end w a0 pos ty hp
      have hr : true = r := by
        rw [← h]
        unfold nameS
        exact (decide_eq_true ⟨by omega, by omega, fun j hj => hok j (by omega)⟩).symm
      subst hr
      go_wp2
      go_ret
      exact ⟨rfl, (Below.refl _ _).alloc (Nat.le_refl _) _⟩
end Go.Proofs.Ytiaohbbafaaibaa.P

/- OWN TEXT: arrays in variables and by value: an element stored, the whole loaded, an index that is no constant; small words for walks by hand. -/
namespace Go.Proofs.Ytiaohbbafaaibaa.Arr
open Go.RowKit Go.Proofs.YtiaohbbafaaibaaW.PrintWords
set_option linter.unusedVariables false
set_option linter.unusedSimpArgs false

theorem run_index_arr {P : Program} {w : World} {t e : TypeId} {n : Nat} {cs : Array Value} {k : IntKind} {i : Int} {v : Value} (h : P.underlying t = some (.array n e)) (hp : P.plainKey e = true) (hs : (sizeOf e).run P w = .ok 1 w)
    (h0 : 0 ≤ i) (hn : i < (n : Int)) (hv : cs[i.toNat]? = some v) : (Instr.index t (.agg cs) (.int k i)).run P w = .ok v w := by
  have hpart := run_part_plain (P := P) w hp hv
  simp only [Instr.index, asIntOf, Sem.run_bind, Sem.run_pure, Result.andThen_ok, run_underlying h, if_pos (And.intro h0 hn), hs, Nat.mul_one, hpart]

/-- What is known of a world in which block g alone has been written. -/
structure Put (W w1 : World) (g : Nat) (cs : Array Value) (e : TypeId) : Prop where
  blk : w1.heap[g]? = some (.cells cs e (0, 0))
  far : ∀ k, k ≠ g → w1.heap[k]? = W.heap[k]?
  size : w1.heap.size = W.heap.size
  below : ∀ {B : Nat} {w0 : World}, Below B w0 W → B ≤ g → Below B w0 w1

theorem put_set {W : World} {g j : Nat} {cs : Array Value} {e : TypeId} {x : Value} (hb : W.heap[g]? = some (.cells cs e (0, 0))) : Put W (W.setCell ⟨g, j, none⟩ x) g (cs.setIfInBounds j x) e :=
  ⟨blk_set hb j x, fun k hk => Below.heap_setCell W ⟨g, j, none⟩ x k hk, by simp [World.setCell], fun h hB => h.setCell hB x⟩

section
variable {P : Program} {ops : Array Oper} {rest : List Oper} {o : Oper} {a : Act} {Q : Exit → Act → World → Prop}
theorem run_store_one {W : World} {t : TypeId} {g j : Nat} {cs : Array Value} {e : TypeId} {x : Value} (hx1 : x.cells = #[x]) (h1 : x.oneCell' = true) (hs : (sizeOf t).run P W = .ok 1 W) (hb : W.heap[g]? = some (.cells cs e (0, 0))) (hj : j < cs.size) :
    (Instr.storeAt t (.pointer (some ⟨g, j, none⟩)) x).run P W = .ok () (W.setCell ⟨g, j, none⟩ x) := by
  have hst := run_storeCells_at P g j e [x] 0 cs W hb (by simp; omega) (by simpa using h1)
  have hrow : W.setRow g (cs.toList.take (j + 0) ++ [x] ++ cs.toList.drop (j + 0 + 1)).toArray = W.setCell ⟨g, j, none⟩ x := by
    have e2 : (cs.toList.take (j + 0) ++ [x] ++ cs.toList.drop (j + 0 + 1)).toArray = cs.setIfInBounds j x := by
      apply Array.ext'
      simp only [Array.toList_setIfInBounds, Nat.add_zero]
      rw [List.set_eq_take_append_cons_drop, if_pos (by simpa using hj)]
      simp
    rw [e2, setCell_eq_setRow W g j cs e (0, 0) x hb]
  simp only [Instr.storeAt, Instr.sureAddr, storeVar, Sem.run_bind, Sem.run_pure, Result.andThen_ok, hs, hx1]
  simp only [List.size_toArray, List.length_cons, List.length_nil, Nat.zero_add, ne_eq, not_true_eq_false, if_false, Sem.run_pure, Sem.run_bind, Result.andThen_ok]
  rw [← hrow]
  simpa using hst
theorem wpList_store_arr {W : World} (hgd : o.guard = none) (hN : o.dst = none) {t : TypeId} {p v : Operand} (ho : o.op = .store t p v) (g j : Nat) (cs : Array Value) (e : TypeId) (x : Value) (hp : a.eval p = .pointer (some ⟨g, j, none⟩)) (hv : a.eval v = x)
    (hx1 : x.cells = #[x]) (h1 : x.oneCell' = true) (hs : (sizeOf t).run P W = .ok 1 W) (hb : W.heap[g]? = some (.cells cs e (0, 0))) (hj : j < cs.size)
    (h : ∀ w1, Put W w1 g (cs.setIfInBounds j x) e → wpList P ops Q rest a w1) : wpList P ops Q (o :: rest) a W := by
  refine wpList_plain hgd fun K hK => ?_
  have hrun : (execOp a.eval o).run P W = .ok .skip (W.setCell ⟨g, j, none⟩ x) := by
    unfold execOp
    simp only [ho, hp, hv, Sem.run_bind, run_store_one hx1 h1 hs hb hj, Result.andThen_ok, Sem.run_pure]
  unfold Oper.wp
  rw [hrun]
  show K (a.put o.dst undef) _
  rw [hN]
  exact hK _ _ (h _ (put_set hb))
theorem wpList_store_arr_const {W : World} (hgd : o.guard = none) (hN : o.dst = none) {t : TypeId} {p : Operand} {x : Value} (ho : o.op = .store t p (.const x)) (g j : Nat) (cs cs' : Array Value) (e : TypeId) (hp : a.eval p = .pointer (some ⟨g, j, none⟩))
    (hx1 : x.cells = #[x]) (h1 : x.oneCell' = true) (hs : (sizeOf t).run P W = .ok 1 W) (hb : W.heap[g]? = some (.cells cs e (0, 0))) (hj : j < cs.size) (hcs : cs.setIfInBounds j x = cs')
    (h : ∀ w1, Put W w1 g cs' e → wpList P ops Q rest a w1) : wpList P ops Q (o :: rest) a W :=
  wpList_store_arr hgd hN ho g j cs e x hp rfl hx1 h1 hs hb hj (fun w1 hp => h w1 (hcs ▸ hp))
theorem put_row {W : World} {g : Nat} {old cs : Array Value} {e : TypeId} (hb : W.heap[g]? = some (.cells old e (0, 0))) : Put W (W.setRow g cs) g cs e :=
  ⟨setRow_heap W g old cs e (0, 0) hb, fun k hk => by simp [World.setRow, Array.getElem?_modify, Ne.symm hk], by simp [World.setRow], fun h hB => ⟨h.os, h.tape, h.output, by simpa [World.setRow] using h.size, fun i hi => by
    rw [← h.block i hi]
    simp [World.setRow, Array.getElem?_modify]
    intro e
    omega⟩⟩
theorem wpList_store_whole {W : World} (hgd : o.guard = none) (hN : o.dst = none) {t : TypeId} {p v : Operand} (ho : o.op = .store t p v) (g : Nat) (old cs : Array Value) (e : TypeId) (hp : a.eval p = .pointer (some ⟨g, 0, none⟩)) (hv : a.eval v = .agg cs)
    (hb : W.heap[g]? = some (.cells old e (0, 0))) (hi : (P.info? t).map (·.size) = some cs.size) (hsz : old.size = cs.size) (h1 : cs.all (·.oneCell') = true)
    (h : ∀ w1, Put W w1 g cs e → wpList P ops Q rest a w1) : wpList P ops Q (o :: rest) a W := by
  refine wpList_plain hgd fun K hK => ?_
  have hrun : (execOp a.eval o).run P W = .ok .skip (W.setRow g cs) := by
    unfold execOp
    have := run_storeVar_row (P := P) W g e t old cs hb hi hsz h1
    simp only [ho, hp, hv, Instr.storeAt, Instr.sureAddr, Sem.run_bind, Sem.run_pure, this, Result.andThen_ok]
  unfold Oper.wp
  rw [hrun]
  show K (a.put o.dst undef) _
  rw [hN]
  exact hK _ _ (h _ (put_row hb))
end

end Go.Proofs.Ytiaohbbafaaibaa.Arr

/- OWN TEXT: a map[K]bool that a call has made and uses as a set: what it holds, how a look-up without 'ok' answers, how a store turns it. -/
namespace Go.Proofs.Ytiaohbbafaaibaa.MapB
open Go.RowKit Go.Maps Go.Proofs.YtiaohbbafaaibaaW.PrintWords Go.Proofs.Ytiaohbbafaaibaa.Arr
set_option linter.unusedVariables false
set_option linter.unusedSimpArgs false

def Seen (w : World) (P : Program) (k e : TypeId) (b n : Nat) (S : Lit → Bool) : Prop :=
  ∃ D : DataW Unit, w.ownsMap P k (plainElem P e) b n D ∧ ∀ kl, WideAt.IsKeyLit kl → D.atKey kl (.lit (.bool false)) = .lit (.bool (S kl))
def addS (S : Lit → Bool) (kl : Lit) : Lit → Bool := fun l => l.sameKey kl || S l
variable {P : Program} {k e : TypeId} {w : World} {b n : Nat} {S : Lit → Bool}
theorem Seen.made (w : World) (P : Program) (k e : TypeId) : Seen (w.alloc (.map #[] 0)) P k e w.heap.size 0 (fun _ => false) :=
  ⟨.map [], World.ownsMap_made w P k _, fun kl _ => rfl⟩
theorem Seen.kept {w' : World} {row : Option Nat} (h : Seen w P k e b n S) (hg : w.grownBy w' row) (hne : some b ≠ row) : Seen w' P k e b n S := by
  obtain ⟨D, h1, h2⟩ := h
  exact ⟨D, h1.kept hg hne, h2⟩
theorem Seen.alloc (h : Seen w P k e b n S) (o : Obj) : Seen (w.alloc o) P k e b n S := h.kept (World.grownBy_alloc w o none) (by simp)
theorem Seen.below {w' : World} (h : Seen w P k e b n S) (hb : Below w.heap.size w w') : Seen w' P k e b n S := h.kept (grown_of_below hb none) (by simp)
theorem Seen.setCell (h : Seen w P k e b n S) {a : Addr} (ha : b ≠ a.block) (u : Value) : Seen (w.setCell a u) P k e b n S := by
  obtain ⟨D, h1, h2⟩ := h
  exact ⟨D, h1.setCell ha u, h2⟩
theorem Seen.mono (h : Seen w P k e b n S) {n' : Nat} (hn : n ≤ n') : Seen w P k e b n' S := by
  obtain ⟨D, h1, h2⟩ := h
  exact ⟨D, h1.mono hn, h2⟩
theorem Seen.to {S' : Lit → Bool} (h : Seen w P k e b n S) (e1 : S = S') : Seen w P k e b n S' := e1 ▸ h
theorem Seen.lt (h : Seen w P k e b n S) : b < w.heap.size := by
  obtain ⟨D, h1, h2⟩ := h
  exact h1.lt
theorem plainElem_bool_inv {H : Type} {P : Program} {e : TypeId} (he : P.underlying e = some .bool) {v : Value} {z : DataW H × List MemPlace} (h : plainElem P e v = some z) : ∃ x, v = .bool x ∧ z = (.lit (.bool x), []) := by
  unfold plainElem at h
  rw [he] at h
  cases v <;> simp at h
  exact ⟨_, rfl, h.symm⟩
theorem Seen.lookup {t : TypeId} (h : Seen w P k e b n S) (K : Keyed P k) (ht : P.underlying t = some (.map k e)) (he : P.underlying e = some .bool) (hz : (zeroValue e).run P w = .ok (.bool false) w)
    {key : Value} {kl : Lit} (hkey : keyOf P k key = some kl) (hkl : WideAt.IsKeyLit kl) : (Instr.lookup t (.map (some b)) key false).run P w = .ok (.bool (S kl)) w := by
  obtain ⟨D, h1, h2⟩ := h
  obtain ⟨v, ps, hrun, hv⟩ := h1.lookup K ht hz (plainElem_bool (H := Unit) he false) hkey
  obtain ⟨x, rfl, hx⟩ := plainElem_bool_inv he hv
  have hx1 := congrArg Prod.fst hx
  rw [h2 kl hkl] at hx1
  have hx2 : S kl = x := by
    have := DataW.lit.inj hx1
    injection this
  rw [hx2]
  exact hrun
theorem Seen.add {t : TypeId} (h : Seen w P k e b n S) (K : Keyed P k) (ht : P.underlying t = some (.map k e)) (he : P.underlying e = some .bool) (hn : n < maxLen)
    {key : Value} {kl : Lit} (hkey : keyOf P k key = some kl) (hkl : WideAt.IsKeyLit kl) : ∃ w', (Instr.mapUpdate t (.map (some b)) key (.bool true)).run P w = .ok () w' ∧ Seen w' P k e b (n + 1) (addS S kl) ∧ w.grownBy w' (some b) := by
  obtain ⟨D, h1, h2⟩ := h
  obtain ⟨w', r1, r2, r3⟩ := h1.update K ht hn hkey (plainElem_bool (H := Unit) he true)
  refine ⟨w', r1, ⟨_, r2, fun l hl => ?_⟩, r3⟩
  unfold addS
  by_cases hc : l = kl
  · subst hc
    rw [atKey_put_same h1.isMap hkl, WideAt.sameKey_self hkl]
    rfl
  · rw [atKey_put_other hc, h2 l hl, sameKey_ne hc]
    rfl
section
variable {ops : Array Oper} {rest : List Oper} {o : Oper} {a : Act} {Q : Exit → Act → World → Prop}
theorem wpList_lookup_seen (hg : o.guard = none) (m x : Operand) (t : TypeId) (hop : o.op = Op.lookup t m x false)
    (k e : TypeId) (K : Keyed P k) (ht : P.underlying t = some (.map k e)) (he : P.underlying e = some .bool) (hz : (zeroValue e).run P w = .ok (.bool false) w) (b n : Nat) (S : Lit → Bool)
    (hm : a.eval m = .map (some b)) (hs : Seen w P k e b n S) (key : Value) (kl : Lit) (hx : a.eval x = key) (hkey : keyOf P k key = some kl) (hkl : WideAt.IsKeyLit kl)
    (hK : wpList P ops Q rest (a.put o.dst (.bool (S kl))) w) : wpList P ops Q (o :: rest) a w := by
  refine wpList_plain hg fun K' hK' => ?_
  have hrun := hs.lookup K ht he hz hkey hkl
  unfold Oper.wp
  simp [execOp, hop, hm, hx, hrun, Result.andThen]
  exact hK' _ _ hK
theorem wpList_update_seen (hg : o.guard = none) (m x v : Operand) (t : TypeId) (hop : o.op = Op.mapUpdate t m x v)
    (k e : TypeId) (K : Keyed P k) (ht : P.underlying t = some (.map k e)) (he : P.underlying e = some .bool) (b n : Nat) (S : Lit → Bool)
    (hm : a.eval m = .map (some b)) (hs : Seen w P k e b n S) (hn : n < maxLen) (key : Value) (kl : Lit) (hx : a.eval x = key) (hv : a.eval v = .bool true) (hkey : keyOf P k key = some kl) (hkl : WideAt.IsKeyLit kl)
    (hK : ∀ w', Seen w' P k e b (n + 1) (addS S kl) → w.grownBy w' (some b) → wpList P ops Q rest (a.put o.dst undef) w') : wpList P ops Q (o :: rest) a w := by
  refine wpList_plain hg fun K' hK' => ?_
  obtain ⟨w', hrun, r1, r2⟩ := hs.add K ht he hn hkey hkl
  unfold Oper.wp
  simp [execOp, hop, hm, hx, hv, hrun, Result.andThen]
  exact hK' _ _ (hK w' r1 r2)
theorem wpList_make_map {W : World} (hgd : o.guard = none) {N : Tmp} (_hd : o.dst = some N) {t : TypeId} (hop : o.op = Op.makeMap t none)
    (hrun : (execOp a.eval o).run P W = .ok (.value (.map (some W.heap.size))) (W.alloc (.map #[] 0)))
    (h : ∀ g, g = W.heap.size → ∀ w1, Seen w1 P k e g 0 (fun _ => false) → Below W.heap.size W w1 → wpList P ops Q rest (a.put o.dst (.map (some g))) w1) : wpList P ops Q (o :: rest) a W :=
  Kd.event_run hgd hrun (h _ rfl _ (Seen.made W P k e) (below_alloc (Below.refl _ _) _))
end
end Go.Proofs.Ytiaohbbafaaibaa.MapB

/- OWN TEXT: small words for the pure statements: what a function with rounds comes to in the end. -/
set_option linter.unusedVariables false
set_option linter.unusedSimpArgs false
namespace Go.Proofs.YtiaohbbafaaibaaW.PrintWords
open Go.RowKit

theorem Ev.succ {α : Type} {g : Nat → Option α} {r : α} (h : Ev (fun k => g (k + 1)) r) : Ev g r := Ev.step (fun _ => rfl) h
theorem Ev.val {α : Type} {a r : α} (h : a = r) : Ev (fun _ => some a) r := h ▸ Ev.now _
theorem Ev.bind0 {α β : Type} {g : Option α} {f : Nat → α → Option β} {a : α} {r : β} (h : g = some a) (k : Ev (fun n => f n a) r) : Ev (fun n => g.bind (f n)) r := by
  subst h; exact k
theorem Ev.iteT {α : Type} {c : Prop} [Decidable c] {a b : Nat → Option α} {r : α} (hc : c) (h : Ev a r) : Ev (fun k => if c then a k else b k) r := by
  simpa only [if_pos hc] using h
theorem Ev.iteF {α : Type} {c : Prop} [Decidable c] {a b : Nat → Option α} {r : α} (hc : ¬ c) (h : Ev b r) : Ev (fun k => if c then a k else b k) r := by
  simpa only [if_neg hc] using h
theorem Ev.ite2 {α : Type} {c : Prop} [Decidable c] {a b : Nat → Option α} {r : α} (h1 : c → Ev a r) (h2 : ¬ c → Ev b r) : Ev (fun k => if c then a k else b k) r := by
  by_cases hc : c
  · exact Ev.iteT hc (h1 hc)
  · exact Ev.iteF hc (h2 hc)
theorem Ev.to {α : Type} {g : Nat → Option α} {r r' : α} (h : Ev g r) (e : r = r') : Ev g r' := e ▸ h
theorem wrap64_id {x : Int} (h1 : -9223372036854775808 ≤ x) (h2 : x ≤ 9223372036854775807) : wrap64 x = x := by unfold wrap64; omega
theorem wf_u32 {x : Int} (h : (Lit.int .u32 x).wf = true) : 0 ≤ x ∧ x ≤ 4294967295 := by have := bounds_u32 h; omega

theorem rd_get {l : List Int} {i : Nat} (h : i < l.length) : rd l (i : Int) = l[i] := by
  unfold rd
  rw [Int.toNat_natCast, List.getD_eq_getElem?_getD, List.getElem?_eq_getElem h]
  rfl
theorem drop_get {α : Type} {l : List α} {i : Nat} (h : i < l.length) : l.drop i = l[i] :: l.drop (i + 1) := List.drop_eq_getElem_cons h

end Go.Proofs.YtiaohbbafaaibaaW.PrintWords

/- OWN TEXT: what object.symbols comes to (it keeps a set of names in a map, which the print does not take). -/
namespace Go.Proofs.Ytiaohbbafaaibaa.P
open Go.RowKit Go.Maps Go.Proofs.YtiaohbbafaaibaaW.PrintWords Go.Proofs.YtiaohbbafaaibaaW.PrintLast Go.Proofs.YtiaohbbafaaibaaW.PrintMore Go.Proofs.Ytiaohbbafaaibaa.Arr Go.Proofs.Ytiaohbbafaaibaa.MapB
set_option linter.unusedVariables false
set_option linter.unusedSimpArgs false

abbrev Sym := S120
def sy (l : List Sym) (i : Nat) : Sym := rd_T120 l (i : Int)
theorem lawN : Keyed Try.prog 9 := string_keyed Try.underlying9
theorem zeroBN (w : World) : (zeroValue 4).run Try.prog w = .ok (.bool false) w := by kernel_rfl
abbrev SeenN (W : World) (b n : Nat) (S : Lit → Bool) : Prop := Seen W Try.prog 9 4 b n S
def keyN (s : ByteArray) : Lit := .string s.data.toList
def nameSeen (l : List Sym) : Nat → Lit → Bool
  | 0 => fun _ => false
  | i + 1 => addS (nameSeen l i) (keyN (sy l i).f0)
def symE (l : List Sym) (n : Int) (i : Nat) : Int :=
  if nameS (sy l i).f0 = true then (if nameSeen l i (keyN (sy l i).f0) = true then 26 else if (sy l i).f1 < 0 then 23 else if (sy l i).f1 > 3 then 23 else if (sy l i).f2 < 0 then 22 else if (sy l i).f2 > n then 22 else if (sy l i).f1 = 3 then (if (sy l i).f2 = 0 then 0 else 22) else 0) else 20
theorem symE_eq (l : List Sym) (n : Int) (i : Nat) : symE l n i = if nameS (sy l i).f0 = true then (if nameSeen l i (keyN (sy l i).f0) = true then 26 else if (sy l i).f1 < 0 then 23 else if (sy l i).f1 > 3 then 23 else if (sy l i).f2 < 0 then 22 else if (sy l i).f2 > n then 22 else if (sy l i).f1 = 3 then (if (sy l i).f2 = 0 then 0 else 22) else 0) else 20 := rfl
def firstS (g : Nat → Int) (n : Nat) : Nat → Int × Int
  | 0 => (0, 0)
  | d + 1 => if g (n - (d + 1)) = 0 then firstS g n d else (g (n - (d + 1)), ((n - (d + 1) : Nat) : Int))
theorem firstS_step (g : Nat → Int) {n i : Nat} (h : i < n) : firstS g n (n - i) = if g i = 0 then firstS g n (n - (i + 1)) else (g i, (i : Int)) := by
  rw [show n - i = (n - (i + 1)) + 1 by omega]
  show (if g (n - (n - (i + 1) + 1)) = 0 then _ else _) = _
  rw [show n - (n - (i + 1) + 1) = i by omega]
def symsS (l : List Sym) (n : Int) : Int × Int := firstS (symE l n) l.length l.length
def ansCell (a b : Int) : Obj := .cells #[.int .i64 a, .int .i64 b] 125 (0, 0)
def objCell (a0_0 : ByteArray) (A0_1 : Option Addr) (n1 c0_1 : Nat) (a0_2 : Int) (A0_3 : Option Addr) (n3 c0_3 : Nat) (A0_4 : Option Addr) (n4 c0_4 : Nat) (A0_5 : Option Addr) (n5 c0_5 : Nat) : Obj :=
  .cells #[.string a0_0, .slice A0_1 n1 c0_1, .int .i64 a0_2, .slice A0_3 n3 c0_3, .slice A0_4 n4 c0_4, .slice A0_5 n5 c0_5] 88 (0, 0)
structure Ob (w W : World) (gb : Nat) (oi : Obj) (gr b n : Nat) (S : Lit → Bool) : Prop where
  low : Below w.heap.size w W
  obj : W.heap[gb]? = some oi
  res : W.heap[gr]? = some (ansCell 0 0)
  seen : SeenN W b n S
  n1 : gb ≠ b
  n2 : gr ≠ b
  g1 : w.heap.size ≤ gr
  g2 : w.heap.size ≤ b
theorem Ob.below {w W W1 : World} {gb gr b n : Nat} {oi : Obj} {S : Lit → Bool} (h : Ob w W gb oi gr b n S) (hb : Below W.heap.size W W1) : Ob w W1 gb oi gr b n S :=
  ⟨below_then h.low h.low.size hb, blk_below h.obj hb, blk_below h.res hb, h.seen.below hb, h.n1, h.n2, h.g1, h.g2⟩
theorem Ob.grown {w W W1 : World} {gb gr b n g : Nat} {oi : Obj} {S : Lit → Bool} (h : Ob w W gb oi gr b n S) (hg : W.grownBy W1 (some g)) (hw : w.heap.size ≤ g) (h1 : gb ≠ g) (h2 : gr ≠ g) (h3 : b ≠ g) : Ob w W1 gb oi gr b n S :=
  ⟨pw_below_grown h.low (some g) h.low.size hg (fun k hk => by have := Option.some.inj hk; omega), blk_grown h.obj hg (fun e => h1 (Option.some.inj e)), blk_grown h.res hg (fun e => h2 (Option.some.inj e)), h.seen.kept hg (fun e => h3 (Option.some.inj e)), h.n1, h.n2, h.g1, h.g2⟩
theorem Ob.add {w W W1 : World} {gb gr b n n' : Nat} {oi : Obj} {S S' : Lit → Bool} (h : Ob w W gb oi gr b n S) (hg : W.grownBy W1 (some b)) (hs : SeenN W1 b n' S') : Ob w W1 gb oi gr b n' S' :=
  ⟨pw_below_grown h.low (some b) h.low.size hg (fun k hk => by have := Option.some.inj hk; have := h.g2; omega), blk_grown h.obj hg (fun e => h.n1 (Option.some.inj e)), blk_grown h.res hg (fun e => h.n2 (Option.some.inj e)), hs, h.n1, h.n2, h.g1, h.g2⟩
theorem put_grownN {W w1 : World} {g : Nat} {cs : Array Value} {e : TypeId} (h : Put W w1 g cs e) : W.grownBy w1 (some g) := by
  have hb := h.below (Below.refl 0 W) (Nat.zero_le _)
  exact ⟨hb.os, hb.tape, hb.output, hb.size, fun k _ hne => h.far k (fun e => hne (by rw [e]))⟩
theorem two_one (a b : Int) : ((#[.int .i64 a, .int .i64 b] : Array Value).all fun v => v.oneCell') = true := by kernel_rfl
theorem sym_one (s : ByteArray) (a b : Int) : ((#[.string s, .int .i8 a, .int .i64 b] : Array Value).all fun v => v.oneCell') = true := by kernel_rfl
theorem nameS_len {s : ByteArray} (h : nameS s = true) : s.size ≤ 24 := (of_decide_eq_true h).2.1

set_option maxHeartbeats 8000000 in
set_option maxRecDepth 100000 in
theorem object_symbols.calls (a0_0 : ByteArray) (A0_1 : Option Addr) (c0_1 : Nat) (l0_1 : List Int) (a0_2 : Int) (A0_3 : Option Addr) (c0_3 : Nat) (l0_3 : List Int) (A0_4 : Option Addr) (c0_4 : Nat) (l0_4 : List (Sym)) (A0_5 : Option Addr) (c0_5 : Nat) (l0_5 : List (S130)) (r1 r2 : Int) (w : World) (hr0_1 : Kd.C (Kd.int .u32) w A0_1 l0_1.length l0_1) (hc0_1 : l0_1.length ≤ c0_1) (hr0_3 : Kd.C (Kd.int .i64) w A0_3 l0_3.length l0_3) (hc0_3 : l0_3.length ≤ c0_3) (hr0_4 : Kd.C k120 w A0_4 l0_4.length l0_4) (hc0_4 : l0_4.length ≤ c0_4) (hr0_5 : Kd.C k130 w A0_5 l0_5.length l0_5) (hc0_5 : l0_5.length ≤ c0_5) (hl : l0_4.length ≤ 1000000) (h : symsS l0_4 (l0_1.length : Int) = (r1, r2)) :
    Calls Try.prog 112 #[.agg #[.string a0_0, .slice A0_1 l0_1.length c0_1, .int .i64 a0_2, .slice A0_3 l0_3.length c0_3, .slice A0_4 l0_4.length c0_4, .slice A0_5 l0_5.length c0_5]] w fun e w' => e = .returned (.agg #[.int .i64 r1, .int .i64 r2]) ∧ Below w.heap.size w w' := by
  have hu1 := Try.underlying88
  have hu2 := Try.underlying125
  have hu3 := Try.underlying120
  have HR := Aside0.mk hr0_4
  clear hr0_1 hc0_1 hr0_3 hc0_3 hr0_4 hc0_4 hr0_5 hc0_5
  unfold symsS at h
  go_enter Try.func112, Try.ntmps112
  go_wp2_with (first | ((with_reducible refine gate_dst (N := 1) rfl ?_); refine box_event ?hg (N := 1) ?hd (cs := #[.string a0_0, .slice A0_1 l0_1.length c0_1, .int .i64 a0_2, .slice A0_3 l0_3.length c0_3, .slice A0_4 l0_4.length c0_4, .slice A0_5 l0_5.length c0_5]) (t := 88) ?hr ?_; (case hd => rfl); (case hg => rfl); (case hr => first | (go_simp; done) | (go_simp; rfl)); intro gb hgb w1 BK1 hb1; have HB := Aside0.mk (below_then (Below.refl w.heap.size w) (Nat.le_refl _) hb1); have BO := Aside0.mk (show w1.heap[gb]? = some (objCell a0_0 A0_1 l0_1.length c0_1 a0_2 A0_3 l0_3.length c0_3 A0_4 l0_4.length c0_4 A0_5 l0_5.length c0_5) from BK1); clear BK1 hb1 hgb) | ((with_reducible refine gate_dst (N := 2) rfl ?_); refine box_event ?hg (N := 2) ?hd (cs := #[.int .i64 0, .int .i64 0]) (t := 125) ?hr ?_; (case hd => rfl); (case hg => rfl); (case hr => first | (go_simp; done) | (go_simp; rfl)); intro gr hgr w2 BK2 hb2; have G1 := Aside0.mk (show w.heap.size ≤ gr by rw [hgr]; exact HB.out.size); have L1 := Aside0.mk (show gb < gr by rw [hgr]; exact blk_lt BO.out); have HBn := Aside0.mk (below_then HB.out HB.out.size hb2); have BOn := Aside0.mk (blk_below BO.out hb2); have BR := Aside0.mk (show w2.heap[gr]? = some (ansCell 0 0) from BK2); clear HB BO BK2 hb2 hgr; have HB := HBn; have BO := BOn; clear HBn BOn) | ((with_reducible refine gate_dst (N := 6) rfl ?_); refine wpList_make_map (P := Try.prog) (k := 9) (e := 4) (t := 143) ?hg (N := 6) ?hd ?ho ?hr ?_; (case hd => rfl); (case hg => rfl); (case ho => rfl); (case hr => first | (go_simp; done) | (go_simp; rfl)); intro b hgb w3 hs0 hb; have HO := Aside0.mk (show Ob w w3 gb (objCell a0_0 A0_1 l0_1.length c0_1 a0_2 A0_3 l0_3.length c0_3 A0_4 l0_4.length c0_4 A0_5 l0_5.length c0_5) gr b 0 (fun _ => false) from ⟨below_then HB.out HB.out.size hb, blk_below BO.out hb, blk_below BR.out hb, hs0, by rw [hgb]; exact Nat.ne_of_lt (blk_lt BO.out), by rw [hgb]; exact Nat.ne_of_lt (blk_lt BR.out), G1.out, by rw [hgb]; exact HB.out.size⟩); clear HB BO BR hb hs0 hgb; have hco := blk_cell HO.out.obj 4; have hco1 := blk_cell HO.out.obj 1))
  go_loopw [10] (fun u10 wr => ∃ i : Nat, u10 = .int .i64 (i : Int) ∧ i ≤ l0_4.length ∧ Aside0 (firstS (symE l0_4 (l0_1.length : Int)) l0_4.length (l0_4.length - i) = (r1, r2)) ∧ Aside0 (Ob w wr gb (objCell a0_0 A0_1 l0_1.length c0_1 a0_2 A0_3 l0_3.length c0_3 A0_4 l0_4.length c0_4 A0_5 l0_5.length c0_5) gr b i (nameSeen l0_4 i))) (fun u10 _ => l0_4.length - (intOf u10).toNat)
  case atStart => exact ⟨0, rfl, Nat.zero_le _, ⟨h⟩, HO⟩
  case round =>
    clear HO hco hco1 h
    obtain ⟨i, rfl, hile, HF, HO⟩ := hrel
    have hco := blk_cell HO.out.obj 4
    have hco1 := blk_cell HO.out.obj 1
    by_cases hlt : i < l0_4.length
    · have hstep := firstS_step (symE l0_4 (l0_1.length : Int)) hlt
      rw [HF.out] at hstep
      have hse := symE_eq l0_4 (l0_1.length : Int) i
      have hns : nameSeen l0_4 (i + 1) = addS (nameSeen l0_4 i) (keyN (sy l0_4 i).f0) := rfl
      have p0 : (0 : Int) ≤ (i : Int) := by omega
      have q0 : (i : Int) < (l0_4.length : Int) := by omega
      obtain ⟨ad, eA, hx0, hx1, hx2⟩ := at_T120 HR.out (i : Int) p0 q0
      subst eA
      rw [show ((i : Int)).toNat = i by omega] at hx0 hx1 hx2
      have hy0 := (HO.out.low.cell (World.block_lt_of_cell? w _ hx0)).trans hx0
      have hy1 := (HO.out.low.cell (World.block_lt_of_cell? w _ hx1)).trans hx1
      have hy2 := (HO.out.low.cell (World.block_lt_of_cell? w _ hx2)).trans hx2
      clear hx0 hx1 hx2
      rw [show rd_T120 l0_4 (i : Int) = sy l0_4 i from rfl] at hy0 hy1 hy2
      generalize sy l0_4 i = s at hy0 hy1 hy2 hse hns
      obtain ⟨sn, sk, sa⟩ := s
      simp only at hy0 hy1 hy2 hse hns
      generalize hmb : nameSeen l0_4 i (keyN sn) = mb at hse
      have HM := Aside0.mk hmb
      obtain ⟨nb, hnb⟩ : ∃ nb, nb = nameS sn := ⟨_, rfl⟩
      have HN := Aside0.mk (show object_Name.f sn = some nb by rw [hnb]; rfl)
      rw [← hnb] at hse
      have HL := Aside0.mk (show i ≤ 1000000 by omega)
      have HNS := Aside0.mk hns
      clear hns HF hmb
      have hwr : wrap64 ((i : Int) + 1) = ((i + 1 : Nat) : Int) := by rw [wrap64_id (by omega) (by omega)]; rfl
      replace p0 := eq_true p0
      replace q0 := eq_true q0
      have hltb : decide ((i : Int) < (l0_4.length : Int)) = true := decide_eq_true (by omega)

      by_cases cn : nb = true
      · rw [if_pos cn] at hse
        subst cn
        have HKY := Aside0.mk (show keyOf Try.prog 9 (.string sn) = some (keyN sn) from Go.WideMaps.keyOf_string_mk Try.underlying9 (by have := nameS_len hnb.symm; unfold maxLen; omega))
        clear hnb
        by_cases cm : mb = true
        · rw [if_pos cm] at hse
          subst cm
          rw [hse, if_neg (by decide)] at hstep
          injection hstep with e1 e2
          subst e1 e2
          clear hse
          go_wp2_with (first | ((with_reducible refine gate_dst (N := 5) rfl ?_); refine box_event ?hg (N := 5) ?hd (cs := #[.string ⟨#[]⟩, .int .i8 0, .int .i64 0]) (t := 120) ?hr ?_; (case hd => rfl); (case hg => rfl); (case hr => first | (go_simp; done) | (go_simp; rfl)); intro gs hgs w5 BK5 hb5; have LB := Aside0.mk (show b < gs by rw [hgs]; exact HO.out.seen.lt); have LG := Aside0.mk (show gb < gs by rw [hgs]; exact blk_lt HO.out.obj); have LR := Aside0.mk (show gr < gs by rw [hgs]; exact blk_lt HO.out.res); have HOn := Aside0.mk (HO.out.below hb5); have BS := Aside0.mk BK5; clear HO BK5 hb5 hgs; have HO := HOn; clear HOn) | ((with_reducible refine gate_store (t := 120) rfl ?_); refine wpList_store_whole rfl rfl rfl gs _ #[.string sn, .int .i8 sk, .int .i64 sa] _ rfl rfl BS.out (by kernel_rfl) rfl (sym_one _ _ _) ?_; intro w6 hp; have HOn := Aside0.mk (HO.out.grown (put_grownN hp) (by have := LB.out; have := HO.out.g2; omega) (by have := LG.out; omega) (by have := LR.out; omega) (by have := LB.out; omega)); have BSn := Aside0.mk hp.blk; clear HO BS hp; have HO := HOn; have BS := BSn; clear HOn BSn; have hco := blk_cell HO.out.obj 4; have hco1 := blk_cell HO.out.obj 1; have hs0 := blk_cell BS.out 0; have hs1 := blk_cell BS.out 1; have hs2 := blk_cell BS.out 2) | (go_at_call 84; refine (object_Name.calls sn _ _ HN.out).mono ?_; rintro e w7 ⟨rfl, hb⟩; have HOn := Aside0.mk (HO.out.below hb); have BSn := Aside0.mk (blk_below BS.out hb); clear HO BS hb hs0 hs1 hs2; have HO := HOn; have BS := BSn; clear HOn BSn; have hco := blk_cell HO.out.obj 4; have hco1 := blk_cell HO.out.obj 1; have hs0 := blk_cell BS.out 0; have hs1 := blk_cell BS.out 1; have hs2 := blk_cell BS.out 2) | (at_lookup; refine wpList_lookup_seen rfl _ _ 143 rfl 9 4 lawN Try.underlying143 Try.underlying4 (zeroBN _) b _ _ rfl HO.out.seen _ _ rfl HKY.out trivial ?_; rw [HM.out]) | ((with_reducible refine gate_store (t := 125) rfl ?_); refine wpList_store_whole rfl rfl rfl gr _ #[.int .i64 26, .int .i64 (i : Int)] _ rfl rfl HO.out.res (by kernel_rfl) rfl (two_one _ _) ?_; intro w9 hp; have HE := Aside0.mk (hp.below HO.out.low HO.out.g1); have HP := Aside0.mk hp.blk; clear hp))
          refine bodyPost_ret (results_cell_row rfl _ _ gr 125 #[.int .i64 26, .int .i64 (i : Int)] (0, 0) _ rfl HP.out Try.underlying125 rfl (by kernel_rfl)) rfl ?_
          exact ⟨rfl, HE.out⟩
        · rw [if_neg cm] at hse
          have cm : mb = false := by simpa using cm
          subst cm
          by_cases c4 : sk < 0
          · rw [if_pos c4] at hse
            have d4 : decide (sk < 0) = true := decide_eq_true c4
            clear c4
            rw [hse, if_neg (by decide)] at hstep
            injection hstep with e1 e2
            subst e1 e2
            clear hse
            go_wp2_with (first | ((with_reducible refine gate_dst (N := 5) rfl ?_); refine box_event ?hg (N := 5) ?hd (cs := #[.string ⟨#[]⟩, .int .i8 0, .int .i64 0]) (t := 120) ?hr ?_; (case hd => rfl); (case hg => rfl); (case hr => first | (go_simp; done) | (go_simp; rfl)); intro gs hgs w5 BK5 hb5; have LB := Aside0.mk (show b < gs by rw [hgs]; exact HO.out.seen.lt); have LG := Aside0.mk (show gb < gs by rw [hgs]; exact blk_lt HO.out.obj); have LR := Aside0.mk (show gr < gs by rw [hgs]; exact blk_lt HO.out.res); have HOn := Aside0.mk (HO.out.below hb5); have BS := Aside0.mk BK5; clear HO BK5 hb5 hgs; have HO := HOn; clear HOn) | ((with_reducible refine gate_store (t := 120) rfl ?_); refine wpList_store_whole rfl rfl rfl gs _ #[.string sn, .int .i8 sk, .int .i64 sa] _ rfl rfl BS.out (by kernel_rfl) rfl (sym_one _ _ _) ?_; intro w6 hp; have HOn := Aside0.mk (HO.out.grown (put_grownN hp) (by have := LB.out; have := HO.out.g2; omega) (by have := LG.out; omega) (by have := LR.out; omega) (by have := LB.out; omega)); have BSn := Aside0.mk hp.blk; clear HO BS hp; have HO := HOn; have BS := BSn; clear HOn BSn; have hco := blk_cell HO.out.obj 4; have hco1 := blk_cell HO.out.obj 1; have hs0 := blk_cell BS.out 0; have hs1 := blk_cell BS.out 1; have hs2 := blk_cell BS.out 2) | (go_at_call 84; refine (object_Name.calls sn _ _ HN.out).mono ?_; rintro e w7 ⟨rfl, hb⟩; have HOn := Aside0.mk (HO.out.below hb); have BSn := Aside0.mk (blk_below BS.out hb); clear HO BS hb hs0 hs1 hs2; have HO := HOn; have BS := BSn; clear HOn BSn; have hco := blk_cell HO.out.obj 4; have hco1 := blk_cell HO.out.obj 1; have hs0 := blk_cell BS.out 0; have hs1 := blk_cell BS.out 1; have hs2 := blk_cell BS.out 2) | (at_lookup; refine wpList_lookup_seen rfl _ _ 143 rfl 9 4 lawN Try.underlying143 Try.underlying4 (zeroBN _) b _ _ rfl HO.out.seen _ _ rfl HKY.out trivial ?_; rw [HM.out]) | ((with_reducible refine gate_store (t := 125) rfl ?_); refine wpList_store_whole rfl rfl rfl gr _ #[.int .i64 23, .int .i64 (i : Int)] _ rfl rfl HO.out.res (by kernel_rfl) rfl (two_one _ _) ?_; intro w9 hp; have HE := Aside0.mk (hp.below HO.out.low HO.out.g1); have HP := Aside0.mk hp.blk; clear hp))
            refine bodyPost_ret (results_cell_row rfl _ _ gr 125 #[.int .i64 23, .int .i64 (i : Int)] (0, 0) _ rfl HP.out Try.underlying125 rfl (by kernel_rfl)) rfl ?_
            exact ⟨rfl, HE.out⟩
          · rw [if_neg c4] at hse
            have d4 : decide (sk < 0) = false := decide_eq_false c4
            clear c4
            by_cases c3 : sk > 3
            · rw [if_pos c3] at hse
              have d3 : decide (3 < sk) = true := decide_eq_true c3
              clear c3
              rw [hse, if_neg (by decide)] at hstep
              injection hstep with e1 e2
              subst e1 e2
              clear hse
              go_wp2_with (first | ((with_reducible refine gate_dst (N := 5) rfl ?_); refine box_event ?hg (N := 5) ?hd (cs := #[.string ⟨#[]⟩, .int .i8 0, .int .i64 0]) (t := 120) ?hr ?_; (case hd => rfl); (case hg => rfl); (case hr => first | (go_simp; done) | (go_simp; rfl)); intro gs hgs w5 BK5 hb5; have LB := Aside0.mk (show b < gs by rw [hgs]; exact HO.out.seen.lt); have LG := Aside0.mk (show gb < gs by rw [hgs]; exact blk_lt HO.out.obj); have LR := Aside0.mk (show gr < gs by rw [hgs]; exact blk_lt HO.out.res); have HOn := Aside0.mk (HO.out.below hb5); have BS := Aside0.mk BK5; clear HO BK5 hb5 hgs; have HO := HOn; clear HOn) | ((with_reducible refine gate_store (t := 120) rfl ?_); refine wpList_store_whole rfl rfl rfl gs _ #[.string sn, .int .i8 sk, .int .i64 sa] _ rfl rfl BS.out (by kernel_rfl) rfl (sym_one _ _ _) ?_; intro w6 hp; have HOn := Aside0.mk (HO.out.grown (put_grownN hp) (by have := LB.out; have := HO.out.g2; omega) (by have := LG.out; omega) (by have := LR.out; omega) (by have := LB.out; omega)); have BSn := Aside0.mk hp.blk; clear HO BS hp; have HO := HOn; have BS := BSn; clear HOn BSn; have hco := blk_cell HO.out.obj 4; have hco1 := blk_cell HO.out.obj 1; have hs0 := blk_cell BS.out 0; have hs1 := blk_cell BS.out 1; have hs2 := blk_cell BS.out 2) | (go_at_call 84; refine (object_Name.calls sn _ _ HN.out).mono ?_; rintro e w7 ⟨rfl, hb⟩; have HOn := Aside0.mk (HO.out.below hb); have BSn := Aside0.mk (blk_below BS.out hb); clear HO BS hb hs0 hs1 hs2; have HO := HOn; have BS := BSn; clear HOn BSn; have hco := blk_cell HO.out.obj 4; have hco1 := blk_cell HO.out.obj 1; have hs0 := blk_cell BS.out 0; have hs1 := blk_cell BS.out 1; have hs2 := blk_cell BS.out 2) | (at_lookup; refine wpList_lookup_seen rfl _ _ 143 rfl 9 4 lawN Try.underlying143 Try.underlying4 (zeroBN _) b _ _ rfl HO.out.seen _ _ rfl HKY.out trivial ?_; rw [HM.out]) | ((with_reducible refine gate_store (t := 125) rfl ?_); refine wpList_store_whole rfl rfl rfl gr _ #[.int .i64 23, .int .i64 (i : Int)] _ rfl rfl HO.out.res (by kernel_rfl) rfl (two_one _ _) ?_; intro w9 hp; have HE := Aside0.mk (hp.below HO.out.low HO.out.g1); have HP := Aside0.mk hp.blk; clear hp))
              refine bodyPost_ret (results_cell_row rfl _ _ gr 125 #[.int .i64 23, .int .i64 (i : Int)] (0, 0) _ rfl HP.out Try.underlying125 rfl (by kernel_rfl)) rfl ?_
              exact ⟨rfl, HE.out⟩
            · rw [if_neg c3] at hse
              have d3 : decide (3 < sk) = false := decide_eq_false c3
              clear c3
              by_cases c2 : sa < 0
              · rw [if_pos c2] at hse
                have d2 : decide (sa < 0) = true := decide_eq_true c2
                clear c2
                rw [hse, if_neg (by decide)] at hstep
                injection hstep with e1 e2
                subst e1 e2
                clear hse
                go_wp2_with (first | ((with_reducible refine gate_dst (N := 5) rfl ?_); refine box_event ?hg (N := 5) ?hd (cs := #[.string ⟨#[]⟩, .int .i8 0, .int .i64 0]) (t := 120) ?hr ?_; (case hd => rfl); (case hg => rfl); (case hr => first | (go_simp; done) | (go_simp; rfl)); intro gs hgs w5 BK5 hb5; have LB := Aside0.mk (show b < gs by rw [hgs]; exact HO.out.seen.lt); have LG := Aside0.mk (show gb < gs by rw [hgs]; exact blk_lt HO.out.obj); have LR := Aside0.mk (show gr < gs by rw [hgs]; exact blk_lt HO.out.res); have HOn := Aside0.mk (HO.out.below hb5); have BS := Aside0.mk BK5; clear HO BK5 hb5 hgs; have HO := HOn; clear HOn) | ((with_reducible refine gate_store (t := 120) rfl ?_); refine wpList_store_whole rfl rfl rfl gs _ #[.string sn, .int .i8 sk, .int .i64 sa] _ rfl rfl BS.out (by kernel_rfl) rfl (sym_one _ _ _) ?_; intro w6 hp; have HOn := Aside0.mk (HO.out.grown (put_grownN hp) (by have := LB.out; have := HO.out.g2; omega) (by have := LG.out; omega) (by have := LR.out; omega) (by have := LB.out; omega)); have BSn := Aside0.mk hp.blk; clear HO BS hp; have HO := HOn; have BS := BSn; clear HOn BSn; have hco := blk_cell HO.out.obj 4; have hco1 := blk_cell HO.out.obj 1; have hs0 := blk_cell BS.out 0; have hs1 := blk_cell BS.out 1; have hs2 := blk_cell BS.out 2) | (go_at_call 84; refine (object_Name.calls sn _ _ HN.out).mono ?_; rintro e w7 ⟨rfl, hb⟩; have HOn := Aside0.mk (HO.out.below hb); have BSn := Aside0.mk (blk_below BS.out hb); clear HO BS hb hs0 hs1 hs2; have HO := HOn; have BS := BSn; clear HOn BSn; have hco := blk_cell HO.out.obj 4; have hco1 := blk_cell HO.out.obj 1; have hs0 := blk_cell BS.out 0; have hs1 := blk_cell BS.out 1; have hs2 := blk_cell BS.out 2) | (at_lookup; refine wpList_lookup_seen rfl _ _ 143 rfl 9 4 lawN Try.underlying143 Try.underlying4 (zeroBN _) b _ _ rfl HO.out.seen _ _ rfl HKY.out trivial ?_; rw [HM.out]) | ((with_reducible refine gate_store (t := 125) rfl ?_); refine wpList_store_whole rfl rfl rfl gr _ #[.int .i64 22, .int .i64 (i : Int)] _ rfl rfl HO.out.res (by kernel_rfl) rfl (two_one _ _) ?_; intro w9 hp; have HE := Aside0.mk (hp.below HO.out.low HO.out.g1); have HP := Aside0.mk hp.blk; clear hp))
                refine bodyPost_ret (results_cell_row rfl _ _ gr 125 #[.int .i64 22, .int .i64 (i : Int)] (0, 0) _ rfl HP.out Try.underlying125 rfl (by kernel_rfl)) rfl ?_
                exact ⟨rfl, HE.out⟩
              · rw [if_neg c2] at hse
                have d2 : decide (sa < 0) = false := decide_eq_false c2
                clear c2
                by_cases c1 : sa > (l0_1.length : Int)
                · rw [if_pos c1] at hse
                  have d1 : decide ((l0_1.length : Int) < sa) = true := decide_eq_true c1
                  clear c1
                  rw [hse, if_neg (by decide)] at hstep
                  injection hstep with e1 e2
                  subst e1 e2
                  clear hse
                  go_wp2_with (first | ((with_reducible refine gate_dst (N := 5) rfl ?_); refine box_event ?hg (N := 5) ?hd (cs := #[.string ⟨#[]⟩, .int .i8 0, .int .i64 0]) (t := 120) ?hr ?_; (case hd => rfl); (case hg => rfl); (case hr => first | (go_simp; done) | (go_simp; rfl)); intro gs hgs w5 BK5 hb5; have LB := Aside0.mk (show b < gs by rw [hgs]; exact HO.out.seen.lt); have LG := Aside0.mk (show gb < gs by rw [hgs]; exact blk_lt HO.out.obj); have LR := Aside0.mk (show gr < gs by rw [hgs]; exact blk_lt HO.out.res); have HOn := Aside0.mk (HO.out.below hb5); have BS := Aside0.mk BK5; clear HO BK5 hb5 hgs; have HO := HOn; clear HOn) | ((with_reducible refine gate_store (t := 120) rfl ?_); refine wpList_store_whole rfl rfl rfl gs _ #[.string sn, .int .i8 sk, .int .i64 sa] _ rfl rfl BS.out (by kernel_rfl) rfl (sym_one _ _ _) ?_; intro w6 hp; have HOn := Aside0.mk (HO.out.grown (put_grownN hp) (by have := LB.out; have := HO.out.g2; omega) (by have := LG.out; omega) (by have := LR.out; omega) (by have := LB.out; omega)); have BSn := Aside0.mk hp.blk; clear HO BS hp; have HO := HOn; have BS := BSn; clear HOn BSn; have hco := blk_cell HO.out.obj 4; have hco1 := blk_cell HO.out.obj 1; have hs0 := blk_cell BS.out 0; have hs1 := blk_cell BS.out 1; have hs2 := blk_cell BS.out 2) | (go_at_call 84; refine (object_Name.calls sn _ _ HN.out).mono ?_; rintro e w7 ⟨rfl, hb⟩; have HOn := Aside0.mk (HO.out.below hb); have BSn := Aside0.mk (blk_below BS.out hb); clear HO BS hb hs0 hs1 hs2; have HO := HOn; have BS := BSn; clear HOn BSn; have hco := blk_cell HO.out.obj 4; have hco1 := blk_cell HO.out.obj 1; have hs0 := blk_cell BS.out 0; have hs1 := blk_cell BS.out 1; have hs2 := blk_cell BS.out 2) | (at_lookup; refine wpList_lookup_seen rfl _ _ 143 rfl 9 4 lawN Try.underlying143 Try.underlying4 (zeroBN _) b _ _ rfl HO.out.seen _ _ rfl HKY.out trivial ?_; rw [HM.out]) | ((with_reducible refine gate_store (t := 125) rfl ?_); refine wpList_store_whole rfl rfl rfl gr _ #[.int .i64 22, .int .i64 (i : Int)] _ rfl rfl HO.out.res (by kernel_rfl) rfl (two_one _ _) ?_; intro w9 hp; have HE := Aside0.mk (hp.below HO.out.low HO.out.g1); have HP := Aside0.mk hp.blk; clear hp))
                  refine bodyPost_ret (results_cell_row rfl _ _ gr 125 #[.int .i64 22, .int .i64 (i : Int)] (0, 0) _ rfl HP.out Try.underlying125 rfl (by kernel_rfl)) rfl ?_
                  exact ⟨rfl, HE.out⟩
                · rw [if_neg c1] at hse
                  have d1 : decide ((l0_1.length : Int) < sa) = false := decide_eq_false c1
                  clear c1
                  by_cases k3 : sk = 3
                  · rw [if_pos k3] at hse
                    have k3b : (sk == 3) = true := beq_iff_eq.mpr k3
                    by_cases a0 : sa = 0
                    · rw [if_pos a0] at hse
                      have a0b : (sa == 0) = true := beq_iff_eq.mpr a0
                      have a0c : (sa != 0) = false := bne_eq_false_iff_eq.mpr a0
                      clear a0 k3
                      rw [hse, if_pos rfl] at hstep
                      have HF := Aside0.mk hstep.symm
                      clear hstep hse
                      go_wp2_with (first | ((with_reducible refine gate_dst (N := 5) rfl ?_); refine box_event ?hg (N := 5) ?hd (cs := #[.string ⟨#[]⟩, .int .i8 0, .int .i64 0]) (t := 120) ?hr ?_; (case hd => rfl); (case hg => rfl); (case hr => first | (go_simp; done) | (go_simp; rfl)); intro gs hgs w5 BK5 hb5; have LB := Aside0.mk (show b < gs by rw [hgs]; exact HO.out.seen.lt); have LG := Aside0.mk (show gb < gs by rw [hgs]; exact blk_lt HO.out.obj); have LR := Aside0.mk (show gr < gs by rw [hgs]; exact blk_lt HO.out.res); have HOn := Aside0.mk (HO.out.below hb5); have BS := Aside0.mk BK5; clear HO BK5 hb5 hgs; have HO := HOn; clear HOn) | ((with_reducible refine gate_store (t := 120) rfl ?_); refine wpList_store_whole rfl rfl rfl gs _ #[.string sn, .int .i8 sk, .int .i64 sa] _ rfl rfl BS.out (by kernel_rfl) rfl (sym_one _ _ _) ?_; intro w6 hp; have HOn := Aside0.mk (HO.out.grown (put_grownN hp) (by have := LB.out; have := HO.out.g2; omega) (by have := LG.out; omega) (by have := LR.out; omega) (by have := LB.out; omega)); have BSn := Aside0.mk hp.blk; clear HO BS hp; have HO := HOn; have BS := BSn; clear HOn BSn; have hco := blk_cell HO.out.obj 4; have hco1 := blk_cell HO.out.obj 1; have hs0 := blk_cell BS.out 0; have hs1 := blk_cell BS.out 1; have hs2 := blk_cell BS.out 2) | (go_at_call 84; refine (object_Name.calls sn _ _ HN.out).mono ?_; rintro e w7 ⟨rfl, hb⟩; have HOn := Aside0.mk (HO.out.below hb); have BSn := Aside0.mk (blk_below BS.out hb); clear HO BS hb hs0 hs1 hs2; have HO := HOn; have BS := BSn; clear HOn BSn; have hco := blk_cell HO.out.obj 4; have hco1 := blk_cell HO.out.obj 1; have hs0 := blk_cell BS.out 0; have hs1 := blk_cell BS.out 1; have hs2 := blk_cell BS.out 2) | (at_lookup; refine wpList_lookup_seen rfl _ _ 143 rfl 9 4 lawN Try.underlying143 Try.underlying4 (zeroBN _) b _ _ rfl HO.out.seen _ _ rfl HKY.out trivial ?_; rw [HM.out]) | (at_mapUpdate; refine wpList_update_seen rfl _ _ _ 143 rfl 9 4 lawN Try.underlying143 Try.underlying4 b _ _ rfl HO.out.seen (by have := HL.out; unfold maxLen; omega) _ _ rfl rfl HKY.out trivial ?_; intro w8 hs8 hg8; have HOn := Aside0.mk (HO.out.add hg8 hs8); clear HO hs8 hg8; have HO := HOn; clear HOn))
                      go_roundw
                      case measure => simp [intOf]; omega
                      case rel => exact ⟨i + 1, by first | rfl | (simp; done) | (simp [*]; done), by omega, HF, ⟨by rw [HNS.out]; exact HO.out⟩⟩
                    · rw [if_neg a0] at hse
                      have a0b : (sa == 0) = false := beq_eq_false_iff_ne.mpr a0
                      have a0c : (sa != 0) = true := bne_iff_ne.mpr a0
                      clear a0 k3
                      rw [hse, if_neg (by decide)] at hstep
                      injection hstep with e1 e2
                      subst e1 e2
                      clear hse
                      go_wp2_with (first | ((with_reducible refine gate_dst (N := 5) rfl ?_); refine box_event ?hg (N := 5) ?hd (cs := #[.string ⟨#[]⟩, .int .i8 0, .int .i64 0]) (t := 120) ?hr ?_; (case hd => rfl); (case hg => rfl); (case hr => first | (go_simp; done) | (go_simp; rfl)); intro gs hgs w5 BK5 hb5; have LB := Aside0.mk (show b < gs by rw [hgs]; exact HO.out.seen.lt); have LG := Aside0.mk (show gb < gs by rw [hgs]; exact blk_lt HO.out.obj); have LR := Aside0.mk (show gr < gs by rw [hgs]; exact blk_lt HO.out.res); have HOn := Aside0.mk (HO.out.below hb5); have BS := Aside0.mk BK5; clear HO BK5 hb5 hgs; have HO := HOn; clear HOn) | ((with_reducible refine gate_store (t := 120) rfl ?_); refine wpList_store_whole rfl rfl rfl gs _ #[.string sn, .int .i8 sk, .int .i64 sa] _ rfl rfl BS.out (by kernel_rfl) rfl (sym_one _ _ _) ?_; intro w6 hp; have HOn := Aside0.mk (HO.out.grown (put_grownN hp) (by have := LB.out; have := HO.out.g2; omega) (by have := LG.out; omega) (by have := LR.out; omega) (by have := LB.out; omega)); have BSn := Aside0.mk hp.blk; clear HO BS hp; have HO := HOn; have BS := BSn; clear HOn BSn; have hco := blk_cell HO.out.obj 4; have hco1 := blk_cell HO.out.obj 1; have hs0 := blk_cell BS.out 0; have hs1 := blk_cell BS.out 1; have hs2 := blk_cell BS.out 2) | (go_at_call 84; refine (object_Name.calls sn _ _ HN.out).mono ?_; rintro e w7 ⟨rfl, hb⟩; have HOn := Aside0.mk (HO.out.below hb); have BSn := Aside0.mk (blk_below BS.out hb); clear HO BS hb hs0 hs1 hs2; have HO := HOn; have BS := BSn; clear HOn BSn; have hco := blk_cell HO.out.obj 4; have hco1 := blk_cell HO.out.obj 1; have hs0 := blk_cell BS.out 0; have hs1 := blk_cell BS.out 1; have hs2 := blk_cell BS.out 2) | (at_lookup; refine wpList_lookup_seen rfl _ _ 143 rfl 9 4 lawN Try.underlying143 Try.underlying4 (zeroBN _) b _ _ rfl HO.out.seen _ _ rfl HKY.out trivial ?_; rw [HM.out]) | ((with_reducible refine gate_store (t := 125) rfl ?_); refine wpList_store_whole rfl rfl rfl gr _ #[.int .i64 22, .int .i64 (i : Int)] _ rfl rfl HO.out.res (by kernel_rfl) rfl (two_one _ _) ?_; intro w9 hp; have HE := Aside0.mk (hp.below HO.out.low HO.out.g1); have HP := Aside0.mk hp.blk; clear hp))
                      refine bodyPost_ret (results_cell_row rfl _ _ gr 125 #[.int .i64 22, .int .i64 (i : Int)] (0, 0) _ rfl HP.out Try.underlying125 rfl (by kernel_rfl)) rfl ?_
                      exact ⟨rfl, HE.out⟩
                  · rw [if_neg k3] at hse
                    have k3b : (sk == 3) = false := beq_eq_false_iff_ne.mpr k3
                    clear k3
                    rw [hse, if_pos rfl] at hstep
                    have HF := Aside0.mk hstep.symm
                    clear hstep hse
                    go_wp2_with (first | ((with_reducible refine gate_dst (N := 5) rfl ?_); refine box_event ?hg (N := 5) ?hd (cs := #[.string ⟨#[]⟩, .int .i8 0, .int .i64 0]) (t := 120) ?hr ?_; (case hd => rfl); (case hg => rfl); (case hr => first | (go_simp; done) | (go_simp; rfl)); intro gs hgs w5 BK5 hb5; have LB := Aside0.mk (show b < gs by rw [hgs]; exact HO.out.seen.lt); have LG := Aside0.mk (show gb < gs by rw [hgs]; exact blk_lt HO.out.obj); have LR := Aside0.mk (show gr < gs by rw [hgs]; exact blk_lt HO.out.res); have HOn := Aside0.mk (HO.out.below hb5); have BS := Aside0.mk BK5; clear HO BK5 hb5 hgs; have HO := HOn; clear HOn) | ((with_reducible refine gate_store (t := 120) rfl ?_); refine wpList_store_whole rfl rfl rfl gs _ #[.string sn, .int .i8 sk, .int .i64 sa] _ rfl rfl BS.out (by kernel_rfl) rfl (sym_one _ _ _) ?_; intro w6 hp; have HOn := Aside0.mk (HO.out.grown (put_grownN hp) (by have := LB.out; have := HO.out.g2; omega) (by have := LG.out; omega) (by have := LR.out; omega) (by have := LB.out; omega)); have BSn := Aside0.mk hp.blk; clear HO BS hp; have HO := HOn; have BS := BSn; clear HOn BSn; have hco := blk_cell HO.out.obj 4; have hco1 := blk_cell HO.out.obj 1; have hs0 := blk_cell BS.out 0; have hs1 := blk_cell BS.out 1; have hs2 := blk_cell BS.out 2) | (go_at_call 84; refine (object_Name.calls sn _ _ HN.out).mono ?_; rintro e w7 ⟨rfl, hb⟩; have HOn := Aside0.mk (HO.out.below hb); have BSn := Aside0.mk (blk_below BS.out hb); clear HO BS hb hs0 hs1 hs2; have HO := HOn; have BS := BSn; clear HOn BSn; have hco := blk_cell HO.out.obj 4; have hco1 := blk_cell HO.out.obj 1; have hs0 := blk_cell BS.out 0; have hs1 := blk_cell BS.out 1; have hs2 := blk_cell BS.out 2) | (at_lookup; refine wpList_lookup_seen rfl _ _ 143 rfl 9 4 lawN Try.underlying143 Try.underlying4 (zeroBN _) b _ _ rfl HO.out.seen _ _ rfl HKY.out trivial ?_; rw [HM.out]) | (at_mapUpdate; refine wpList_update_seen rfl _ _ _ 143 rfl 9 4 lawN Try.underlying143 Try.underlying4 b _ _ rfl HO.out.seen (by have := HL.out; unfold maxLen; omega) _ _ rfl rfl HKY.out trivial ?_; intro w8 hs8 hg8; have HOn := Aside0.mk (HO.out.add hg8 hs8); clear HO hs8 hg8; have HO := HOn; clear HOn))
                    go_roundw
                    case measure => simp [intOf]; omega
                    case rel => exact ⟨i + 1, by first | rfl | (simp; done) | (simp [*]; done), by omega, HF, ⟨by rw [HNS.out]; exact HO.out⟩⟩
      · rw [if_neg cn] at hse
        have cn : nb = false := by simpa using cn
        subst cn
        clear hnb
        rw [hse, if_neg (by decide)] at hstep
        injection hstep with e1 e2
        subst e1 e2
        clear hse
        go_wp2_with (first | ((with_reducible refine gate_dst (N := 5) rfl ?_); refine box_event ?hg (N := 5) ?hd (cs := #[.string ⟨#[]⟩, .int .i8 0, .int .i64 0]) (t := 120) ?hr ?_; (case hd => rfl); (case hg => rfl); (case hr => first | (go_simp; done) | (go_simp; rfl)); intro gs hgs w5 BK5 hb5; have LB := Aside0.mk (show b < gs by rw [hgs]; exact HO.out.seen.lt); have LG := Aside0.mk (show gb < gs by rw [hgs]; exact blk_lt HO.out.obj); have LR := Aside0.mk (show gr < gs by rw [hgs]; exact blk_lt HO.out.res); have HOn := Aside0.mk (HO.out.below hb5); have BS := Aside0.mk BK5; clear HO BK5 hb5 hgs; have HO := HOn; clear HOn) | ((with_reducible refine gate_store (t := 120) rfl ?_); refine wpList_store_whole rfl rfl rfl gs _ #[.string sn, .int .i8 sk, .int .i64 sa] _ rfl rfl BS.out (by kernel_rfl) rfl (sym_one _ _ _) ?_; intro w6 hp; have HOn := Aside0.mk (HO.out.grown (put_grownN hp) (by have := LB.out; have := HO.out.g2; omega) (by have := LG.out; omega) (by have := LR.out; omega) (by have := LB.out; omega)); have BSn := Aside0.mk hp.blk; clear HO BS hp; have HO := HOn; have BS := BSn; clear HOn BSn; have hco := blk_cell HO.out.obj 4; have hco1 := blk_cell HO.out.obj 1; have hs0 := blk_cell BS.out 0; have hs1 := blk_cell BS.out 1; have hs2 := blk_cell BS.out 2) | (go_at_call 84; refine (object_Name.calls sn _ _ HN.out).mono ?_; rintro e w7 ⟨rfl, hb⟩; have HOn := Aside0.mk (HO.out.below hb); have BSn := Aside0.mk (blk_below BS.out hb); clear HO BS hb hs0 hs1 hs2; have HO := HOn; have BS := BSn; clear HOn BSn; have hco := blk_cell HO.out.obj 4; have hco1 := blk_cell HO.out.obj 1; have hs0 := blk_cell BS.out 0; have hs1 := blk_cell BS.out 1; have hs2 := blk_cell BS.out 2) | ((with_reducible refine gate_store (t := 125) rfl ?_); refine wpList_store_whole rfl rfl rfl gr _ #[.int .i64 20, .int .i64 (i : Int)] _ rfl rfl HO.out.res (by kernel_rfl) rfl (two_one _ _) ?_; intro w9 hp; have HE := Aside0.mk (hp.below HO.out.low HO.out.g1); have HP := Aside0.mk hp.blk; clear hp))
        refine bodyPost_ret (results_cell_row rfl _ _ gr 125 #[.int .i64 20, .int .i64 (i : Int)] (0, 0) _ rfl HP.out Try.underlying125 rfl (by kernel_rfl)) rfl ?_
        exact ⟨rfl, HE.out⟩
    · have : i = l0_4.length := by omega
      subst this
      have hltb : decide ((l0_4.length : Int) < (l0_4.length : Int)) = false := by simp
      have hf : ((0 : Int), (0 : Int)) = (r1, r2) := by
        have := HF.out
        rw [Nat.sub_self] at this
        exact this
      injection hf with e1 e2
      subst e1 e2
      clear hlt hile
      go_wp2_with (first | ((with_reducible refine gate_store (t := 125) rfl ?_); refine wpList_store_whole rfl rfl rfl gr _ #[.int .i64 0, .int .i64 0] _ rfl rfl HO.out.res (by kernel_rfl) rfl (two_one _ _) ?_; intro w9 hp; have HE := Aside0.mk (hp.below HO.out.low HO.out.g1); have HP := Aside0.mk hp.blk; clear hp))
      refine bodyPost_ret (results_cell_row rfl _ _ gr 125 #[.int .i64 0, .int .i64 0] (0, 0) _ rfl HP.out Try.underlying125 rfl (by kernel_rfl)) rfl ?_
      exact ⟨rfl, HE.out⟩

end Go.Proofs.Ytiaohbbafaaibaa.P

/- OWN TEXT: what isa.has and isa.Encode come to (their tables are arrays, which the print does not take), in the print's own form. -/
namespace Go.Proofs.Ytiaohbbafaaibaa.P
open Go.RowKit Go.Proofs.YtiaohbbafaaibaaW.PrintWords Go.Proofs.YtiaohbbafaaibaaW.PrintLast Go.Proofs.YtiaohbbafaaibaaW.PrintMore Go.Proofs.Ytiaohbbafaaibaa.Arr
set_option linter.unusedVariables false
set_option linter.unusedSimpArgs false

/-- The fields of each op. -/
def fieldsA : Array Value := #[.int .i64 0, .int .i64 9, .int .i64 3, .int .i64 7, .int .i64 7, .int .i64 7, .int .i64 7, .int .i64 7, .int .i64 7, .int .i64 7, .int .i64 7, .int .i64 11, .int .i64 14, .int .i64 1, .int .i64 10, .int .i64 24, .int .i64 26, .int .i64 24, .int .i64 2, .int .i64 2, .int .i64 25, .int .i64 0]
theorem fieldsA_one : (fieldsA.all fun v => v.oneCell') = true := by kernel_rfl
/-- The same as numbers. -/
def fieldsL : List Int := [0, 9, 3, 7, 7, 7, 7, 7, 7, 7, 7, 11, 14, 1, 10, 24, 26, 24, 2, 2, 25, 0]
theorem fieldsA_eq : fieldsA = (fieldsL.map (Value.int .i64)).toArray := rfl
theorem isa_size3 (W : World) : (sizeOf 3).run Try.prog W = .ok 1 W := by kernel_rfl
set_option maxHeartbeats 4000000 in
set_option maxRecDepth 100000 in
theorem isa_fields.calls (w : World) :
    Calls Try.prog 125 #[] w fun e w' => e = .returned (.agg fieldsA) ∧ Below w.heap.size w w' := by
  have HB := Aside0.mk (Below.refl w.heap.size w)
  go_enter Try.func125, Try.ntmps125
  go_upto_region 2 with (first | ((with_reducible refine gate_dst (N := 0) rfl ?_); refine box_event ?hg (N := 0) ?hd (cs := #[.int .i64 0, .int .i64 0, .int .i64 0, .int .i64 0, .int .i64 0, .int .i64 0, .int .i64 0, .int .i64 0, .int .i64 0, .int .i64 0, .int .i64 0, .int .i64 0, .int .i64 0, .int .i64 0, .int .i64 0, .int .i64 0, .int .i64 0, .int .i64 0, .int .i64 0, .int .i64 0, .int .i64 0, .int .i64 0]) (t := 138) ?hr ?_; (case hd => rfl); (case hg => rfl); (case hr => first | (go_simp; done) | (go_simp; rfl)); intro g0 hge0 w1 BK0 hb0; have HB1 := Aside0.mk (below_then HB.out (Nat.le_refl _) hb0); have BGa := Aside0.mk BK0; have GE0 := Aside0.mk (show w.heap.size ≤ g0 by omega); have GL0 := Aside0.mk (show g0 < w1.heap.size from blk_lt BK0); clear BK0 hb0 hge0) | ((with_reducible refine gate_dst (N := 1) rfl ?_); refine box_event ?hg (N := 1) ?hd (cs := #[.int .i64 0, .int .i64 0, .int .i64 0, .int .i64 0, .int .i64 0, .int .i64 0, .int .i64 0, .int .i64 0, .int .i64 0, .int .i64 0, .int .i64 0, .int .i64 0, .int .i64 0, .int .i64 0, .int .i64 0, .int .i64 0, .int .i64 0, .int .i64 0, .int .i64 0, .int .i64 0, .int .i64 0, .int .i64 0]) (t := 138) ?hr ?_; (case hd => rfl); (case hg => rfl); (case hr => first | (go_simp; done) | (go_simp; rfl)); intro g1 hge1 w2 BK1 hb1; have HB2 := Aside0.mk (below_then HB1.out HB1.out.size hb1); have BG1 := Aside0.mk BK1; have BG0 := Aside0.mk (blk_below BGa.out hb1); have NE := Aside0.mk (show g0 ≠ g1 by have := GL0.out; omega); have GE1 := Aside0.mk (show w.heap.size ≤ g1 by have := HB1.out.size; omega); clear BK1 hb1 hge1 HB1 BGa GL0))
  go_wp2_with (first | ((with_reducible refine gate_store (t := 3) rfl ?_); refine wpList_store_arr_const rfl rfl rfl g1 _ _ _ _ rfl rfl rfl (isa_size3 _) BG1.out (by decide) (by simp only [List.setIfInBounds_toArray, List.set_cons_zero, List.set_cons_succ]; rfl) ?_; intro w3 hp; have HBn := Aside0.mk (hp.below HB2.out GE1.out); have BG1n := Aside0.mk hp.blk; have BG0n := Aside0.mk ((hp.far g0 NE.out).trans BG0.out); clear BG1 BG0 HB2 hp; have BG1 := BG1n; have BG0 := BG0n; have HB2 := HBn; clear BG1n BG0n HBn) | ((with_reducible refine gate_dst (N := 21) rfl ?_); (refine wpList_load_row rfl 138 _ rfl g1 rfl 138 _ (0, 0) _ BG1.out Try.underlying138 rfl (by kernel_rfl) ?_)) | ((with_reducible refine gate_store (t := 138) rfl ?_); refine wpList_store_whole rfl rfl rfl g0 _ fieldsA _ rfl (by rfl) BG0.out (by kernel_rfl) (by rfl) fieldsA_one ?_; intro w3 hp; have HBn := Aside0.mk (hp.below HB2.out GE0.out); have BG0n := Aside0.mk hp.blk; clear BG1 BG0 HB2 hp))
  refine wp_loop_rounds 9 ?_
  iterate 9 (rw [rounds_succ]; go_wp2_with (first | ((with_reducible refine gate_store (t := 3) rfl ?_); refine wpList_store_arr_const rfl rfl rfl g1 _ _ _ _ rfl rfl rfl (isa_size3 _) BG1.out (by decide) (by simp only [List.setIfInBounds_toArray, List.set_cons_zero, List.set_cons_succ]; rfl) ?_; intro w3 hp; have HBn := Aside0.mk (hp.below HB2.out GE1.out); have BG1n := Aside0.mk hp.blk; have BG0n := Aside0.mk ((hp.far g0 NE.out).trans BG0.out); clear BG1 BG0 HB2 hp; have BG1 := BG1n; have BG0 := BG0n; have HB2 := HBn; clear BG1n BG0n HBn) | ((with_reducible refine gate_dst (N := 21) rfl ?_); (refine wpList_load_row rfl 138 _ rfl g1 rfl 138 _ (0, 0) _ BG1.out Try.underlying138 rfl (by kernel_rfl) ?_)) | ((with_reducible refine gate_store (t := 138) rfl ?_); refine wpList_store_whole rfl rfl rfl g0 _ fieldsA _ rfl (by rfl) BG0.out (by kernel_rfl) (by rfl) fieldsA_one ?_; intro w3 hp; have HBn := Aside0.mk (hp.below HB2.out GE0.out); have BG0n := Aside0.mk hp.blk; clear BG1 BG0 HB2 hp)))
  exact bodyPost_ret (v := .agg fieldsA) (results_cell_row Try.results125 _ _ g0 138 fieldsA (0, 0) _ rfl BG0n.out Try.underlying138 rfl (by kernel_rfl)) rfl ⟨rfl, HBn.out⟩

def hasT (a0 : Int) : Int := fieldsL.getD a0.toNat 0
def isa_has.f (a0 : Int) : Option (Int) := if a0 < 0 then (some 0) else (if a0 ≥ 22 then (some 0) else (some (hasT a0)))
set_option maxHeartbeats 1000000 in
set_option maxRecDepth 100000 in
theorem isa_has.calls (a0 : Int) (r : Int) (w : World) (h : isa_has.f a0 = some r) :
    Calls Try.prog 88 #[.int .i8 a0] w fun e w' => e = .returned (.int .i64 r) ∧ Below w.heap.size w w' := by
  unfold isa_has.f at h
  by_cases c1 : a0 < 0
  · rw [if_pos c1] at h
    obtain rfl := Option.some.inj h
    go_enter Try.func88, Try.ntmps88
    go_wp2
    go_ret
    exact ⟨rfl, Below.refl _ _⟩
  rw [if_neg c1] at h
  by_cases c2 : a0 ≥ 22
  · rw [if_pos c2] at h
    obtain rfl := Option.some.inj h
    go_enter Try.func88, Try.ntmps88
    go_wp2
    go_ret
    exact ⟨rfl, Below.refl _ _⟩
  rw [if_neg c2] at h
  have hr := Option.some.inj h
  have hv : fieldsA[a0.toNat]? = some (.int .i64 r) := by
    rw [← hr, fieldsA_eq, List.getElem?_toArray, List.getElem?_map]
    have hl : a0.toNat < fieldsL.length := by
      have : fieldsL.length = 22 := rfl
      omega
    unfold hasT
    rw [List.getD_eq_getElem?_getD, List.getElem?_eq_getElem hl]
    rfl
  have hix := fun W => run_index_arr (P := Try.prog) (w := W) (cs := fieldsA) (k := .i8) (i := a0) Try.underlying138 (by kernel_rfl) (isa_size3 W) (by omega) (by omega) hv
  clear h hr hv
  go_enter Try.func88, Try.ntmps88
  go_wp2_with (go_at_call 125; refine (isa_fields.calls _).mono ?_; rintro e w1 ⟨rfl, hb⟩)
  go_ret
  exact ⟨rfl, hb⟩

end Go.Proofs.Ytiaohbbafaaibaa.P

/- OWN TEXT: what isa.Encode comes to (it holds an array, which the print does not take), in the print's own form. -/
namespace Go.Proofs.Ytiaohbbafaaibaa.P
open Go.RowKit Go.Proofs.YtiaohbbafaaibaaW.PrintWords Go.Proofs.YtiaohbbafaaibaaW.PrintLast Go.Proofs.YtiaohbbafaaibaaW.PrintMore Go.Proofs.Ytiaohbbafaaibaa.Arr
set_option linter.unusedVariables false
set_option linter.unusedSimpArgs false

theorem cells5 {W : World} {g t : Nat} {v0 v1 v2 v3 v4 : Value} (h : W.heap[g]? = some (.cells #[v0, v1, v2, v3, v4] t (0, 0))) :
    W.cell? ⟨g, 0, none⟩ = some v0 ∧ W.cell? ⟨g, 1, none⟩ = some v1 ∧ W.cell? ⟨g, 2, none⟩ = some v2 ∧ W.cell? ⟨g, 3, none⟩ = some v3 ∧ W.cell? ⟨g, 4, none⟩ = some v4 :=
  ⟨blk_cell h 0, blk_cell h 1, blk_cell h 2, blk_cell h 3, blk_cell h 4⟩
theorem arr3_one (a b c : Int) : ((#[.int .i8 a, .int .i8 b, .int .i8 c] : Array Value).all fun v => v.oneCell') = true := by kernel_rfl
/-- May register r not be, f the op's fields, m its own bit? -/
def badReg (f r m : Int) : Prop := r < 0 ∨ 16 ≤ r ∨ (r ≠ 0 ∧ Go.bits .and .i64 f m = 0)
def lowT (f : Int) : Int := if Go.bits .and .i64 f 16 = 0 then (if Go.bits .and .i64 f 8 = 0 then 0 else -16384) else 0
def highT (f : Int) : Int := if Go.bits .and .i64 f 16 = 0 then (if Go.bits .and .i64 f 8 = 0 then 0 else 16383) else 16383
/-- The word, as the walk tells it. -/
def encW (a0 a1 a2 a3 a4 : Int) : Int := Go.bits .or .u32 (Go.bits .or .u32 (Go.bits .or .u32 (Go.bits .or .u32 (a0 * 134217728) (a1 * 8388608)) (a2 * 524288)) (a3 * 32768)) (Go.bits .and .u32 (a4 % 4294967296) 32767)
def RegRel (fv a1 a2 a3 : Int) (i : Value) : Prop :=
  i = .int .i64 0 ∨ (i = .int .i64 1 ∧ ¬ badReg fv a1 1) ∨ (i = .int .i64 2 ∧ ¬ badReg fv a1 1 ∧ ¬ badReg fv a2 2) ∨ (i = .int .i64 3 ∧ ¬ badReg fv a1 1 ∧ ¬ badReg fv a2 2 ∧ ¬ badReg fv a3 4)
def BadIns (fv a1 a2 a3 a4 : Int) : Prop := badReg fv a1 1 ∨ badReg fv a2 2 ∨ badReg fv a3 4 ∨ a4 < lowT fv ∨ a4 > highT fv
set_option maxHeartbeats 8000000 in
set_option maxRecDepth 100000 in
theorem isa_Encode.calls_in (a0 a1 a2 a3 a4 fv : Int) (r1 r2 : Int) (w : World) (h0 : 0 ≤ a0) (h22 : a0 < 22) (Hhas : Aside0 (isa_has.f a0 = some fv))
    (Hbad : Aside0 (BadIns fv a1 a2 a3 a4 → r1 = 0 ∧ r2 = 11)) (Hgood : Aside0 (¬ BadIns fv a1 a2 a3 a4 → r1 = encW a0 a1 a2 a3 a4 ∧ r2 = 0)) :
    Calls Try.prog 32 #[.agg #[.int .i8 a0, .int .i8 a1, .int .i8 a2, .int .i8 a3, .int .i64 a4]] w fun e w' => e = .returned (.tuple #[.int .u32 r1, .int .i64 r2]) ∧ Below w.heap.size w w' := by
  have i0 : ∀ W, (Instr.index 102 (.agg #[.int .i8 a1, .int .i8 a2, .int .i8 a3]) (.int .i64 0)).run Try.prog W = .ok (.int .i8 a1) W := fun _ => by kernel_rfl
  have i1 : ∀ W, (Instr.index 102 (.agg #[.int .i8 a1, .int .i8 a2, .int .i8 a3]) (.int .i64 1)).run Try.prog W = .ok (.int .i8 a2) W := fun _ => by kernel_rfl
  have i2 : ∀ W, (Instr.index 102 (.agg #[.int .i8 a1, .int .i8 a2, .int .i8 a3]) (.int .i64 2)).run Try.prog W = .ok (.int .i8 a3) W := fun _ => by kernel_rfl
  go_enter Try.func32, Try.ntmps32
  go_wp2_with (first | ((with_reducible refine gate_dst (N := 1) rfl ?_); refine box_event ?hg (N := 1) ?hd (cs := #[.int .i8 a0, .int .i8 a1, .int .i8 a2, .int .i8 a3, .int .i64 a4]) (t := 36) ?hr ?_; (case hd => rfl); (case hg => rfl); (case hr => first | (go_simp; done) | (go_simp; rfl)); intro g0 hge0 w1 BK1 hb1; have HB := Aside0.mk (below_then (Below.refl w.heap.size w) (Nat.le_refl _) hb1); have BK := Aside0.mk BK1; have GE0 := Aside0.mk (show w.heap.size ≤ g0 by omega); clear BK1 hb1 hge0; obtain ⟨q0, q1, q2, q3, q4⟩ := cells5 BK.out) | (go_at_call 88; refine (isa_has.calls a0 fv _ Hhas.out).mono ?_; rintro e w2 ⟨rfl, hb⟩; have HBn := Aside0.mk (below_then HB.out HB.out.size hb); have BKn := Aside0.mk (blk_below BK.out hb); clear HB BK hb q0 q1 q2 q3 q4; have HB := HBn; have BK := BKn; clear HBn BKn; obtain ⟨q0, q1, q2, q3, q4⟩ := cells5 BK.out) | ((with_reducible refine gate_dst (N := 5) rfl ?_); refine box_event ?hg (N := 5) ?hd (cs := #[.int .i8 0, .int .i8 0, .int .i8 0]) (t := 102) ?hr ?_; (case hd => rfl); (case hg => rfl); (case hr => first | (go_simp; done) | (go_simp; rfl)); intro g1 hge1 w3 BR1 hb; have HBn := Aside0.mk (below_then HB.out HB.out.size hb); have BKn := Aside0.mk (blk_below BK.out hb); have BR := Aside0.mk BR1; have NE := Aside0.mk (show g0 ≠ g1 by have := blk_lt BK.out; omega); have GE1 := Aside0.mk (show w.heap.size ≤ g1 by have := HB.out.size; omega); clear HB BK hb q0 q1 q2 q3 q4 BR1 hge1; have HB := HBn; have BK := BKn; clear HBn BKn; obtain ⟨q0, q1, q2, q3, q4⟩ := cells5 BK.out) | ((with_reducible refine gate_store (t := 102) rfl ?_); refine wpList_store_whole rfl rfl rfl g1 _ #[.int .i8 a1, .int .i8 a2, .int .i8 a3] _ rfl (by rfl) BR.out (by kernel_rfl) (by rfl) (arr3_one _ _ _) ?_; intro w4 hp; have HBn := Aside0.mk (hp.below HB.out GE1.out); have BKn := Aside0.mk ((hp.far g0 NE.out).trans BK.out); have BRn := Aside0.mk hp.blk; clear HB BK BR hp q0 q1 q2 q3 q4; have HB := HBn; have BK := BKn; have BR := BRn; clear HBn BKn BRn; obtain ⟨q0, q1, q2, q3, q4⟩ := cells5 BK.out) | ((with_reducible refine gate_dst (N := 28) rfl ?_); refine wpList_load_row rfl 102 _ rfl g1 rfl 102 _ (0, 0) _ BR.out Try.underlying102 rfl (by kernel_rfl) ?_))
  go_loop [29] (fun i => RegRel fv a1 a2 a3 i) (fun i => 3 - (intOf i).toNat)
  case atStart => exact .inl rfl
  case round =>
    rcases hrel with rfl | ⟨rfl, hg1⟩ | ⟨rfl, hg1, hg2⟩ | ⟨rfl, hg1, hg2, hg3⟩
    · -- register 0
      by_cases c1 : a1 < 0
      · have hbd : badReg fv a1 1 := .inl c1
        have Hbd := Aside0.mk (show BadIns fv a1 a2 a3 a4 from .inl hbd)
        clear hbd
        go_wp2
        go_ret2
        exact ⟨by obtain ⟨rfl, rfl⟩ := Hbad.out Hbd.out; rfl, HB.out⟩
      by_cases c2 : 16 ≤ a1
      · have hbd : badReg fv a1 1 := .inr (.inl c2)
        have Hbd := Aside0.mk (show BadIns fv a1 a2 a3 a4 from .inl hbd)
        clear hbd
        go_wp2
        go_ret2
        exact ⟨by obtain ⟨rfl, rfl⟩ := Hbad.out Hbd.out; rfl, HB.out⟩
      by_cases c3 : a1 = 0
      · have HG := Aside0.mk (show ¬ badReg fv a1 1 from fun h => by rcases h with h | h | h <;> omega)
        have e1 : (a1 != 0) = false := by simp [c3]
        clear c3
        go_wp2
        go_round
        case rel => exact .inr (.inl ⟨rfl, HG.out⟩)
        case measure => simp [intOf]
      have e1 : (a1 != 0) = true := by simp [c3]
      by_cases c4 : Go.bits .and .i64 fv 1 = 0
      · have hbd : badReg fv a1 1 := .inr (.inr ⟨c3, c4⟩)
        have Hbd := Aside0.mk (show BadIns fv a1 a2 a3 a4 from .inl hbd)
        have e2 : (Go.bits .and .i64 fv 1 == 0) = true := by simp [c4]
        clear hbd c3 c4
        go_wp2
        go_ret2
        exact ⟨by obtain ⟨rfl, rfl⟩ := Hbad.out Hbd.out; rfl, HB.out⟩
      have HG := Aside0.mk (show ¬ badReg fv a1 1 from fun h => by rcases h with h | h | h <;> first | omega | exact c4 h.2)
      have e2 : (Go.bits .and .i64 fv 1 == 0) = false := by simp [c4]
      clear c3 c4
      go_wp2
      go_round
      case rel => exact .inr (.inl ⟨rfl, HG.out⟩)
      case measure => simp [intOf]
    · -- register 1
      have H1 := Aside0.mk hg1
      clear hg1
      by_cases c1 : a2 < 0
      · have hbd : badReg fv a2 2 := .inl c1
        have Hbd := Aside0.mk (show BadIns fv a1 a2 a3 a4 from .inr (.inl hbd))
        clear hbd
        go_wp2
        go_ret2
        exact ⟨by obtain ⟨rfl, rfl⟩ := Hbad.out Hbd.out; rfl, HB.out⟩
      by_cases c2 : 16 ≤ a2
      · have hbd : badReg fv a2 2 := .inr (.inl c2)
        have Hbd := Aside0.mk (show BadIns fv a1 a2 a3 a4 from .inr (.inl hbd))
        clear hbd
        go_wp2
        go_ret2
        exact ⟨by obtain ⟨rfl, rfl⟩ := Hbad.out Hbd.out; rfl, HB.out⟩
      by_cases c3 : a2 = 0
      · have HG := Aside0.mk (show ¬ badReg fv a2 2 from fun h => by rcases h with h | h | h <;> omega)
        have e1 : (a2 != 0) = false := by simp [c3]
        clear c3
        go_wp2
        go_round
        case rel => exact .inr (.inr (.inl ⟨rfl, H1.out, HG.out⟩))
        case measure => simp [intOf]
      have e1 : (a2 != 0) = true := by simp [c3]
      by_cases c4 : Go.bits .and .i64 fv 2 = 0
      · have hbd : badReg fv a2 2 := .inr (.inr ⟨c3, c4⟩)
        have Hbd := Aside0.mk (show BadIns fv a1 a2 a3 a4 from .inr (.inl hbd))
        have e2 : (Go.bits .and .i64 fv 2 == 0) = true := by simp [c4]
        clear hbd c3 c4
        go_wp2
        go_ret2
        exact ⟨by obtain ⟨rfl, rfl⟩ := Hbad.out Hbd.out; rfl, HB.out⟩
      have HG := Aside0.mk (show ¬ badReg fv a2 2 from fun h => by rcases h with h | h | h <;> first | omega | exact c4 h.2)
      have e2 : (Go.bits .and .i64 fv 2 == 0) = false := by simp [c4]
      clear c3 c4
      go_wp2
      go_round
      case rel => exact .inr (.inr (.inl ⟨rfl, H1.out, HG.out⟩))
      case measure => simp [intOf]
    · -- register 2
      have H1 := Aside0.mk hg1
      have H2 := Aside0.mk hg2
      clear hg1 hg2
      by_cases c1 : a3 < 0
      · have hbd : badReg fv a3 4 := .inl c1
        have Hbd := Aside0.mk (show BadIns fv a1 a2 a3 a4 from .inr (.inr (.inl hbd)))
        clear hbd
        go_wp2
        go_ret2
        exact ⟨by obtain ⟨rfl, rfl⟩ := Hbad.out Hbd.out; rfl, HB.out⟩
      by_cases c2 : 16 ≤ a3
      · have hbd : badReg fv a3 4 := .inr (.inl c2)
        have Hbd := Aside0.mk (show BadIns fv a1 a2 a3 a4 from .inr (.inr (.inl hbd)))
        clear hbd
        go_wp2
        go_ret2
        exact ⟨by obtain ⟨rfl, rfl⟩ := Hbad.out Hbd.out; rfl, HB.out⟩
      by_cases c3 : a3 = 0
      · have HG := Aside0.mk (show ¬ badReg fv a3 4 from fun h => by rcases h with h | h | h <;> omega)
        have e1 : (a3 != 0) = false := by simp [c3]
        clear c3
        go_wp2
        go_round
        case rel => exact .inr (.inr (.inr ⟨rfl, H1.out, H2.out, HG.out⟩))
        case measure => simp [intOf]
      have e1 : (a3 != 0) = true := by simp [c3]
      by_cases c4 : Go.bits .and .i64 fv 4 = 0
      · have hbd : badReg fv a3 4 := .inr (.inr ⟨c3, c4⟩)
        have Hbd := Aside0.mk (show BadIns fv a1 a2 a3 a4 from .inr (.inr (.inl hbd)))
        have e2 : (Go.bits .and .i64 fv 4 == 0) = true := by simp [c4]
        clear hbd c3 c4
        go_wp2
        go_ret2
        exact ⟨by obtain ⟨rfl, rfl⟩ := Hbad.out Hbd.out; rfl, HB.out⟩
      have HG := Aside0.mk (show ¬ badReg fv a3 4 from fun h => by rcases h with h | h | h <;> first | omega | exact c4 h.2)
      have e2 : (Go.bits .and .i64 fv 4 == 0) = false := by simp [c4]
      clear c3 c4
      go_wp2
      go_round
      case rel => exact .inr (.inr (.inr ⟨rfl, H1.out, H2.out, HG.out⟩))
      case measure => simp [intOf]
    · have b1 : 0 ≤ a1 ∧ a1 < 16 := by unfold badReg at hg1; omega
      have b2 : 0 ≤ a2 ∧ a2 < 16 := by unfold badReg at hg2; omega
      have b3 : 0 ≤ a3 ∧ a3 < 16 := by unfold badReg at hg3; omega
      obtain ⟨b1l, b1h⟩ := b1
      obtain ⟨b2l, b2h⟩ := b2
      obtain ⟨b3l, b3h⟩ := b3
      have H1 := Aside0.mk hg1
      have H2 := Aside0.mk hg2
      have H3 := Aside0.mk hg3
      clear hg1 hg2 hg3 i0 i1 i2
      by_cases c5 : Go.bits .and .i64 fv 16 = 0
      · have e5 : (Go.bits .and .i64 fv 16 != 0) = false := by simp [c5]
        by_cases c6 : Go.bits .and .i64 fv 8 = 0
        · have e6 : (Go.bits .and .i64 fv 8 != 0) = false := by simp [c6]
          have HL := Aside0.mk (show lowT fv = 0 from by simp [lowT, *])
          have HH := Aside0.mk (show highT fv = 0 from by simp [highT, *])
          clear c5 c6
          by_cases c7 : a4 < 0
          · have Hbd := Aside0.mk (show BadIns fv a1 a2 a3 a4 from .inr (.inr (.inr (.inl (by rw [HL.out]; exact c7)))))
            go_wp2
            go_ret2
            exact ⟨by obtain ⟨rfl, rfl⟩ := Hbad.out Hbd.out; rfl, HB.out⟩
          by_cases c8 : a4 > 0
          · have Hbd := Aside0.mk (show BadIns fv a1 a2 a3 a4 from .inr (.inr (.inr (.inr (by rw [HH.out]; exact c8)))))
            go_wp2
            go_ret2
            exact ⟨by obtain ⟨rfl, rfl⟩ := Hbad.out Hbd.out; rfl, HB.out⟩
          have Hgd := Aside0.mk (show ¬ BadIns fv a1 a2 a3 a4 from fun h => by rcases h with h | h | h | h | h <;> first | exact H1.out h | exact H2.out h | exact H3.out h | (rw [HL.out] at h; omega) | (rw [HH.out] at h; omega))
          have c7' : 0 ≤ a4 := by omega
          have c8' : a4 ≤ 0 := by omega
          clear c7 c8
          go_wp2
          go_ret2
          obtain ⟨rfl, rfl⟩ := Hgood.out Hgd.out
          exact ⟨by unfold encW; first | rfl | (rw [show a4 % 4294967296 = a4 by omega]; rfl), HB.out⟩
        · have e6 : (Go.bits .and .i64 fv 8 != 0) = true := by simp [c6]
          have HL := Aside0.mk (show lowT fv = (-16384) from by simp [lowT, *])
          have HH := Aside0.mk (show highT fv = 16383 from by simp [highT, *])
          clear c5 c6
          by_cases c7 : a4 < (-16384)
          · have Hbd := Aside0.mk (show BadIns fv a1 a2 a3 a4 from .inr (.inr (.inr (.inl (by rw [HL.out]; exact c7)))))
            go_wp2
            go_ret2
            exact ⟨by obtain ⟨rfl, rfl⟩ := Hbad.out Hbd.out; rfl, HB.out⟩
          by_cases c8 : a4 > 16383
          · have Hbd := Aside0.mk (show BadIns fv a1 a2 a3 a4 from .inr (.inr (.inr (.inr (by rw [HH.out]; exact c8)))))
            go_wp2
            go_ret2
            exact ⟨by obtain ⟨rfl, rfl⟩ := Hbad.out Hbd.out; rfl, HB.out⟩
          have Hgd := Aside0.mk (show ¬ BadIns fv a1 a2 a3 a4 from fun h => by rcases h with h | h | h | h | h <;> first | exact H1.out h | exact H2.out h | exact H3.out h | (rw [HL.out] at h; omega) | (rw [HH.out] at h; omega))
          have c7' : (-16384) ≤ a4 := by omega
          have c8' : a4 ≤ 16383 := by omega
          clear c7 c8
          go_wp2
          go_ret2
          obtain ⟨rfl, rfl⟩ := Hgood.out Hgd.out
          exact ⟨by unfold encW; first | rfl | (rw [show a4 % 4294967296 = a4 by omega]; rfl), HB.out⟩
      · have e5 : (Go.bits .and .i64 fv 16 != 0) = true := by simp [c5]
        have HL := Aside0.mk (show lowT fv = 0 from by simp [lowT, *])
        have HH := Aside0.mk (show highT fv = 16383 from by simp [highT, *])
        clear c5
        by_cases c7 : a4 < 0
        · have Hbd := Aside0.mk (show BadIns fv a1 a2 a3 a4 from .inr (.inr (.inr (.inl (by rw [HL.out]; exact c7)))))
          go_wp2
          go_ret2
          exact ⟨by obtain ⟨rfl, rfl⟩ := Hbad.out Hbd.out; rfl, HB.out⟩
        by_cases c8 : a4 > 16383
        · have Hbd := Aside0.mk (show BadIns fv a1 a2 a3 a4 from .inr (.inr (.inr (.inr (by rw [HH.out]; exact c8)))))
          go_wp2
          go_ret2
          exact ⟨by obtain ⟨rfl, rfl⟩ := Hbad.out Hbd.out; rfl, HB.out⟩
        have Hgd := Aside0.mk (show ¬ BadIns fv a1 a2 a3 a4 from fun h => by rcases h with h | h | h | h | h <;> first | exact H1.out h | exact H2.out h | exact H3.out h | (rw [HL.out] at h; omega) | (rw [HH.out] at h; omega))
        have c7' : 0 ≤ a4 := by omega
        have c8' : a4 ≤ 16383 := by omega
        clear c7 c8
        go_wp2
        go_ret2
        obtain ⟨rfl, rfl⟩ := Hgood.out Hgd.out
        exact ⟨by unfold encW; first | rfl | (rw [show a4 % 4294967296 = a4 by omega]; rfl), HB.out⟩

instance (f r m : Int) : Decidable (badReg f r m) := by unfold badReg; infer_instance
instance (f a1 a2 a3 a4 : Int) : Decidable (BadIns f a1 a2 a3 a4) := by unfold BadIns; infer_instance
def isa_Encode.f (a0 a1 a2 a3 a4 : Int) : Option (Int × Int) :=
  if a0 < 0 then (some (0, 10)) else (if a0 ≥ 22 then (some (0, 10)) else (if BadIns (hasT a0) a1 a2 a3 a4 then (some (0, 11)) else (some (encW a0 a1 a2 a3 a4, 0))))
set_option maxHeartbeats 1000000 in
set_option maxRecDepth 100000 in
theorem isa_Encode.calls_out (a0 a1 a2 a3 a4 : Int) (w : World) (h : a0 < 0 ∨ 22 ≤ a0) :
    Calls Try.prog 32 #[.agg #[.int .i8 a0, .int .i8 a1, .int .i8 a2, .int .i8 a3, .int .i64 a4]] w fun e w' => e = .returned (.tuple #[.int .u32 0, .int .i64 10]) ∧ Below w.heap.size w w' := by
  rcases h with h | h
  · go_enter Try.func32, Try.ntmps32
    go_wp2
    go_ret2
    exact ⟨rfl, (Below.refl _ _).alloc (Nat.le_refl _) _⟩
  · have h2 : ¬ a0 < 0 := by omega
    go_enter Try.func32, Try.ntmps32
    go_wp2
    go_ret2
    exact ⟨rfl, (Below.refl _ _).alloc (Nat.le_refl _) _⟩
theorem isa_Encode.calls (a0 a1 a2 a3 a4 : Int) (r1 r2 : Int) (w : World) (h : isa_Encode.f a0 a1 a2 a3 a4 = some (r1, r2)) :
    Calls Try.prog 32 #[.agg #[.int .i8 a0, .int .i8 a1, .int .i8 a2, .int .i8 a3, .int .i64 a4]] w fun e w' => e = .returned (.tuple #[.int .u32 r1, .int .i64 r2]) ∧ Below w.heap.size w w' := by
  unfold isa_Encode.f at h
  by_cases c1 : a0 < 0
  · rw [if_pos c1] at h
    injection h with h
    injection h with h1 h2
    subst h1 h2
    exact isa_Encode.calls_out a0 a1 a2 a3 a4 w (.inl c1)
  rw [if_neg c1] at h
  by_cases c2 : a0 ≥ 22
  · rw [if_pos c2] at h
    injection h with h
    injection h with h1 h2
    subst h1 h2
    exact isa_Encode.calls_out a0 a1 a2 a3 a4 w (.inr c2)
  rw [if_neg c2] at h
  refine isa_Encode.calls_in a0 a1 a2 a3 a4 (hasT a0) r1 r2 w (by omega) (by omega) ⟨by unfold isa_has.f; rw [if_neg c1, if_neg c2]⟩ ⟨fun hb => ?_⟩ ⟨fun hb => ?_⟩
  · rw [if_pos hb] at h
    injection h with h
    injection h with h1 h2
    exact ⟨h1.symm, h2.symm⟩
  · rw [if_neg hb] at h
    injection h with h
    injection h with h1 h2
    exact ⟨h1.symm, h2.symm⟩

end Go.Proofs.Ytiaohbbafaaibaa.P
