/- OWN TEXT and printed parts of this claim, laid together: HSymG, HLay, HRng, HBas, HBas2, HIsa, HIsaE, Sq. -/
import Derived.Test.YtiaohbbafaaibabDoorZlM0
import Derived.RangeFuncNested
import Derived.RangeFuncBound
import Derived.RangeFuncCalls
import Derived.RangeFuncLeaves
import Derived.RangeFuncBox
import Derived.RangeFuncWrites
import Derived.Shelf.Abstract
import Derived.Shelf.RegionOpen
import Derived.WalkKit
import Derived.OwnWalkIn
import Derived.TacticsInMore
import Derived.LoopNIn
import Derived.LoopIn
import Derived.Maps.AppendAt
import Derived.Outline
import Derived.Handy
import Derived.Deep.DeepMust
/- OWN TEXT: what all objects' names being gathered comes to: with a closure that does nothing, and with one that keeps the first Global name that was there. -/
namespace Go.Proofs.YtiaohbbafaaibabDoor.P
open Go.RowKit Go.Maps Go.Proofs.YtiaohbbafaaibabDoorW.PrintWords Go.Proofs.YtiaohbbafaaibabDoorW.PrintLast Go.Proofs.YtiaohbbafaaibabDoorW.PrintMore Go.Proofs.YtiaohbbafaaibabDoor.Arr Go.Proofs.YtiaohbbafaaibabDoor.SymM
set_option linter.unusedVariables false
set_option linter.unusedSimpArgs false

abbrev ObjT := S27
def ob (l : List ObjT) (i : Nat) : ObjT := rd_T27 l (i : Int)
def gSym (L0 : List Ent) (syms : List Sym) (i : Int) : Nat → List Ent
 | 0 => L0
 | j + 1 => putL (gSym L0 syms i j) (sy syms j).f0 (sy syms j).f1 (sy syms j).f2 i
def gObj (l : List ObjT) : Nat → List Ent
 | 0 => []
 | i + 1 => gSym (gObj l i) (ob l i).f4 (i : Int) (ob l i).f4.length
def atStep (at_ : Int × Int) (L : List Ent) (s : Sym) (i k : Int) : Int × Int := if putB L s.f0 s.f1 = true then (if at_.1 < 0 then (if s.f1 = 1 then (i, k) else at_) else at_) else at_
def aSym (a0 : Int × Int) (L0 : List Ent) (syms : List Sym) (i : Int) : Nat → Int × Int
 | 0 => a0
 | j + 1 => atStep (aSym a0 L0 syms i j) (gSym L0 syms i j) (sy syms j) i (j : Int)
def aObj (l : List ObjT) : Nat → Int × Int
 | 0 => (-1, -1)
 | i + 1 => aSym (aObj l i) (gObj l i) (ob l i).f4 (i : Int) (ob l i).f4.length
def atCell (a b : Int) : Obj := .cells #[.int .i64 a, .int .i64 b] 130 (0, 0)
def lCell (A : Option Addr) (n c : Nat) : Obj := .cells #[.slice A n c] 43 (0, 0)
def keepV (a0 a1 i k kind : Int) : Int × Int := if a0 < 0 then (if kind = 1 then (i, k) else (a0, a1)) else (a0, a1)
def AtIs (W : World) (ga : Nat) (p : Int × Int) : Prop := W.heap[ga]? = some (atCell p.1 p.2)
theorem obj_oneS (s : ByteArray) (A1 : Option Addr) (n1 c1 : Nat) (a : Int) (A3 : Option Addr) (n3 c3 : Nat) (A4 : Option Addr) (n4 c4 : Nat) (A5 : Option Addr) (n5 c5 : Nat) : ((#[.string s, .slice A1 n1 c1, .int .i64 a, .slice A3 n3 c3, .slice A4 n4 c4, .slice A5 n5 c5] : Array Value).all fun v => v.oneCell') = true := by kernel_rfl
theorem at_one (a b : Int) : ((#[.int .i64 a, .int .i64 b] : Array Value).all fun v => v.oneCell') = true := by kernel_rfl
structure GA (w W : World) (b : Nat) (L : List Ent) : Prop where
  nm : NMap W b L
  low : Below w.heap.size w W
  nb : w.heap.size ≤ b
theorem GA.below {w W W1 : World} {b : Nat} {L : List Ent} (h : GA w W b L) (hb : Below W.heap.size W W1) : GA w W1 b L := ⟨h.nm.below hb, below_then h.low h.low.size hb, h.nb⟩
theorem GA.put {w W W1 : World} {b g : Nat} {L : List Ent} {cs : Array Value} {e : TypeId} (h : GA w W b L) (hp : Put W W1 g cs e) (hg : w.heap.size ≤ g) (hgb : b ≠ g) : GA w W1 b L := ⟨h.nm.kept (put_grownN hp) (fun e => hgb (Option.some.inj e)), hp.below h.low hg, h.nb⟩
theorem GA.upd {w W W1 : World} {b : Nat} {L L' : List Ent} (h : GA w W b L) (hn : NMap W1 b L') (hg : W.grownBy W1 (some b)) : GA w W1 b L' := ⟨hn, pw_below_grown h.low (some b) h.low.size hg (fun k hk => by have := Option.some.inj hk; have := h.nb; omega), h.nb⟩
structure GB (w0 w W : World) (ga gl b : Nat) (ol : Obj) (L : List Ent) (at_ : Int × Int) : Prop where
  nm : NMap W b L
  low : Below w0.heap.size w0 W
  gr : w.grownBy W (some ga)
  hat : W.heap[ga]? = some (atCell at_.1 at_.2)
  hl : W.heap[gl]? = some ol
  nb : w.heap.size ≤ b
  oa : w0.heap.size ≤ ga
  la : ga < w.heap.size
  ll : gl < w.heap.size
  ne : ga ≠ gl
theorem GB.size {w0 w W : World} {ga gl b : Nat} {ol : Obj} {L : List Ent} {at_ : Int × Int} (h : GB w0 w W ga gl b ol L at_) : w0.heap.size ≤ w.heap.size := by have := h.oa; have := h.la; omega
theorem GB.below {w0 w W W1 : World} {ga gl b : Nat} {ol : Obj} {L : List Ent} {at_ : Int × Int} (h : GB w0 w W ga gl b ol L at_) (hb : Below W.heap.size W W1) : GB w0 w W1 ga gl b ol L at_ :=
 ⟨h.nm.below hb, below_then h.low h.low.size hb, grownT h.gr (grown_of_below hb _), blk_below h.hat hb, blk_below h.hl hb, h.nb, h.oa, h.la, h.ll, h.ne⟩
theorem GB.put {w0 w W W1 : World} {ga gl b g : Nat} {ol : Obj} {L : List Ent} {at_ : Int × Int} {cs : Array Value} {e : TypeId} (h : GB w0 w W ga gl b ol L at_) (hp : Put W W1 g cs e) (hg : w.heap.size ≤ g) (hgb : b ≠ g) : GB w0 w W1 ga gl b ol L at_ :=
 ⟨h.nm.kept (put_grownN hp) (fun e => hgb (Option.some.inj e)), hp.below h.low (by have := h.size; omega), grown_put h.gr hp hg, blk_grown h.hat (put_grownN hp) (fun e => by have := h.la; have := Option.some.inj e; omega), blk_grown h.hl (put_grownN hp) (fun e => by have := h.ll; have := Option.some.inj e; omega), h.nb, h.oa, h.la, h.ll, h.ne⟩
theorem GB.upd {w0 w W W1 : World} {ga gl b : Nat} {ol : Obj} {L L' : List Ent} {at_ : Int × Int} (h : GB w0 w W ga gl b ol L at_) (hn : NMap W1 b L') (hg : W.grownBy W1 (some b)) : GB w0 w W1 ga gl b ol L' at_ :=
  ⟨hn, pw_below_grown h.low (some b) h.low.size hg (fun k hk => by have := Option.some.inj hk; have := h.nb; have := h.size; omega), ⟨hg.os.trans h.gr.os, hg.tape.trans h.gr.tape, hg.output.trans h.gr.output, Nat.le_trans h.gr.size hg.size, fun k hk hne => (hg.block k (Nat.lt_of_lt_of_le hk h.gr.size) (fun e => by have := Option.some.inj e; have := h.nb; omega)).trans (h.gr.block k hk hne)⟩,
   blk_grown h.hat hg (fun e => by have := Option.some.inj e; have := h.la; have := h.nb; omega), blk_grown h.hl hg (fun e => by have := Option.some.inj e; have := h.ll; have := h.nb; omega), h.nb, h.oa, h.la, h.ll, h.ne⟩
theorem GB.at {w0 w W W1 : World} {ga gl b : Nat} {ol : Obj} {L : List Ent} {at_ at2 : Int × Int} (h : GB w0 w W ga gl b ol L at_) (hg : W.grownBy W1 (some ga)) (ha : W1.heap[ga]? = some (atCell at2.1 at2.2)) : GB w0 w W1 ga gl b ol L at2 :=
 ⟨h.nm.kept hg (fun e => by have := Option.some.inj e; have := h.la; have := h.nb; omega), pw_below_grown h.low (some ga) h.low.size hg (fun k hk => by have := Option.some.inj hk; have := h.oa; omega), grownT h.gr hg, ha, blk_grown h.hl hg (fun e => h.ne (Option.some.inj e).symm), h.nb, h.oa, h.la, h.ll, h.ne⟩
set_option maxRecDepth 100000 in
theorem idle.calls (i k : Int) (W : World) : Calls Tryd.prog 68 #[.int .i64 i, .int .i64 k] W fun e w' => e = .returned (.tuple #[]) ∧ w' = W := by
 go_enter Tryd.func68, Tryd.ntmps68
 go_wp2
 refine Go.Great.bodyPost_end0 rfl rfl ?_
 exact ⟨rfl, rfl⟩

set_option maxHeartbeats 4000000 in
set_option maxRecDepth 100000 in
theorem keep.calls (i k : Nat) (a0 a1 : Int) (w0 W : World) (ga gl : Nat) (A0 : Option Addr) (c0 : Nat) (l0 : List ObjT) (hr0 : Kd.C k27 w0 A0 l0.length l0) (hlow : Below w0.heap.size w0 W) (hat : W.heap[ga]? = some (atCell a0 a1)) (hl : W.heap[gl]? = some (lCell A0 l0.length c0)) (hi : i < l0.length) (hk : k < (ob l0 i).f4.length) (hi2 : l0.length ≤ 1000000) :
  Calls Tryd.prog 66 #[.int .i64 (i : Int), .int .i64 (k : Int), .pointer (some ⟨ga, 0, none⟩), .pointer (some ⟨gl, 0, none⟩)] W fun e w' => e = .returned (.tuple #[]) ∧ W.grownBy w' (some ga) ∧ AtIs w' ga (keepV a0 a1 (i : Int) (k : Int) (sy (ob l0 i).f4 k).f1) := by
 have hu1 := Tryd.underlying27
 have hu2 := Tryd.underlying75
 have hu3 := Tryd.underlying130
 have HA := Aside0.mk hat
 have hca0 := blk_cell HA.out 0
 have hca1 := blk_cell HA.out 1
 clear hat
 by_cases c : a0 < 0
 ·
  have cb : decide (a0 < 0) = true := decide_eq_true c
  have HCC := Aside0.mk c
  clear c
  have hcl := blk_cell hl 0
  have p0 : (0 : Int) ≤ (i : Int) := by omega
  have q0 : (i : Int) < (l0.length : Int) := by omega
  obtain ⟨ad, A1, c1, A3, c3, A4, c4, A5, c5, eA, _, _, _, _, hx4, _, _, _, _, _, _, hC4, _, _⟩ := at_T27 hr0 (i : Int) p0 q0
  subst eA
  rw [show ((i : Int)).toNat = i by omega] at hx4
  rw [show rd_T27 l0 (i : Int) = ob l0 i from rfl] at hx4 hC4
  have p1 : (0 : Int) ≤ (k : Int) := by omega
  have q1 : (k : Int) < ((ob l0 i).f4.length : Int) := by omega
  obtain ⟨as_, eS, _, hy1, _⟩ := at_T75 hC4 (k : Int) p1 q1
  subst eS
  rw [show ((k : Int)).toNat = k by omega] at hy1
  rw [show rd_T75 (ob l0 i).f4 (k : Int) = sy (ob l0 i).f4 k from rfl] at hy1
  have hz4 := pw_cell_below hlow hx4
  have hz1 := pw_cell_below hlow hy1
  clear hx4 hy1 hC4 hl hr0 hlow
  generalize (ob l0 i).f4 = sl at hz4 hz1 q1 hk ⊢
  generalize sy sl k = s at hz1 ⊢
  obtain ⟨s0, s1, s2⟩ := s
  simp only at hz1
  have ti : ((i : Int)).toNat = i := by omega
  have tk : ((k : Int)).toNat = k := by omega
  replace p0 := eq_true p0
  replace q0 := eq_true q0
  replace p1 := eq_true p1
  replace q1 := eq_true q1
  by_cases c2 : s1 = 1
  ·
   subst c2
   go_enter Tryd.func66, Tryd.ntmps66
   go_wp2_with (first | ((with_reducible refine gate_store (t := 130) rfl ?_); refine wpList_store_whole rfl rfl rfl ga _ #[.int .i64 (i : Int), .int .i64 (k : Int)] _ rfl rfl HA.out (by kernel_rfl) rfl (at_one _ _) ?_; intro w9 hp; have HG := Aside0.mk (put_grownN hp); have HP := Aside0.mk hp.blk; clear hp))
   refine Go.Great.bodyPost_end0 rfl rfl ?_
   exact ⟨rfl, HG.out, by unfold AtIs keepV; rw [if_pos HCC.out, if_pos rfl]; exact HP.out⟩
  ·
   have c2b : (s1 == 1) = false := beq_eq_false_iff_ne.mpr c2
   have HC2 := Aside0.mk c2
   clear c2
   go_enter Tryd.func66, Tryd.ntmps66
   go_wp2
   refine Go.Great.bodyPost_end0 rfl rfl ?_
   exact ⟨rfl, grown_of_below (Below.refl _ _) _, by unfold AtIs keepV; rw [if_pos HCC.out, if_neg HC2.out]; exact HA.out⟩
 ·
  have cb : decide (a0 < 0) = false := decide_eq_false c
  have HCC := Aside0.mk c
  clear c
  go_enter Tryd.func66, Tryd.ntmps66
  go_wp2
  refine Go.Great.bodyPost_end0 rfl rfl ?_
  exact ⟨rfl, grown_of_below (Below.refl _ _) _, by unfold AtIs keepV; rw [if_neg (show ¬ a0 < 0 by have := HCC.out; omega)]; exact HA.out⟩

set_option maxHeartbeats 8000000 in
set_option maxRecDepth 100000 in
theorem gatherA.calls (A0 : Option Addr) (c0 : Nat) (l0 : List ObjT) (w : World) (hr0 : Kd.C k27 w A0 l0.length l0) (hlen : l0.length ≤ 1000000) (hsy : ∀ i, i < l0.length → (ob l0 i).f4.length ≤ 1000000000) :
  Calls Tryd.prog 65 #[.slice A0 l0.length c0, .func (.func 68) #[] #[]] w fun e w' => ∃ b, e = .returned (.map (some b)) ∧ NMap w' b (gObj l0 l0.length) ∧ Below w.heap.size w w' := by
 have hu1 := Tryd.underlying27
 have hu2 := Tryd.underlying75
 have HR := Aside0.mk hr0
 have HSY := Aside0.mk hsy
 clear hr0 hsy
 go_enter Tryd.func65, Tryd.ntmps65
 go_wp2_with (first | ((with_reducible refine gate_dst (N := 10) rfl ?_); refine wpList_make_names ?hg (N := 10) ?hd ?ho ?hr ?_; (case hd => rfl); (case hg => rfl); (case ho => rfl); (case hr => first | (go_simp; done) | (go_simp; rfl)); intro b hgb w1 hs0 hb; have HG := Aside0.mk (show GA w w1 b [] from ⟨hs0, hb, by rw [hgb]; exact Nat.le_refl _⟩); clear hs0 hb hgb))
 go_loopw [13] (fun u13 wr => ∃ i : Nat, u13 = .int .i64 (i : Int) ∧ i ≤ l0.length ∧ Aside0 (GA w wr b (gObj l0 i))) (fun u13 _ => l0.length - (intOf u13).toNat)
 case atStart => exact ⟨0, rfl, Nat.zero_le _, HG⟩
 case round =>
  clear HG
  obtain ⟨i, rfl, hile, HG⟩ := hrel
  by_cases hlt : i < l0.length
  ·
   have hgo : gObj l0 (i + 1) = gSym (gObj l0 i) (ob l0 i).f4 (i : Int) (ob l0 i).f4.length := rfl
   have p0 : (0 : Int) ≤ (i : Int) := by omega
   have q0 : (i : Int) < (l0.length : Int) := by omega
   obtain ⟨ad, A1, c1, A3, c3, A4, c4, A5, c5, eA, hx0, hx1, hx2, hx3, hx4, hx5, _, _, _, _, _, hC4, _, _⟩ := at_T27 HR.out (i : Int) p0 q0
   subst eA
   rw [show ((i : Int)).toNat = i by omega] at hx0 hx1 hx2 hx3 hx4 hx5
   rw [show rd_T27 l0 (i : Int) = ob l0 i from rfl] at hx0 hx1 hx2 hx3 hx4 hx5 hC4
   have hy0 := pw_cell_below HG.out.low hx0
   have hy1 := pw_cell_below HG.out.low hx1
   have hy2 := pw_cell_below HG.out.low hx2
   have hy3 := pw_cell_below HG.out.low hx3
   have hy4 := pw_cell_below HG.out.low hx4
   have hy5 := pw_cell_below HG.out.low hx5
   clear hx0 hx1 hx2 hx3 hx4 hx5
   have hsl := HSY.out i hlt
   have HLT := Aside0.mk hlt
   have HOB : Aside0 (∃ x, ob l0 i = x) := ⟨⟨_, rfl⟩⟩
   obtain ⟨x, hx⟩ := HOB.out
   have HX := Aside0.mk hx
   clear HOB
   rw [hx] at hy0 hy1 hy2 hy3 hy4 hy5 hC4 hgo hsl
   obtain ⟨x0, x1, x2, x3, x4, x5⟩ := x
   simp only at hy0 hy1 hy2 hy3 hy4 hy5 hC4 hgo hsl
   clear hx
   have HGO := Aside0.mk hgo
   have HC4 := Aside0.mk hC4
   clear hgo hC4
   have hltb : decide ((i : Int) < (l0.length : Int)) = true := decide_eq_true (by omega)
   have hwr : wrap64 ((i : Int) + 1) = ((i + 1 : Nat) : Int) := by rw [wrap64_id (by omega) (by omega)]; rfl
   have HWR := Aside0.mk hwr
   clear hwr
   replace p0 := eq_true p0
   replace q0 := eq_true q0
   go_wp2_with (first | ((with_reducible refine gate_dst (N := 7) rfl ?_); refine box_event ?hg (N := 7) ?hd (cs := #[.string (⟨#[]⟩ : ByteArray), .slice none 0 0, .int .i64 0, .slice none 0 0, .slice none 0 0, .slice none 0 0]) (t := 27) ?hr ?_; (case hd => rfl); (case hg => rfl); (case hr => first | (go_simp; done) | (go_simp; rfl)); intro go hgo2 w2 BK2 hb2; have BO := Aside0.mk BK2; have GO := Aside0.mk (show w.heap.size ≤ go by rw [hgo2]; exact HG.out.low.size); have NO := Aside0.mk (show b < go by rw [hgo2]; exact HG.out.nm.lt); replace HG := Aside0.mk (HG.out.below hb2); clear BK2 hb2 hgo2) | ((with_reducible refine gate_store (t := 27) rfl ?_); refine wpList_store_whole rfl rfl rfl go _ #[.string x0, .slice A1 x1.length c1, .int .i64 x2, .slice A3 x3.length c3, .slice A4 x4.length c4, .slice A5 x5.length c5] _ rfl rfl BO.out (by kernel_rfl) rfl (obj_oneS _ _ _ _ _ _ _ _ _ _ _ _ _ _) ?_; intro w3 hp; replace HG := Aside0.mk (HG.out.put hp GO.out (by have := NO.out; omega)); replace BO := Aside0.mk hp.blk; clear hp; have ho0 := blk_cell BO.out 0; have ho4 := blk_cell BO.out 4))
   go_loopw [21] (fun u21 wr => ∃ j : Nat, u21 = .int .i64 (j : Int) ∧ j ≤ x4.length ∧ Aside0 (GA w wr b (gSym (gObj l0 i) x4 (i : Int) j))) (fun u21 _ => x4.length - (intOf u21).toNat)
   case atStart => exact ⟨0, rfl, Nat.zero_le _, HG⟩
   case round =>
    clear HG ho0 ho4 BO hy0 hy1 hy2 hy3 hy4 hy5
    obtain ⟨j, rfl, hjle, HG⟩ := hrel
    by_cases hlt2 : j < x4.length
    ·
     have hgs : gSym (gObj l0 i) x4 (i : Int) (j + 1) = putL (gSym (gObj l0 i) x4 (i : Int) j) (sy x4 j).f0 (sy x4 j).f1 (sy x4 j).f2 (i : Int) := rfl
     have p1 : (0 : Int) ≤ (j : Int) := by omega
     have q1 : (j : Int) < (x4.length : Int) := by omega
     obtain ⟨as_, eS, hz0, hz1, hz2⟩ := at_T75 HC4.out (j : Int) p1 q1
     subst eS
     rw [show ((j : Int)).toNat = j by omega] at hz0 hz1 hz2
     rw [show rd_T75 x4 (j : Int) = sy x4 j from rfl] at hz0 hz1 hz2
     have hw0 := pw_cell_below HG.out.low hz0
     have hw1 := pw_cell_below HG.out.low hz1
     have hw2 := pw_cell_below HG.out.low hz2
     clear hz0 hz1 hz2
     obtain ⟨sv, hsv⟩ : ∃ sv, sy x4 j = sv := ⟨_, rfl⟩
     rw [hsv] at hw0 hw1 hw2 hgs
     have HSV := Aside0.mk hsv
     clear hsv
     obtain ⟨sn, sk, sa⟩ := sv
     simp only at hw0 hw1 hw2 hgs
     obtain ⟨L1, hL1⟩ : ∃ L1, gSym (gObj l0 i) x4 (i : Int) j = L1 := ⟨_, rfl⟩
     rw [hL1] at HG hgs
     clear hL1
     have HGS := Aside0.mk hgs
     clear hgs
     have hltb2 : decide ((j : Int) < (x4.length : Int)) = true := decide_eq_true (by omega)
     have hwr2 : wrap64 ((j : Int) + 1) = ((j + 1 : Nat) : Int) := by rw [wrap64_id (by omega) (by omega)]; rfl
     have HWR2 := Aside0.mk hwr2
     clear hwr2
     replace p1 := eq_true p1
     replace q1 := eq_true q1
     have HL2 := Aside0.mk hlt2
     obtain ⟨pb, hpb⟩ : ∃ pb, putB L1 sn sk = pb := ⟨_, rfl⟩
     have HPB := Aside0.mk hpb
     clear hpb
     cases pb with
     | false =>
      go_wp2_with (first | ((with_reducible refine gate_dst (N := 9) rfl ?_); refine box_event ?hg (N := 9) ?hd (cs := #[.string (⟨#[]⟩ : ByteArray), .int .i8 0, .int .i64 0]) (t := 75) ?hr ?_; (case hd => rfl); (case hg => rfl); (case hr => first | (go_simp; done) | (go_simp; rfl)); intro gs hgs2 w4 BK4 hb4; have BS := Aside0.mk BK4; have GS := Aside0.mk (show w.heap.size ≤ gs by rw [hgs2]; exact HG.out.low.size); have NS := Aside0.mk (show b < gs by rw [hgs2]; exact HG.out.nm.lt); replace HG := Aside0.mk (HG.out.below hb4); clear BK4 hb4 hgs2) | ((with_reducible refine gate_store (t := 75) rfl ?_); refine wpList_store_whole rfl rfl rfl gs _ #[.string sn, .int .i8 sk, .int .i64 sa] _ rfl rfl BS.out (by kernel_rfl) rfl (sym_one _ _ _) ?_; intro w5 hp; replace HG := Aside0.mk (HG.out.put hp GS.out (by have := NS.out; omega)); replace BS := Aside0.mk hp.blk; clear hp; have hs0 := blk_cell BS.out 0; have hs1 := blk_cell BS.out 1; have hs2 := blk_cell BS.out 2) | (go_at_call 78; refine (put.calls sn sk sa (i : Int) _ b L1 HG.out.nm).mono ?_; rintro e w6 ⟨rfl, hn, hg⟩; replace HG := Aside0.mk (HG.out.upd hn hg); clear BS hn hg hs0 hs1 hs2; rw [HPB.out]))
      go_roundw
      case measure => have hq := HL2.out; (try rw [HWR2.out]); simp only [intOf]; omega
      case rel => exact ⟨j + 1, by first | rfl | (rw [HWR2.out]; done), by have := HL2.out; omega, ⟨by rw [HGS.out]; exact HG.out⟩⟩
     | true =>
      go_wp2_with (first | ((with_reducible refine gate_dst (N := 9) rfl ?_); refine box_event ?hg (N := 9) ?hd (cs := #[.string (⟨#[]⟩ : ByteArray), .int .i8 0, .int .i64 0]) (t := 75) ?hr ?_; (case hd => rfl); (case hg => rfl); (case hr => first | (go_simp; done) | (go_simp; rfl)); intro gs hgs2 w4 BK4 hb4; have BS := Aside0.mk BK4; have GS := Aside0.mk (show w.heap.size ≤ gs by rw [hgs2]; exact HG.out.low.size); have NS := Aside0.mk (show b < gs by rw [hgs2]; exact HG.out.nm.lt); replace HG := Aside0.mk (HG.out.below hb4); clear BK4 hb4 hgs2) | ((with_reducible refine gate_store (t := 75) rfl ?_); refine wpList_store_whole rfl rfl rfl gs _ #[.string sn, .int .i8 sk, .int .i64 sa] _ rfl rfl BS.out (by kernel_rfl) rfl (sym_one _ _ _) ?_; intro w5 hp; replace HG := Aside0.mk (HG.out.put hp GS.out (by have := NS.out; omega)); replace BS := Aside0.mk hp.blk; clear hp; have hs0 := blk_cell BS.out 0; have hs1 := blk_cell BS.out 1; have hs2 := blk_cell BS.out 2) | (go_at_call 78; refine (put.calls sn sk sa (i : Int) _ b L1 HG.out.nm).mono ?_; rintro e w6 ⟨rfl, hn, hg⟩; replace HG := Aside0.mk (HG.out.upd hn hg); clear BS hn hg hs0 hs1 hs2; rw [HPB.out]) | (go_at_call 68; refine (idle.calls _ _ _).mono ?_; rintro e w7 ⟨rfl, rfl⟩))
      go_roundw
      case measure => have hq := HL2.out; (try rw [HWR2.out]); simp only [intOf]; omega
      case rel => exact ⟨j + 1, by first | rfl | (rw [HWR2.out]; done), by have := HL2.out; omega, ⟨by rw [HGS.out]; exact HG.out⟩⟩
    ·
     have hj0 : j = x4.length := by omega
     subst hj0
     have hltb2 : decide ((x4.length : Int) < (x4.length : Int)) = false := by simp
     clear hlt2 hjle
     go_wp2
     go_roundw
     case measure => have hq := HLT.out; (try rw [HWR.out]); simp only [intOf]; omega
     case rel => exact ⟨i + 1, by first | rfl | (rw [HWR.out]; done), by have := HLT.out; omega, ⟨by rw [HGO.out]; exact HG.out⟩⟩
  ·
   have hi0 : i = l0.length := by omega
   subst hi0
   have hltb : decide ((l0.length : Int) < (l0.length : Int)) = false := by simp
   clear hlt hile
   go_wp2
   go_ret
   exact ⟨b, rfl, HG.out.nm, HG.out.low⟩
set_option maxHeartbeats 8000000 in
set_option maxRecDepth 100000 in
theorem gatherB.calls (w0 : World) (ga gl : Nat) (A0 : Option Addr) (c0 : Nat) (l0 : List ObjT) (w : World) (hr0 : Kd.C k27 w0 A0 l0.length l0) (hlow : Below w0.heap.size w0 w) (hat : w.heap[ga]? = some (atCell (-1) (-1))) (hl : w.heap[gl]? = some (lCell A0 l0.length c0)) (hoa : w0.heap.size ≤ ga) (hne : ga ≠ gl) (hlen : l0.length ≤ 1000000) (hsy : ∀ i, i < l0.length → (ob l0 i).f4.length ≤ 1000000000) :
  Calls Tryd.prog 65 #[.slice A0 l0.length c0, .func (.func 66) #[] #[.pointer (some ⟨ga, 0, none⟩), .pointer (some ⟨gl, 0, none⟩)]] w fun e w' => ∃ b, e = .returned (.map (some b)) ∧ GB w0 w w' ga gl b (lCell A0 l0.length c0) (gObj l0 l0.length) (aObj l0 l0.length) := by
 have hu1 := Tryd.underlying27
 have hu2 := Tryd.underlying75
 have HR := Aside0.mk hr0
 have HSY := Aside0.mk hsy
 clear hr0 hsy
 have HLW := Aside0.mk hlow
 have HAT := Aside0.mk hat
 have HLL := Aside0.mk hl
 have HOA := Aside0.mk hoa
 have HNE := Aside0.mk hne
 clear hlow hat hl hoa hne
 go_enter Tryd.func65, Tryd.ntmps65
 go_wp2_with (first | ((with_reducible refine gate_dst (N := 10) rfl ?_); refine wpList_make_names ?hg (N := 10) ?hd ?ho ?hr ?_; (case hd => rfl); (case hg => rfl); (case ho => rfl); (case hr => first | (go_simp; done) | (go_simp; rfl)); intro b hgb w1 hs0 hb; have HG := Aside0.mk (show GB w0 w w1 ga gl b (lCell A0 l0.length c0) [] (-1, -1) from ⟨hs0, below_then HLW.out HLW.out.size hb, grown_of_below hb _, blk_below HAT.out hb, blk_below HLL.out hb, by rw [hgb]; exact Nat.le_refl _, HOA.out, blk_lt HAT.out, blk_lt HLL.out, HNE.out⟩); clear hs0 hb hgb))
 go_loopw [13] (fun u13 wr => ∃ i : Nat, u13 = .int .i64 (i : Int) ∧ i ≤ l0.length ∧ Aside0 (GB w0 w wr ga gl b (lCell A0 l0.length c0) (gObj l0 i) (aObj l0 i))) (fun u13 _ => l0.length - (intOf u13).toNat)
 case atStart => exact ⟨0, rfl, Nat.zero_le _, HG⟩
 case round =>
  clear HG
  obtain ⟨i, rfl, hile, HG⟩ := hrel
  by_cases hlt : i < l0.length
  ·
   have hgo : gObj l0 (i + 1) = gSym (gObj l0 i) (ob l0 i).f4 (i : Int) (ob l0 i).f4.length := rfl
   have hao : aObj l0 (i + 1) = aSym (aObj l0 i) (gObj l0 i) (ob l0 i).f4 (i : Int) (ob l0 i).f4.length := rfl
   have p0 : (0 : Int) ≤ (i : Int) := by omega
   have q0 : (i : Int) < (l0.length : Int) := by omega
   obtain ⟨ad, A1, c1, A3, c3, A4, c4, A5, c5, eA, hx0, hx1, hx2, hx3, hx4, hx5, _, _, _, _, _, hC4, _, _⟩ := at_T27 HR.out (i : Int) p0 q0
   subst eA
   rw [show ((i : Int)).toNat = i by omega] at hx0 hx1 hx2 hx3 hx4 hx5
   rw [show rd_T27 l0 (i : Int) = ob l0 i from rfl] at hx0 hx1 hx2 hx3 hx4 hx5 hC4
   have hy0 := pw_cell_below HG.out.low hx0
   have hy1 := pw_cell_below HG.out.low hx1
   have hy2 := pw_cell_below HG.out.low hx2
   have hy3 := pw_cell_below HG.out.low hx3
   have hy4 := pw_cell_below HG.out.low hx4
   have hy5 := pw_cell_below HG.out.low hx5
   clear hx0 hx1 hx2 hx3 hx4 hx5
   have hsl := HSY.out i hlt
   have HLT := Aside0.mk hlt
   have HIX := Aside0.mk (show ∀ k, k < (ob l0 i).f4.length → k < (ob l0 i).f4.length from fun k h => h)
   have HOB : Aside0 (∃ x, ob l0 i = x) := ⟨⟨_, rfl⟩⟩
   obtain ⟨x, hx⟩ := HOB.out
   have HX := Aside0.mk hx
   clear HOB
   rw [hx] at hy0 hy1 hy2 hy3 hy4 hy5 hC4 hgo hsl hao
   obtain ⟨x0, x1, x2, x3, x4, x5⟩ := x
   simp only at hy0 hy1 hy2 hy3 hy4 hy5 hC4 hgo hsl hao
   clear hx
   have HGO := Aside0.mk hgo
   have HC4 := Aside0.mk hC4
   clear hgo hC4
   have HAO := Aside0.mk hao
   clear hao
   have hltb : decide ((i : Int) < (l0.length : Int)) = true := decide_eq_true (by omega)
   have hwr : wrap64 ((i : Int) + 1) = ((i + 1 : Nat) : Int) := by rw [wrap64_id (by omega) (by omega)]; rfl
   have HWR := Aside0.mk hwr
   clear hwr
   replace p0 := eq_true p0
   replace q0 := eq_true q0
   go_wp2_with (first | ((with_reducible refine gate_dst (N := 7) rfl ?_); refine box_event ?hg (N := 7) ?hd (cs := #[.string (⟨#[]⟩ : ByteArray), .slice none 0 0, .int .i64 0, .slice none 0 0, .slice none 0 0, .slice none 0 0]) (t := 27) ?hr ?_; (case hd => rfl); (case hg => rfl); (case hr => first | (go_simp; done) | (go_simp; rfl)); intro go hgo2 w2 BK2 hb2; have BO := Aside0.mk BK2; have GO := Aside0.mk (show w.heap.size ≤ go by rw [hgo2]; exact HG.out.gr.size); have NO := Aside0.mk (show b < go by rw [hgo2]; exact HG.out.nm.lt); replace HG := Aside0.mk (HG.out.below hb2); clear BK2 hb2 hgo2) | ((with_reducible refine gate_store (t := 27) rfl ?_); refine wpList_store_whole rfl rfl rfl go _ #[.string x0, .slice A1 x1.length c1, .int .i64 x2, .slice A3 x3.length c3, .slice A4 x4.length c4, .slice A5 x5.length c5] _ rfl rfl BO.out (by kernel_rfl) rfl (obj_oneS _ _ _ _ _ _ _ _ _ _ _ _ _ _) ?_; intro w3 hp; replace HG := Aside0.mk (HG.out.put hp GO.out (by have := NO.out; omega)); replace BO := Aside0.mk hp.blk; clear hp; have ho0 := blk_cell BO.out 0; have ho4 := blk_cell BO.out 4))
   go_loopw [21] (fun u21 wr => ∃ j : Nat, u21 = .int .i64 (j : Int) ∧ j ≤ x4.length ∧ Aside0 (GB w0 w wr ga gl b (lCell (some ad) l0.length c0) (gSym (gObj l0 i) x4 (i : Int) j) (aSym (aObj l0 i) (gObj l0 i) x4 (i : Int) j))) (fun u21 _ => x4.length - (intOf u21).toNat)
   case atStart => exact ⟨0, rfl, Nat.zero_le _, HG⟩
   case round =>
    clear HG ho0 ho4 BO hy0 hy1 hy2 hy3 hy4 hy5
    obtain ⟨j, rfl, hjle, HG⟩ := hrel
    by_cases hlt2 : j < x4.length
    ·
     have hgs : gSym (gObj l0 i) x4 (i : Int) (j + 1) = putL (gSym (gObj l0 i) x4 (i : Int) j) (sy x4 j).f0 (sy x4 j).f1 (sy x4 j).f2 (i : Int) := rfl
     have has : aSym (aObj l0 i) (gObj l0 i) x4 (i : Int) (j + 1) = atStep (aSym (aObj l0 i) (gObj l0 i) x4 (i : Int) j) (gSym (gObj l0 i) x4 (i : Int) j) (sy x4 j) (i : Int) (j : Int) := rfl
     have p1 : (0 : Int) ≤ (j : Int) := by omega
     have q1 : (j : Int) < (x4.length : Int) := by omega
     obtain ⟨as_, eS, hz0, hz1, hz2⟩ := at_T75 HC4.out (j : Int) p1 q1
     subst eS
     rw [show ((j : Int)).toNat = j by omega] at hz0 hz1 hz2
     rw [show rd_T75 x4 (j : Int) = sy x4 j from rfl] at hz0 hz1 hz2
     have hw0 := pw_cell_below HG.out.low hz0
     have hw1 := pw_cell_below HG.out.low hz1
     have hw2 := pw_cell_below HG.out.low hz2
     clear hz0 hz1 hz2
     obtain ⟨sv, hsv⟩ : ∃ sv, sy x4 j = sv := ⟨_, rfl⟩
     rw [hsv] at hw0 hw1 hw2 hgs has
     have HSV := Aside0.mk hsv
     clear hsv
     obtain ⟨sn, sk, sa⟩ := sv
     simp only at hw0 hw1 hw2 hgs
     obtain ⟨L1, hL1⟩ : ∃ L1, gSym (gObj l0 i) x4 (i : Int) j = L1 := ⟨_, rfl⟩
     rw [hL1] at HG hgs has
     clear hL1
     have HGS := Aside0.mk hgs
     clear hgs
     obtain ⟨a2, ha2⟩ : ∃ a2, aSym (aObj l0 i) (gObj l0 i) x4 (i : Int) j = a2 := ⟨_, rfl⟩
     rw [ha2] at HG has
     clear ha2
     have HAS := Aside0.mk has
     clear has
     have hltb2 : decide ((j : Int) < (x4.length : Int)) = true := decide_eq_true (by omega)
     have hwr2 : wrap64 ((j : Int) + 1) = ((j + 1 : Nat) : Int) := by rw [wrap64_id (by omega) (by omega)]; rfl
     have HWR2 := Aside0.mk hwr2
     clear hwr2
     replace p1 := eq_true p1
     replace q1 := eq_true q1
     have HL2 := Aside0.mk hlt2
     obtain ⟨pb, hpb⟩ : ∃ pb, putB L1 sn sk = pb := ⟨_, rfl⟩
     have HPB := Aside0.mk hpb
     clear hpb
     cases pb with
     | false =>
      have HAT2 := Aside0.mk (show atStep a2 L1 ⟨sn, sk, sa⟩ (i : Int) (j : Int) = a2 by unfold atStep; rw [if_neg (by rw [HPB.out]; decide)])
      go_wp2_with (first | ((with_reducible refine gate_dst (N := 9) rfl ?_); refine box_event ?hg (N := 9) ?hd (cs := #[.string (⟨#[]⟩ : ByteArray), .int .i8 0, .int .i64 0]) (t := 75) ?hr ?_; (case hd => rfl); (case hg => rfl); (case hr => first | (go_simp; done) | (go_simp; rfl)); intro gs hgs2 w4 BK4 hb4; have BS := Aside0.mk BK4; have GS := Aside0.mk (show w.heap.size ≤ gs by rw [hgs2]; exact HG.out.gr.size); have NS := Aside0.mk (show b < gs by rw [hgs2]; exact HG.out.nm.lt); replace HG := Aside0.mk (HG.out.below hb4); clear BK4 hb4 hgs2) | ((with_reducible refine gate_store (t := 75) rfl ?_); refine wpList_store_whole rfl rfl rfl gs _ #[.string sn, .int .i8 sk, .int .i64 sa] _ rfl rfl BS.out (by kernel_rfl) rfl (sym_one _ _ _) ?_; intro w5 hp; replace HG := Aside0.mk (HG.out.put hp GS.out (by have := NS.out; omega)); replace BS := Aside0.mk hp.blk; clear hp; have hs0 := blk_cell BS.out 0; have hs1 := blk_cell BS.out 1; have hs2 := blk_cell BS.out 2) | (go_at_call 78; refine (put.calls sn sk sa (i : Int) _ b L1 HG.out.nm).mono ?_; rintro e w6 ⟨rfl, hn, hg⟩; replace HG := Aside0.mk (HG.out.upd hn hg); clear BS hn hg hs0 hs1 hs2; rw [HPB.out]))
      go_roundw
      case measure => have hq := HL2.out; (try rw [HWR2.out]); simp only [intOf]; omega
      case rel => exact ⟨j + 1, by first | rfl | (rw [HWR2.out]; done), by have := HL2.out; omega, ⟨by rw [HGS.out, HAS.out, HAT2.out]; exact HG.out⟩⟩
     | true =>
      have HAT2 := Aside0.mk (show atStep a2 L1 ⟨sn, sk, sa⟩ (i : Int) (j : Int) = keepV a2.1 a2.2 (i : Int) (j : Int) (sy (ob l0 i).f4 j).f1 by unfold atStep keepV; rw [if_pos HPB.out, HX.out, show sy (⟨x0, x1, x2, x3, x4, x5⟩ : ObjT).f4 j = (⟨sn, sk, sa⟩ : Sym) from HSV.out])
      go_wp2_with (first | ((with_reducible refine gate_dst (N := 9) rfl ?_); refine box_event ?hg (N := 9) ?hd (cs := #[.string (⟨#[]⟩ : ByteArray), .int .i8 0, .int .i64 0]) (t := 75) ?hr ?_; (case hd => rfl); (case hg => rfl); (case hr => first | (go_simp; done) | (go_simp; rfl)); intro gs hgs2 w4 BK4 hb4; have BS := Aside0.mk BK4; have GS := Aside0.mk (show w.heap.size ≤ gs by rw [hgs2]; exact HG.out.gr.size); have NS := Aside0.mk (show b < gs by rw [hgs2]; exact HG.out.nm.lt); replace HG := Aside0.mk (HG.out.below hb4); clear BK4 hb4 hgs2) | ((with_reducible refine gate_store (t := 75) rfl ?_); refine wpList_store_whole rfl rfl rfl gs _ #[.string sn, .int .i8 sk, .int .i64 sa] _ rfl rfl BS.out (by kernel_rfl) rfl (sym_one _ _ _) ?_; intro w5 hp; replace HG := Aside0.mk (HG.out.put hp GS.out (by have := NS.out; omega)); replace BS := Aside0.mk hp.blk; clear hp; have hs0 := blk_cell BS.out 0; have hs1 := blk_cell BS.out 1; have hs2 := blk_cell BS.out 2) | (go_at_call 78; refine (put.calls sn sk sa (i : Int) _ b L1 HG.out.nm).mono ?_; rintro e w6 ⟨rfl, hn, hg⟩; replace HG := Aside0.mk (HG.out.upd hn hg); clear BS hn hg hs0 hs1 hs2; rw [HPB.out]) | (go_at_call 66; refine (keep.calls i j a2.1 a2.2 w0 _ ga gl _ c0 l0 HR.out HG.out.low HG.out.hat HG.out.hl HLT.out (by rw [HX.out]; exact HL2.out) (by assumption)).mono ?_; rintro e w7 ⟨rfl, hg, hat2⟩; replace HG := Aside0.mk (HG.out.at hg hat2); clear hg hat2))
      go_roundw
      case measure => have hq := HL2.out; (try rw [HWR2.out]); simp only [intOf]; omega
      case rel => exact ⟨j + 1, by first | rfl | (rw [HWR2.out]; done), by have := HL2.out; omega, ⟨by rw [HGS.out, HAS.out, HAT2.out]; exact HG.out⟩⟩
    ·
     have hj0 : j = x4.length := by omega
     subst hj0
     have hltb2 : decide ((x4.length : Int) < (x4.length : Int)) = false := by simp
     clear hlt2 hjle
     go_wp2
     go_roundw
     case measure => have hq := HLT.out; (try rw [HWR.out]); simp only [intOf]; omega
     case rel => exact ⟨i + 1, by first | rfl | (rw [HWR.out]; done), by have := HLT.out; omega, ⟨by rw [HGO.out, HAO.out]; exact HG.out⟩⟩
  ·
   have hi0 : i = l0.length := by omega
   subst hi0
   have hltb : decide ((l0.length : Int) < (l0.length : Int)) = false := by simp
   clear hlt hile
   go_wp2
   go_ret
   exact ⟨b, rfl, HG.out⟩
end Go.Proofs.YtiaohbbafaaibabDoor.P

/- OWN TEXT: link.layout's iterator: its contract, in a fence. -/
namespace Go.Proofs.YtiaohbbafaaibabDoor.P
open Go.RowKit Go.Shelf Go.Maps Go.Proofs.YtiaohbbafaaibabDoorW.PrintWords Go.Proofs.YtiaohbbafaaibabDoorW.PrintLast Go.Proofs.YtiaohbbafaaibabDoorW.PrintMore Go.Proofs.YtiaohbbafaaibabDoor.Arr
set_option linter.unusedVariables false
set_option linter.unusedSimpArgs false
attribute [local go_sem] Oper.semAt_some
def baseL (l : List ObjT) : Nat → Nat
 | 0 => 0
 | i + 1 => baseL l i + (ob l i).f1.length + 1
structure Par where
  A1 : Option Addr
  c1 : Nat
  A3 : Option Addr
  c3 : Nat
  A4 : Option Addr
  c4 : Nat
  A5 : Option Addr
  c5 : Nat
def objV (x : ObjT) (p : Par) : Array Value := #[.string x.f0, .slice p.A1 x.f1.length p.c1, .int .i64 x.f2, .slice p.A3 x.f3.length p.c3, .slice p.A4 x.f4.length p.c4, .slice p.A5 x.f5.length p.c5]
structure ParOK (w : World) (A : Option Addr) (x : ObjT) (i : Nat) (p : Par) : Prop where
  ad : ∃ ad, A = some ad ∧ w.cell? (ad.add (i * 6)) = some (.string x.f0) ∧ w.cell? ⟨(ad.add (i * 6)).block, (ad.add (i * 6)).off + 1, none⟩ = some (.slice p.A1 x.f1.length p.c1) ∧ w.cell? ⟨(ad.add (i * 6)).block, (ad.add (i * 6)).off + 2, none⟩ = some (.int .i64 x.f2) ∧ w.cell? ⟨(ad.add (i * 6)).block, (ad.add (i * 6)).off + 3, none⟩ = some (.slice p.A3 x.f3.length p.c3) ∧ w.cell? ⟨(ad.add (i * 6)).block, (ad.add (i * 6)).off + 4, none⟩ = some (.slice p.A4 x.f4.length p.c4) ∧ w.cell? ⟨(ad.add (i * 6)).block, (ad.add (i * 6)).off + 5, none⟩ = some (.slice p.A5 x.f5.length p.c5)
  r1 : x.f1.length ≤ p.c1 ∧ (Kd.int .u32).C w p.A1 x.f1.length x.f1
  r3 : x.f3.length ≤ p.c3 ∧ (Kd.int .i64).C w p.A3 x.f3.length x.f3
  r4 : x.f4.length ≤ p.c4 ∧ k75.C w p.A4 x.f4.length x.f4
  r5 : x.f5.length ≤ p.c5 ∧ k68.C w p.A5 x.f5.length x.f5
theorem pars {w : World} {A : Option Addr} {l : List ObjT} (h : Kd.C k27 w A l.length l) : ∃ P : Nat → Par, ∀ i, i < l.length → ParOK w A (ob l i) i (P i) := by
 have h1 : ∀ i : Nat, ∃ p : Par, i < l.length → ParOK w A (ob l i) i p := fun i => by
  by_cases hi : i < l.length
  ·
   obtain ⟨ad, A1, c1, A3, c3, A4, c4, A5, c5, eA, hx0, hx1, hx2, hx3, hx4, hx5, l1, g1, l3, g3, l4, g4, l5, g5⟩ := at_T27 h (i : Int) (by omega) (by omega)
   exact ⟨⟨A1, c1, A3, c3, A4, c4, A5, c5⟩, fun _ => ⟨⟨ad, eA, hx0, hx1, hx2, hx3, hx4, hx5⟩, ⟨l1, g1⟩, ⟨l3, g3⟩, ⟨l4, g4⟩, ⟨l5, g5⟩⟩⟩
  ·
   exact ⟨⟨none, 0, none, 0, none, 0, none, 0⟩, fun h => absurd h hi⟩
 exact ⟨fun i => Classical.choose (h1 i), fun i hi => Classical.choose_spec (h1 i) hi⟩
theorem baseL_le {l : List ObjT} (hc : ∀ i, i < l.length → (ob l i).f1.length ≤ 1000000000) : ∀ i, i ≤ l.length → baseL l i ≤ i * 1000000001
  | 0, _ => Nat.le_refl _
  | i + 1, h => by
    have := baseL_le hc i (by omega)
    have := hc i (by omega)
    show baseL l i + (ob l i).f1.length + 1 ≤ _
    omega
def idx (k : Nat) : List Nat := List.range k
theorem idx_succ (k : Nat) : idx (k + 1) = idx k ++ [k] := List.range_succ
theorem idx_len (k : Nat) : (idx k).length = k := List.length_range
def bsL (l : List ObjT) (i : Nat) : Nat := baseL l (min i l.length)
theorem bsL_eq {l : List ObjT} {i : Nat} (h : i ≤ l.length) : bsL l i = baseL l i := by unfold bsL; rw [Nat.min_eq_left h]
theorem bsL_le {l : List ObjT} (hc : ∀ i, i < l.length → (ob l i).f1.length ≤ 1000000000) (hl : l.length ≤ 1000000) (i : Nat) : bsL l i ≤ 1000000001000000 := by
 have h := baseL_le hc (min i l.length) (Nat.min_le_right _ _)
 have := Nat.min_le_right i l.length
 unfold bsL
 omega
theorem code_le {l : List ObjT} (hc : ∀ i, i < l.length → (ob l i).f1.length ≤ 1000000000) (i : Nat) : (ob l i).f1.length ≤ 1000000000 := by
 by_cases h : i < l.length
 ·
  exact hc i h
 ·
  have e : ob l i = z27 := by
   unfold ob rd_T27
   rw [Int.toNat_natCast, List.getD_eq_getElem?_getD, List.getElem?_eq_none (by omega)]
   rfl
  rw [e]
  exact Nat.zero_le _
def encB (l : List ObjT) (P : Nat → Par) (i : Nat) : Array Value := #[.int .i64 (bsL l i : Int), .agg (objV (ob l i) (P i))]
def KeepO (W W' : World) : Prop := ∀ (k : Nat) (cs : Array Value), W.heap[k]? = some (Obj.cells cs 27 (0, 0)) → W'.heap[k]? = some (Obj.cells cs 27 (0, 0))
set_option maxRecDepth 100000 in
set_option maxHeartbeats 8000000 in
theorem lay1_in (F : Fence) (n : Nat) (h7 : F.fn 77) (hro : F.round = none) (hn : 1 ≤ n) (lr Bs n0 : Nat) (A : Option Addr) (c : Nat) (l : List ObjT) (w0 : World) (hn0 : w0.heap.size ≤ n0) (P : Nat → Par) (hP : ∀ i, i < l.length → ParOK w0 A (ob l i) i (P i)) (hlen : l.length ≤ 1000000) (hcl : ∀ i, i < l.length → (ob l i).f1.length ≤ 1000000000) (J Jx : List Nat → World → Prop)
  (hJn : ∀ pre W o, J pre W → J pre (W.alloc o))
  (hY : ∀ k W, J (idx k) W → k < l.length → YieldAt F (n - 1) Tryd.prog lr (encB l P k) W fun e W' =>
   (e = .returned (.bool true) ∧ J (idx (k + 1)) W' ∧ Below n0 W W' ∧ KeepO W W') ∨ (e = .returned (.bool false) ∧ Jx (idx (k + 1)) W'))
  (W : World) (hlow : Below w0.heap.size w0 W) (hn1 : n0 ≤ W.heap.size) (hBs : W.cell? ⟨Bs, 0, none⟩ = some (.slice A l.length c)) (h0 : J [] W) :
  CallsIn F n Tryd.prog 77 #[.func (.yield lr) #[] #[], .pointer (some ⟨Bs, 0, none⟩)] W fun e W' => (∃ v, e = .returned v) ∧
   ((∃ ys, ys = idx l.length ∧ J ys W') ∨ (∃ pre, (∃ k, k ≤ l.length ∧ pre = idx k) ∧ Jx pre W')) := by
 have hu1 := Tryd.underlying27
 have HP := Aside0.mk hP
 have HCL := Aside0.mk hcl
 have HLN := Aside0.mk hlen
 have HN0 := Aside0.mk (And.intro hn0 hn1)
 have HJN := Aside0.mk hJn
 have HY := Aside0.mk hY
 clear hP hcl hlen hn0 hn1 hJn hY
 refine callsIn_of_wp Tryd.func77 rfl h7 ?_ hro
 simp only [Tryd.ntmps77, List.size_toArray, List.length_cons, List.length_nil, Nat.reduceAdd, Nat.reduceSub, Array.replicate_succ, Array.replicate_zero, List.push_toArray, List.append_toArray, List.nil_append, List.cons_append]
 gi_wp2
 gi_loopw [3, 8] (fun b i wr => ∃ k : Nat, k ≤ l.length ∧ b = .int .i64 (baseL l k : Int) ∧ i = .int .i64 k ∧ J (idx k) wr ∧ Below n0 W wr) (fun _ i _ => l.length - (intOf i).toNat)
 case atStart => exact ⟨0, Nat.zero_le _, rfl, rfl, h0, Below.refl _ _⟩
 case round =>
  obtain ⟨k, hk, rfl, rfl, hJs, hnx⟩ := hrel
  by_cases hlt : k < l.length
  ·
   obtain ⟨ad, eA, x0, x1, x2, x3, x4, x5⟩ := (HP.out k hlt).ad
   subst eA
   have LOW := hlow.trans (hnx.mono HN0.out.1)
   have y0 := pw_cell_below LOW x0
   have y1 := pw_cell_below LOW x1
   have y2 := pw_cell_below LOW x2
   have y3 := pw_cell_below LOW x3
   have y4 := pw_cell_below LOW x4
   have y5 := pw_cell_below LOW x5
   obtain ⟨fn, tmps, assign, body, hy, hR⟩ := HY.out k (wr.alloc (.cells (objV (ob l k) (P k)) 27)) (HJN.out _ _ _ hJs) hlt
   dsimp only [encB, objV] at hy hR
   rw [bsL_eq hk] at hy
   have hltb : decide ((k : Int) < (l.length : Int)) = true := decide_eq_true (by omega)
   have p0 : ((0 : Int) ≤ (k : Int)) = True := eq_true (by omega)
   have q0 : ((k : Int) < (l.length : Int)) = True := eq_true (by omega)
   have HNX := Aside0.mk hnx
   have HLT := Aside0.mk hlt
   clear x0 x1 x2 x3 x4 x5 LOW hnx hlt hlow
   have hbl := baseL_le HCL.out k (by have := HLT.out; omega)
   have hcd := HCL.out k HLT.out
   have hl1 := HLN.out
   have hl2 := HLT.out
   have HW1 := Aside0.mk (show wrap64 (((ob l k).f1.length : Int) + 1) = ((ob l k).f1.length : Int) + 1 from wrap64_id (by omega) (by omega))
   have HW2 := Aside0.mk (show wrap64 ((baseL l k : Int) + (((ob l k).f1.length : Int) + 1)) = ((baseL l (k + 1) : Nat) : Int) by rw [wrap64_id (by omega) (by omega)]; show _ = ((baseL l k + (ob l k).f1.length + 1 : Nat) : Int); omega)
   have HW3 := Aside0.mk (show wrap64 ((k : Int) + 1) = ((k + 1 : Nat) : Int) by rw [wrap64_id (by omega) (by omega)]; rfl)
   have hbk := (MapKept.heap_alloc wr (.cells (objV (ob l k) (P k)) 27)).1
   have HBK := Aside0.mk hbk
   have HNA := Aside0.mk (show Below n0 W (wr.alloc (.cells (objV (ob l k) (P k)) 27)) from HNX.out.alloc (Nat.le_trans HN0.out.2 HNX.out.size) _)
   clear hbl hcd hl1 hl2 hbk
   gi_wp2
   refine hR.mono ?_
   rintro e W3 (⟨rfl, hJ3, hk3, ho3⟩ | ⟨rfl, hJx3⟩)
   ·
    have hc1 : W3.cell? ⟨wr.heap.size, 1, none⟩ = some (.slice (P k).A1 (ob l k).f1.length (P k).c1) := (blk_cell (ho3 _ _ HBK.out) 1).trans rfl
    have HJ3 := Aside0.mk (And.intro hJ3 hk3)
    clear hJ3 hk3 ho3 y0 y1 y2 y3 y4 y5 hy hR
    gi_wp2
    go_roundw
    case rel => exact ⟨k + 1, HLT.out, by rw [HW1.out, HW2.out], by first | rfl | rw [HW3.out], HJ3.out.1, HNA.out.trans HJ3.out.2⟩
    case measure => have hq := HLT.out; (try rw [HW3.out]); simp only [intOf]; omega
   ·
    gi_wp2
    refine bodyPost_ret (results_none rfl _ _ _) rfl ?_
    exact ⟨⟨_, rfl⟩, .inr ⟨_, ⟨k + 1, HLT.out, rfl⟩, hJx3⟩⟩
  ·
   obtain rfl : k = l.length := by omega
   have hltb : decide ((l.length : Int) < (l.length : Int)) = false := by simp
   have HJS := Aside0.mk hJs
   clear hJs hnx hlow hlt hk
   gi_wp2
   go_end0
   exact ⟨⟨_, rfl⟩, .inl ⟨_, rfl, HJS.out⟩⟩
end Go.Proofs.YtiaohbbafaaibabDoor.P

/- OWN TEXT: a range over a function whose rounds come in a known order, none of which leaves. -/
namespace Go.Proofs.YtiaohbbafaaibabDoor.P
open Go.RowKit Go.Shelf
set_option linter.unusedVariables false
section
variable {F : Fence} {n : Nat} {P : Program}
def SeqAll (F : Fence) (n : Nat) (P : Program) (g : Nat) (lb : Array Value) (enc : Nat → Array Value) (Kp : World → World → Prop) (N : Nat) (w : World) : Prop :=
 ∀ (lr : Nat) (J : Nat → World → Prop) (W : World), Below w.heap.size w W → AbidesFrom W.heap.size J →
  (∀ k W1, J k W1 → k < N → YieldAt F (n - 1) P lr (enc k) W1 fun e W' => e = .returned (.bool true) ∧ J (k + 1) W' ∧ Kp W1 W') → J 0 W →
  CallsIn F n P g (#[.func (.yield lr) #[] #[]] ++ lb) W fun e W' => (∃ v, e = .returned v) ∧ J N W'
def goesOn (B : Nat) (Kp : World → World → Prop) (I : Nat → World → Prop) (k : Nat) (W : World) : Exit → Act → World → Prop
 | .normal, _, W' => KeepsFrom B W W' ∧ Kp W W' ∧ I k W'
 | _, _, _ => False
theorem range_all {g : Operand} {ps : Array Tmp} {assign body : Code} {Q : Exit → Act → World → Prop} {a : Act} {w w0 : World} (hro : F.round = none) (h1 : 1 ≤ n) {gf : Nat} {lb : Array Value} (hg : a.eval g = .func (.func gf) #[] lb) (hF : F.fn gf) (eg : ∀ args w, (callFunc gf args).run P w = .ok (.enter gf args) w)
    {enc : Nat → Array Value} {Kp : World → World → Prop} {N : Nat} (hseq : SeqAll F (n - 1) P gf lb enc Kp N w0) (hKt : ∀ {A B C : World}, Kp A B → Kp B C → Kp A C) (hKb : ∀ (W : World) (j : Nat) (o o' : Obj), w.heap.size ≤ j → W.heap[j]? = some o → o.isCells = false → o.isWalk = false → Kp W (W.putObj j o')) (hb0 : Below w0.heap.size w0 w) (hps : ∀ k, (enc k).size = ps.size)
    (I : Nat → World → Prop) (hI : OwnFrom w.heap.size I) (h0 : I 0 w) (Bx : Nat → Act → World → Prop) (hBx : ∀ a', OwnFrom w.heap.size (fun k W => Bx k a' W))
    (hassign : ∀ (lr k : Nat) (W : World) (K : Act → World → Prop), I k W → k < N → (∀ a' W', KeepsFrom w.heap.size W W' → Kp W W' → Bx k a' W' → K a' W') →
      assign.wpIn (F.inRound lr) (n - 1 - 1) P (Exit.then K (fun _ _ _ => False)) { tmps := (ps.zip (enc k)).foldl (fun t (p, v) => t.setIfInBounds p v) a.tmps, defers := [] } W)
    (hbody : ∀ (lr k : Nat) (a' : Act) (W : World), Bx k a' W → k < N → body.wpIn (F.inRound lr) (n - 1 - 1) P (goesOn w.heap.size Kp I (k + 1) W) a' W)
    (hdone : ∀ (D : Nat) (W : World), w.heap.size ≤ D → I N W → W.heap[D]? = some (.deferred (some [])) → Q .normal { a with defers := { target := .collected D, args := #[] } :: a.defers } W) :
    (Code.rangeFunc g ps assign body).wpIn F n P Q a w := by
  refine wpIn_rangeFunc fun fn hfn => ?_
  rw [hro]
  obtain ⟨R, hR⟩ : ∃ R : LoopState → Loop, R = fun st => { state := st, pending := none, fn, tmps := a.tmps, params := ps, assign, body, defers := w.heap.size } := ⟨_, rfl⟩
  obtain ⟨W1, hW1⟩ : ∃ W1, (w.alloc (.deferred (some []))).alloc (.loop (R .ready)) = W1 := ⟨_, rfl⟩
  have eL : W1.heap[w.heap.size + 1]? = some (.loop (R .ready)) := by
    have := World.alloc_heap_new (w.alloc (.deferred (some []))) (.loop (R .ready))
    rw [World.size_alloc] at this
    rw [← hW1]
    exact this
  have eK : W1.heap[w.heap.size]? = some (.deferred (some [])) := by
    rw [← hW1]
    exact (Below.heap_alloc _ _ _ (by simp)).trans (World.alloc_heap_new w _)
  have hI1 : I 0 W1 := by rw [← hW1]; exact hI.alloc _ (hI.alloc _ h0)
  have hlow : Below w0.heap.size w0 W1 := by rw [← hW1]; exact hb0.trans ((((Below.refl _ w).alloc (Nat.le_refl _) _).alloc (by simp) _).mono hb0.size)
  have hsz : w.heap.size ≤ W1.heap.size := by rw [← hW1]; simp; omega
  refine ⟨w.heap.size + 1, [{ target := .collected w.heap.size, args := #[] }], W1, { target := .fn (.func gf) lb, args := #[.func (.yield (w.heap.size + 1)) #[] #[]] }, W1, gf, #[.func (.yield (w.heap.size + 1)) #[] #[]] ++ lb, W1, ?_, ?_, ?_, ?_, fun _ => h1, ?_⟩
  · rw [← hW1, hR]
    exact run_enterLoop_outer _ _ _ _ _
  · simp only [resolve, hg]
    simp [go_sem]
  · intro f' hf'
    simp [Target.leads] at hf'
    subst hf'
    exact hF
  · simp [invoke, go_sem, eg]
  refine (hseq (w.heap.size + 1) (fun k W => I k W ∧ W.heap[w.heap.size + 1]? = some (.loop (R .ready)) ∧ W.heap[w.heap.size]? = some (.deferred (some []))) W1 hlow ?abides ?rounds ⟨hI1, eL, eK⟩).mono ?after
  case abides =>
    intro k X Y row hs hgr hr
    have hc : ∀ r, row = some r → w.heap.size ≤ r ∧ ∃ o : Obj, X.heap[r]? = some o ∧ o.isCells = false := fun r e => by
      obtain ⟨hB, o, ho, hw⟩ := hr r e
      exact ⟨by omega, o, ho, Obj.not_cells_of_walk hw⟩
    exact ⟨hI k X Y row hs.1 hgr hc, (grownBy_keeps hgr (fun r e => (hr r e).2) hs.2.1 rfl).trans hs.2.1, (grownBy_keeps hgr (fun r e => (hr r e).2) hs.2.2 rfl).trans hs.2.2⟩
  case rounds =>
    rintro k W ⟨hi, hl, hk⟩ hlt
    have hy := run_yield (P := P) (args := enc k) hl (by rw [hR]; exact hps k)
    rw [hR] at hy
    refine ⟨fn, _, assign, body, hy, roundIn_of_wpIn hfn (hassign _ k W _ hi hlt ?_)⟩
    intro a' Wa ka kp hbx
    have hl := ka.same _ _ (Nat.le_succ _) hl rfl
    have hk := ka.same _ _ (Nat.le_refl _) hk rfl
    have hla := (Array.getElem?_eq_some_iff.1 hl).1
    refine ⟨_, run_beginRound hl (by rw [hR]), ?_⟩
    have hl2 : (Wa.putObj (w.heap.size + 1) (.loop { R .ready with state := .busy })).heap[w.heap.size + 1]? = some (.loop { R .ready with state := .busy }) := World.putObj_heap_same hla
    have hk2 : (Wa.putObj (w.heap.size + 1) (.loop { R .ready with state := .busy })).heap[w.heap.size]? = some (.deferred (some [])) := (World.putObj_heap_other (by omega)).trans hk
    refine wpIn_mono (hbody _ k a' _ ((hBx a').putObj _ hbx (Nat.le_succ _) hl rfl) hlt) ?_
    rintro e a3 W3 hp
    cases e with
    | normal =>
      obtain ⟨k3, kp3, i3⟩ := hp
      have hl3 := k3.same _ _ (Nat.le_succ _) hl2 rfl
      have hend := run_endRound (P := P) none hl3
      have hx : Loop.state (R .ready) = .ready := by rw [hR]
      refine ⟨_, _, hend, rfl, ⟨hI.putObj _ i3 (Nat.le_succ _) hl3 rfl, ?_, (World.putObj_heap_other (by omega)).trans (k3.same _ _ (Nat.le_refl _) hk2 rfl)⟩, hKt kp (hKt (hKt (hKb _ _ _ _ (Nat.le_succ _) hl rfl rfl) kp3) (hKb _ _ _ _ (Nat.le_succ _) hl3 rfl rfl))⟩
      rw [World.putObj_heap_same (Array.getElem?_eq_some_iff.1 hl3).1]
      rw [hR]
      rfl
    | ret => exact hp.elim
    | exit id => exact hp.elim
    | goto t => exact hp.elim
    | panic ch => exact hp.elim
    | outgrown => exact hp.elim
  case after =>
    rintro e W2 ⟨⟨v, rfl⟩, hi, hl, hk⟩
    have hend := run_endLoop (P := P) hl (by rw [hR]; simp)
    rw [hR] at hend
    exact ⟨none, _, hend, hdone _ _ (Nat.le_refl _) (hI.putObj _ hi (Nat.le_succ _) hl rfl) ((World.putObj_heap_other (by omega)).trans hk)⟩
end
end Go.Proofs.YtiaohbbafaaibabDoor.P

/- OWN TEXT: link.Bases, walked: a range over layout's iterator. -/
namespace Go.Proofs.YtiaohbbafaaibabDoor.P
open Go.RowKit Go.Shelf Go.Maps Go.Proofs.YtiaohbbafaaibabDoorW.PrintWords Go.Proofs.YtiaohbbafaaibabDoorW.PrintLast Go.Proofs.YtiaohbbafaaibabDoorW.PrintMore Go.Proofs.YtiaohbbafaaibabDoor.Arr
set_option linter.unusedVariables false
set_option linter.unusedSimpArgs false
attribute [local go_sem] Oper.semAt_some
theorem lay_in (F : Fence) (n : Nat) (h6 : F.fn 61) (hro : F.round = none) (A : Option Addr) (len c : Nat) (w : World) :
  CallsIn F n Tryd.prog 61 #[.slice A len c] w fun e w' => e = .returned (.func (.func 77) #[] #[.pointer (some ⟨w.heap.size, 0, none⟩)]) ∧ w' = w.alloc (.cells #[.slice A len c] 43) := by
 refine callsIn_of_wp Tryd.func61 rfl h6 ?_ hro
 simp only [Tryd.ntmps61, List.size_toArray, List.length_cons, List.length_nil, Nat.reduceAdd, Nat.reduceSub, Array.replicate_succ, Array.replicate_zero, List.push_toArray, List.append_toArray, List.nil_append, List.cons_append]
 gi_wp2
 go_ret
 exact ⟨rfl, rfl⟩
def KpO (n0 : Nat) (W W' : World) : Prop := Below n0 W W' ∧ KeepO W W'
theorem KpO.t {n0 : Nat} {A B C : World} (h : KpO n0 A B) (k : KpO n0 B C) : KpO n0 A C := ⟨h.1.trans k.1, fun j cs hj => k.2 j cs (h.2 j cs hj)⟩
theorem KpO.b {n0 : Nat} {w : World} (hn : n0 ≤ w.heap.size) (W : World) (l : Nat) (o o' : Obj) (hl : w.heap.size ≤ l) (h : W.heap[l]? = some o) (hc : o.isCells = false) (hw : o.isWalk = false) : KpO n0 W (W.putObj l o') :=
 ⟨belowK_b hn W l o o' hl h hc hw, fun k cs hk => (World.putObj_heap_other (fun e => by subst e; rw [h] at hk; cases hk; cases hc)).trans hk⟩
theorem KeepO.alloc {W : World} (o : Obj) : KeepO W (W.alloc o) := fun k cs hk => (Below.heap_alloc W o k (blk_lt hk)).trans hk
theorem lay_stops (F : Fence) (n : Nat) (h7 : F.fn 77) (hro : F.round = none) (hn : 1 ≤ n) (Bs n0 : Nat) (A : Option Addr) (c : Nat) (l : List ObjT) (w0 w : World) (hn0 : w0.heap.size ≤ n0) (hn1 : n0 ≤ w.heap.size) (P : Nat → Par) (hP : ∀ i, i < l.length → ParOK w0 A (ob l i) i (P i)) (hlen : l.length ≤ 1000000) (hcl : ∀ i, i < l.length → (ob l i).f1.length ≤ 1000000000) (hlow : Below w0.heap.size w0 w) (hBs : Bs < w.heap.size) (hc : w.cell? ⟨Bs, 0, none⟩ = some (.slice A l.length c)) :
  SeqStopsK F n Tryd.prog 77 #[.pointer (some ⟨Bs, 0, none⟩)] (encB l P) (KpO n0) (fun ys => ys = idx l.length) (fun pre => ∃ k, k ≤ l.length ∧ pre = idx k) l.length w := fun lr J Jx W hW hJ _ hY h0 =>
 (lay1_in F n h7 hro hn lr Bs n0 A c l w0 hn0 P hP hlen hcl J Jx (fun pre W1 o hj => hJ pre W1 _ none hj (World.grownBy_alloc W1 o none) (fun r e => by cases e)) (fun k W1 hj hlt => by have h_ := hY (idx k) k W1 hj (by rw [idx_len]; exact hlt); rw [← idx_succ] at h_; exact h_) W (hlow.trans (hW.mono hlow.size)) (Nat.le_trans hn1 hW.size) ((hW.cell (p := ⟨Bs, 0, none⟩) hBs).trans hc) h0)
theorem lay_all (F : Fence) (n : Nat) (h7 : F.fn 77) (hro : F.round = none) (hn : 1 ≤ n) (Bs n0 : Nat) (A : Option Addr) (c : Nat) (l : List ObjT) (w0 w : World) (hn0 : w0.heap.size ≤ n0) (hn1 : n0 ≤ w.heap.size) (P : Nat → Par) (hP : ∀ i, i < l.length → ParOK w0 A (ob l i) i (P i)) (hlen : l.length ≤ 1000000) (hcl : ∀ i, i < l.length → (ob l i).f1.length ≤ 1000000000) (hlow : Below w0.heap.size w0 w) (hBs : Bs < w.heap.size) (hc : w.cell? ⟨Bs, 0, none⟩ = some (.slice A l.length c)) :
  SeqAll F n Tryd.prog 77 #[.pointer (some ⟨Bs, 0, none⟩)] (encB l P) (KpO n0) l.length w := fun lr J W hW hJ hY h0 =>
 (lay1_in F n h7 hro hn lr Bs n0 A c l w0 hn0 P hP hlen hcl (fun xs W => J xs.length W) (fun _ _ => False) (fun pre W1 o hj => hJ pre.length W1 _ none hj (World.grownBy_alloc W1 o none) (fun r e => by cases e)) (fun k W1 hj hlt => by
  rw [idx_len] at hj
  refine (hY k W1 hj hlt).mono fun e W' h => .inl ?_
  obtain ⟨h1, h2, h3⟩ := h
  exact ⟨h1, by rw [idx_len]; exact h2, h3.1, h3.2⟩) W (hlow.trans (hW.mono hlow.size)) (Nat.le_trans hn1 hW.size) ((hW.cell (p := ⟨Bs, 0, none⟩) hBs).trans hc) h0).mono fun e W' h => by
  obtain ⟨h1, h2⟩ := h
  rcases h2 with ⟨ys, rfl, h3⟩ | ⟨_, _, h3⟩
  ·
   rw [idx_len] at h3
   exact ⟨h1, h3⟩
  ·
   exact h3.elim
theorem infoInt : (Tryd.prog.info? 3).map (fun i => (i.zero, i.size, i.bytes)) = some (some (.int .i64 0), 1, 8) := by kernel_rfl
theorem keepO_app {W w1 : World} {n0 B : Nat} {t e : TypeId} {v v' : Value} {k : Nat} {xs : List Value} {tmp : Obj} (hv : Boxed W B t v) (ht : t ≠ 27) (hrow : W.ownsRow n0 e 1 v k xs) (he : e ≠ 27) (hg : (W.alloc tmp).grownBy w1 v.ownBlock) : KeepO W (w1.setCell ⟨B, 0, none⟩ v') := fun j cs hj => by
 have hjl := blk_lt hj
 have h1 : (W.alloc tmp).heap[j]? = some (.cells cs 27 (0, 0)) := (Below.heap_alloc W _ j hjl).trans hj
 have h2 : w1.heap[j]? = some (.cells cs 27 (0, 0)) := (hg.block j (by rw [World.size_alloc]; omega) (fun z => by
  obtain ⟨cells, hc⟩ := own_typed hrow j z.symm
  rw [hj] at hc
  injection hc with hc
  injection hc with _ hc
  exact he hc.symm)).trans h1
 refine (Below.heap_setCell _ _ _ j (fun z => ?_)).trans h2
 have hb : W.heap[B]? = _ := hv
 have z : j = B := z
 subst z
 rw [hj] at hb
 injection hb with hb
 injection hb with _ hb
 exact ht hb.symm
def bigL (l : List ObjT) : Bool := (List.range l.length).any fun i => decide (16384 ≤ bsL l i + (ob l i).f1.length)
def basesR (l : List ObjT) : List Int × Int := if l.length > 32 then ([], 21) else if bigL l = true then ([], 42) else ((idx l.length).map fun i => (bsL l i : Int), 0)
def okB (l : List ObjT) (pre : List Nat) : Prop := ∀ i, i ∈ pre → bsL l i + (ob l i).f1.length < 16384
def bxO (l : List ObjT) (P : Nat → Par) (x : Nat) (W : World) (Bx : Nat) : Prop := W.heap[Bx]? = some (.cells (objV (ob l x) (P x)) 27 (0, 0))
theorem bxO_own {B : Nat} {l : List ObjT} {P : Nat → Par} {x Bx : Nat} {X Y : World} {row : Option Nat} (h : bxO l P x X Bx) (hg : X.grownBy Y row) (hr : ∀ r, row = some r → B ≤ r ∧ ∃ o : Obj, X.heap[r]? = some o ∧ o.isCells = false) : bxO l P x Y Bx :=
 (hg.block Bx (blk_lt h) (fun e => by obtain ⟨_, o, ho, hc⟩ := hr Bx e.symm; rw [show X.heap[Bx]? = _ from h] at ho; cases ho; cases hc)).trans h
def IB (w : World) (l : List ObjT) (pre : List Nat) (W : World) : Prop :=
 (((∃ v, Boxed W (w.heap.size + 1 + 1) 52 v ∧ W.ownsRow w.heap.size 3 1 v pre.length (pre.map fun i => .int .i64 (bsL l i : Int)) ∧ (v = .slice none 0 0 ↔ pre = [])) ∧ okB l pre) ∧ (Boxed W w.heap.size 52 (.slice none 0 0) ∧ Boxed W (w.heap.size + 1) 31 (.int .i64 0))) ∧ Below w.heap.size w W
def IxB (w : World) (l : List ObjT) (c : Code) (pre : List Nat) (W : World) : Prop :=
 ((c = .ret ∧ ¬ okB l pre) ∧ (Boxed W w.heap.size 52 (.slice none 0 0) ∧ Boxed W (w.heap.size + 1) 31 (.int .i64 42))) ∧ Below w.heap.size w W
def plainD : TypeDesc → Bool
 | .struct _ => false
 | .array _ _ => false
 | _ => true
theorem run_loadVar_one {Pr : Program} (w : World) (g : Nat) (ty : TypeId) (v : Value) (d : TypeDesc) (hc : w.cell? ⟨g, 0, none⟩ = some v) (hu : Pr.underlying ty = some d) (hd : plainD d = true) : (loadVar ty ⟨g, 0, none⟩).run Pr w = .ok v w := by
 have hagg : (isAgg ty).run Pr w = .ok false w := by
  unfold isAgg
  rw [Sem.run_bind, run_underlying hu w]
  cases d <;> simp_all [plainD]
 unfold loadVar
 rw [Sem.run_bind, hagg]
 simp [hc]
theorem results_cell1_2 {Pr : Program} {fn : Func} {p q : Tmp} {t u : TypeId} (h : fn.results = #[.cell p t, .cell q u]) (tmps : Array Value) (w : World) (g j : Nat) (v x : Value) (d e : TypeDesc)
  (hp : tmps.getD p undef = .pointer (some ⟨g, 0, none⟩)) (hq : tmps.getD q undef = .pointer (some ⟨j, 0, none⟩)) (hv : w.cell? ⟨g, 0, none⟩ = some v) (hx : w.cell? ⟨j, 0, none⟩ = some x) (hu : Pr.underlying t = some d) (hd : plainD d = true) (ku : Pr.underlying u = some e) (kd : plainD e = true) :
  (results fn tmps).run Pr w = .ok (.tuple #[v, x]) w := by
 have hp' : tmps[p]?.getD undef = .pointer (some ⟨g, 0, none⟩) := by simpa using hp
 have hq' : tmps[q]?.getD undef = .pointer (some ⟨j, 0, none⟩) := by simpa using hq
 simp [results, h, hp', hq', asAddr, run_loadVar_one w g t v d hv hu hd, run_loadVar_one w j u x e hx ku kd, Sem.run_bind, Result.andThen]
end Go.Proofs.YtiaohbbafaaibabDoor.P

/- OWN TEXT: link.Bases, walked. -/
namespace Go.Proofs.YtiaohbbafaaibabDoor.P
open Go.RowKit Go.Shelf Go.Maps Go.Proofs.YtiaohbbafaaibabDoorW.PrintWords Go.Proofs.YtiaohbbafaaibabDoorW.PrintLast Go.Proofs.YtiaohbbafaaibabDoorW.PrintMore Go.Proofs.YtiaohbbafaaibabDoor.Arr
set_option linter.unusedVariables false
set_option linter.unusedSimpArgs false
attribute [local go_sem] Oper.semAt_some
theorem IB_own {B : Nat} {w : World} {l : List ObjT} (hB : w.heap.size ≤ B) : OwnFrom B (IB w l) :=
 OwnFrom.and (OwnFrom.and (OwnFrom.and (Own.from (holdsRow_own w.heap.size (w.heap.size + 1 + 1) 52 3 1 (fun pre : List Nat => pre.length) (fun pre => pre.map fun i => Value.int .i64 (bsL l i : Int)) (fun pre v => v = .slice none 0 0 ↔ pre = [])) _) (ownFrom_pure _ _)) (OwnFrom.and (Own.from (boxed_own _ _ (fun _ => .slice none 0 0)) _) (Own.from (boxed_own _ _ (fun _ => .int .i64 0)) _))) (ownFrom_below (Nat.le_refl _) hB)
theorem IxB_own {B : Nat} {w : World} {l : List ObjT} (hB : w.heap.size ≤ B) (c : Code) : OwnFrom B (IxB w l c) :=
 OwnFrom.and (OwnFrom.and (ownFrom_pure _ (fun pre => c = .ret ∧ ¬ okB l pre)) (OwnFrom.and (Own.from (boxed_own _ _ (fun _ => .slice none 0 0)) _) (Own.from (boxed_own _ _ (fun _ => .int .i64 42)) _))) (ownFrom_below (Nat.le_refl _) hB)
theorem own_slice_form {W : World} {base e s n : Nat} {v : Value} {xs : List Value} (h : W.ownsRow base e s v n xs) : ∃ A c, v = .slice A n c := by
 rcases h.2 with ⟨rfl, rfl⟩ | ⟨g, cap, cur, rfl, _⟩
 ·
  exact ⟨_, _, rfl⟩
 ·
  exact ⟨_, _, rfl⟩
set_option maxRecDepth 100000 in
set_option maxHeartbeats 8000000 in
theorem bases_in (F : Fence) (n : Nat) (h20 : F.fn 20) (h6 : F.fn 61) (h7 : F.fn 77) (hro : F.round = none) (hn : 3 ≤ n) (A : Option Addr) (c : Nat) (l : List ObjT) (w : World) (hC : Kd.C k27 w A l.length l) (hcl : ∀ i, i < l.length → (ob l i).f1.length ≤ 1000000000) (hl : l.length ≤ 1000000) :
  CallsIn F n Tryd.prog 20 #[.slice A l.length c] w fun e w' => ∃ v, e = .returned (.tuple #[v, .int .i64 (basesR l).2]) ∧ Kd.R (Kd.int .i64) 3 w' w.heap.size (fun _ => True) v (basesR l).1 ∧ Below w.heap.size w w' := by
 have h1 : 1 ≤ n := by omega
 refine callsIn_of_wp_marks Tryd.func20 rfl h20 ?_ hro
 simp only [Tryd.ntmps20, List.size_toArray, List.length_cons, List.length_nil, Nat.reduceAdd, Nat.reduceSub, Array.replicate_succ, Array.replicate_zero, List.push_toArray, List.append_toArray, List.nil_append, List.cons_append]
 have bN2 := Boxed.new w 52 (.slice none 0 0)
 have bN3 := Boxed.new (w.alloc (.cells #[.slice none 0 0] 52)) 31 (.int .i64 0)
 rw [World.size_alloc] at bN3
 by_cases hbig : l.length > 32
 ·
  have hd1 : decide ((l.length : Int) > 32) = true := decide_eq_true (by omega)
  have hd2 : (32 < l.length) = True := eq_true hbig
  have HB := Aside0.mk hbig
  clear hbig
  gi_wp2
  have c2 := (bN2.alloc (.cells #[.int .i64 21] 31)).cell
  have c3 := (Boxed.new (w.alloc (.cells #[.slice none 0 0] 52)) 31 (.int .i64 21)).cell
  rw [World.size_alloc] at c3
  refine ⟨_, results_cell1_2 rfl _ _ w.heap.size (w.heap.size + 1) _ _ _ _ rfl rfl c2 c3 Tryd.underlying52 rfl Tryd.underlying31 rfl, .slice none 0 0, ?_, ?_, ?_⟩
  ·
   unfold basesR
   rw [if_pos HB.out]
  ·
   unfold basesR
   rw [if_pos HB.out]
   exact Kd.R_nil _ _ _ _ _
  ·
   exact ((Below.refl _ w).alloc (Nat.le_refl _) _).alloc (by simp) _
 ·
  have hd1 : decide ((l.length : Int) > 32) = false := decide_eq_false (by omega)
  have hd2 : (32 < l.length) = False := eq_false hbig
  have HBG := Aside0.mk hbig
  obtain ⟨P, hP⟩ := pars hC
  clear hbig
  gi_wp2_with (gi_at_call 61; refine (lay_in F (n - 1) h6 hro _ _ _ _).mono ?_; rintro e w' ⟨rfl, rfl⟩)
  have bO := Boxed.new ((w.alloc (.cells #[.slice none 0 0] 52)).alloc (.cells #[.int .i64 0] 31)) 52 (.slice none 0 0)
  have bL := Boxed.new (((w.alloc (.cells #[.slice none 0 0] 52)).alloc (.cells #[.int .i64 0] 31)).alloc (.cells #[.slice none 0 0] 52)) 43 (.slice A l.length c)
  simp only [World.size_alloc] at bO bL
  have b2 := ((bN2.alloc (.cells #[.int .i64 0] 31)).alloc (.cells #[.slice none 0 0] 52)).alloc (.cells #[.slice A l.length c] 43)
  have b3 := (bN3.alloc (.cells #[.slice none 0 0] 52)).alloc (.cells #[.slice A l.length c] 43)
  have bO' := bO.alloc (.cells #[.slice A l.length c] 43)
  obtain ⟨W0, hW0⟩ : ∃ W0, (((w.alloc (.cells #[.slice none 0 0] 52)).alloc (.cells #[.int .i64 0] 31)).alloc (.cells #[.slice none 0 0] 52)).alloc (.cells #[.slice A l.length c] 43) = W0 := ⟨_, rfl⟩
  have hB0 : Below w.heap.size w W0 := by rw [← hW0]; exact ((((Below.refl _ w).alloc (Nat.le_refl _) _).alloc (by simp) _).alloc (by simp; omega) _).alloc (by simp; omega) _
  have hsz : W0.heap.size = w.heap.size + 1 + 1 + 1 + 1 := by rw [← hW0]; simp
  rw [hW0] at b2 b3 bO' bL ⊢
  clear hW0 bN2 bN3 bO
  refine wpIn_rangeFunc_ownH hro h1 (gf := 77) (lb := #[.pointer (some ⟨w.heap.size + 1 + 1 + 1, 0, none⟩)]) rfl h7 (enters_of Tryd.func77 (by kernel_rfl) rfl)
   (lay_stops F (n - 1) h7 hro (by omega) (w.heap.size + 1 + 1 + 1) w.heap.size A c l w W0 (Nat.le_refl _) (by omega) P hP hl hcl hB0 (by omega) bL.cell) KpO.t (KpO.b (by omega)) (Below.refl _ _) (fun _ => rfl)
   (IB w l) (IxB w l) (IB_own (by omega)) (IxB_own (by omega))
   ⟨⟨⟨⟨_, bO', World.ownsRow_nil _ _ _ _, by simp⟩, fun i hi => by cases hi⟩, b2, b3⟩, hB0⟩
   (fun x a' W => ∃ Bx, w.heap.size + 1 + 1 < Bx ∧ bxO l P x W Bx ∧ a' = { tmps := #[.slice A l.length c, undef, .pointer (some ⟨w.heap.size, 0, none⟩), .pointer (some ⟨w.heap.size + 1, 0, none⟩), .pointer (some ⟨w.heap.size + 1 + 1, 0, none⟩), .int .i64 (bsL l x : Int), .pointer (some ⟨Bx, 0, none⟩), .slice A l.length c, .int .i64 (l.length : Int), .bool false, .slice A l.length c, .func (.func 77) #[] #[.pointer (some ⟨w.heap.size + 1 + 1 + 1, 0, none⟩)], .int .i64 (bsL l x : Int), .agg (objV (ob l x) (P x)), undef, undef, undef, undef, undef, undef, undef, undef, undef, undef, undef], defers := [] })
   (fun x a' _ X Y row hs hg hr => by obtain ⟨Bx, q1, q2, q3⟩ := hs; exact ⟨Bx, q1, bxO_own q2 hg hr, q3⟩)
   ?assign ?body ?done ?stop
  case assign =>
   rintro lr pre x W K hi hK
   have hlt0 := hi.1.1.1
   obtain ⟨v0, hv0, _⟩ := hlt0
   dsimp only [encB, objV]
   gi_wp2
   exact hK _ _ ((KeepsOthers.alloc _ _).from _) ⟨(Below.refl _ W).alloc hi.2.size _, KeepO.alloc _⟩ ((IB_own (B := W0.heap.size) (by omega)).alloc _ hi) ⟨W.heap.size, hv0.lt, (MapKept.heap_alloc W _).1, rfl⟩
  case body =>
   rintro lr pre x a' W hlr ⟨r, hr⟩ ⟨⟨⟨⟨v, hv, hrow, hnl⟩, hok⟩, q2, q3⟩, hB1⟩ ⟨Bx, hBx, bX, rfl⟩ hlt
   have cb : W.cell? ⟨Bx, 1, none⟩ = some (.slice (P x).A1 (ob l x).f1.length (P x).c1) := (blk_cell bX 1).trans rfl
   have hbl := bsL_le hcl hl x
   have hcd := code_le hcl x
   have hw : wrap64 ((bsL l x : Int) + ((ob l x).f1.length : Int)) = ((bsL l x + (ob l x).f1.length : Nat) : Int) := by rw [wrap64_id (by omega) (by omega)]; omega
   have c2 := q2.cell
   have f2 := q2.frozen
   have c3 := q3.cell
   have f3 := q3.frozen
   have HX := Aside0.mk (And.intro hcl (And.intro hl hlt))
   have HPP := Aside0.mk hP
   clear hcl hl hlt hP hC
   by_cases hge : 16384 ≤ bsL l x + (ob l x).f1.length
   ·
    have hd : decide (wrap64 ((bsL l x : Int) + ((ob l x).f1.length : Int)) ≥ 16384) = true := by rw [hw]; exact decide_eq_true (by omega)
    have hd2 : (16384 ≤ wrap64 ((bsL l x : Int) + ((ob l x).f1.length : Int))) = True := by rw [hw]; exact eq_true (by omega)
    have HGE := Aside0.mk hge
    clear hw hge hbl hcd
    gi_wp2
    exact ⟨((KeepsOthers.setCell _ _ _).trans (KeepsOthers.setCell _ _ _)).from _, ⟨⟨⟨rfl, fun h => absurd (h x (by simp)) (by have := HGE.out; omega)⟩, (q2.set _).other (by omega) _, (q3.other (by omega) _).set _⟩, (hB1.setCell (p := ⟨w.heap.size, 0, none⟩) (Nat.le_refl _) _).setCell (p := ⟨w.heap.size + 1, 0, none⟩) (Nat.le_succ _) _⟩⟩
   ·
    have hd : decide (wrap64 ((bsL l x : Int) + ((ob l x).f1.length : Int)) ≥ 16384) = false := by rw [hw]; exact decide_eq_false (by omega)
    have hd2 : (16384 ≤ wrap64 ((bsL l x : Int) + ((ob l x).f1.length : Int))) = False := by rw [hw]; exact eq_false (by omega)
    have HGE := Aside0.mk hge
    have cv := hv.cell
    have fv := hv.frozen
    obtain ⟨i0, hi, hz0, hz1, hz2⟩ := info_parts infoInt
    have hsW := hB1.size
    clear hw hge hbl hcd
    gi_wp2_with (gi_at_builtin; refine wpListIn_append_own _ rfl _ _ 52 rfl w.heap.size 3 i0 (.int .i64 0) 1 8 Tryd.underlying52 hi hz0 hz1 hz2 rfl (by decide) _ _ _ rfl (hrow.alloc _) ⟨W.heap.size, 0, none⟩ 1 1 [.int .i64 (bsL l x : Int)] rfl rfl (cell_one_new _ _ _) (by simp [Value.oneCell']) (by have := HX.out.2.2; have := HX.out.2.1; simp only [maxLen]; omega) (by have := HX.out.2.2; have := HX.out.2.1; omega) (by have := hB1.size; simp; omega) ?_; intro v' w1 hown' hgrow _; have HG := Aside0.mk hgrow; obtain ⟨g', cap', rfl⟩ := ownsRow_succ hown'; obtain ⟨hv1, hv2, hr2, hk2, hb2⟩ := hv.appended (by decide) hrow hB1.size (by omega) hown' hgrow; have hc1 := hv1.cell; have hf1 := hv1.frozen; clear hgrow)
    refine ⟨hk2.from _, ⟨hb2, keepO_app hv (by decide) hrow (by decide) HG.out⟩, ⟨⟨⟨⟨_, hv2, ?_, by simp⟩, fun i hi => ?_⟩, ((q2.alloc _).kept HG.out (q2.not_row (by decide) hrow)).other (by omega) _, ((q3.alloc _).kept HG.out (q3.not_row (by decide) hrow)).other (by omega) _⟩, hB1.trans hb2⟩⟩
    ·
     rw [List.length_append, List.map_append]
     exact hr2
    ·
     rcases List.mem_append.1 hi with h | h
     ·
      exact hok i h
     ·
      obtain rfl := List.mem_singleton.1 h
      have := HGE.out
      omega
  case done =>
   rintro D zs W hD rfl ⟨⟨⟨⟨v, hv, hrow, hnl⟩, hok⟩, q2, q3⟩, hB1⟩ hK
   have cv := hv.cell
   have c2 := q2.cell
   have f2 := q2.frozen
   have c3 := q3.cell
   have f3 := q3.frozen
   have HX := Aside0.mk (And.intro hcl (And.intro hl (And.intro hP hC)))
   clear hcl hl hP hC
   have hlv : ∃ Av cv, v = .slice Av (idx l.length).length cv := own_slice_form hrow
   obtain ⟨Av, cc, rfl⟩ := hlv
   gi_wp2
   have hK' := (((KeepsOthers.setCell W ⟨w.heap.size, 0, none⟩ (.slice Av (idx l.length).length cc)).trans (KeepsOthers.setCell _ ⟨w.heap.size + 1, 0, none⟩ (.int .i64 0)))).same D _ hK rfl
   have c2' := ((q2.set (.slice Av (idx l.length).length cc)).other (B' := w.heap.size + 1) (by omega) (.int .i64 0)).kept (grownBy_putObj' _ D (.deferred none)) (fun e => by have := Option.some.inj e; omega)
   have c3' := ((q3.other (B' := w.heap.size) (by omega) (.slice Av (idx l.length).length cc)).set (.int .i64 0)).kept (grownBy_putObj' _ D (.deferred none)) (fun e => by have := Option.some.inj e; omega)
   have hrow2 := hrow.kept (grownBy_setCell' W w.heap.size (.slice Av (idx l.length).length cc)) (.inr (q2.not_row (by decide) hrow).symm)
   have hrow3 := hrow2.kept (grownBy_setCell' _ (w.heap.size + 1) (.int .i64 0)) (.inr ((q3.other (B' := w.heap.size) (by omega) (.slice Av (idx l.length).length cc)).not_row (by decide) hrow2).symm)
   have hrow4 := ownsRow_putObj hrow3 (.deferred none) hK' rfl
   have hBB := (hB1.setCell (p := ⟨w.heap.size, 0, none⟩) (Nat.le_refl _) (.slice Av (idx l.length).length cc)).setCell (p := ⟨w.heap.size + 1, 0, none⟩) (Nat.le_succ _) (.int .i64 0)
   have hbr : basesR l = ((idx l.length).map fun i => (bsL l i : Int), 0) := by
    unfold basesR
    rw [if_neg HBG.out, if_neg]
    unfold bigL
    rw [List.any_eq_true]
    rintro ⟨i, hi, hb⟩
    have := hok i hi
    have := of_decide_eq_true hb
    omega
   refine ⟨by simp, .inl ⟨_, _, rfl, run_takeDeferred hK', ?_⟩⟩
   refine ⟨_, results_cell1_2 rfl _ _ w.heap.size (w.heap.size + 1) _ _ _ _ rfl rfl c2'.cell c3'.cell Tryd.underlying52 rfl Tryd.underlying31 rfl, _, by rw [hbr], ?_, hBB.trans (belowK_b (w := w) (Nat.le_refl _) _ D _ _ (by omega) hK' rfl rfl)⟩
   rw [hbr]
   refine Kd.R_of_own ?_ (fun _ _ => trivial)
   rw [List.length_map]
   show World.ownsRow _ _ _ _ _ _ (List.map _ (List.map _ _))
   rw [List.map_map]
   exact hrow4
  case stop =>
   rintro D cc pre W hD ⟨k, hk, rfl⟩ ⟨⟨⟨rfl, hno⟩, q2, q3⟩, hB1⟩ hK
   gi_wp2
   have c2' := q2.kept (grownBy_putObj' _ D (.deferred none)) (fun e => by have := Option.some.inj e; omega)
   have c3' := q3.kept (grownBy_putObj' _ D (.deferred none)) (fun e => by have := Option.some.inj e; omega)
   have hbr : basesR l = ([], 42) := by
    unfold basesR
    rw [if_neg HBG.out, if_pos]
    unfold bigL
    rw [List.any_eq_true]
    refine Classical.byContradiction fun hn2 => hno fun i hi => Nat.lt_of_not_le fun hge => hn2 ⟨i, ?_, decide_eq_true hge⟩
    have := List.mem_range.1 hi
    exact List.mem_range.2 (by omega)
   refine ⟨by simp, .inl ⟨_, _, rfl, run_takeDeferred hK, ?_⟩⟩
   refine ⟨_, results_cell1_2 rfl _ _ w.heap.size (w.heap.size + 1) _ _ _ _ rfl rfl c2'.cell c3'.cell Tryd.underlying52 rfl Tryd.underlying31 rfl, _, by rw [hbr], ?_, hB1.trans (belowK_b (w := w) (Nat.le_refl _) _ D _ _ (by omega) hK rfl rfl)⟩
   rw [hbr]
   exact Kd.R_nil _ _ _ _ _
end Go.Proofs.YtiaohbbafaaibabDoor.P

/- OWN TEXT: what isa.has and isa.Encode come to (their tables are arrays, which the print does not take), in the print's own form. -/
namespace Go.Proofs.YtiaohbbafaaibabDoor.P
open Go.RowKit Go.Proofs.YtiaohbbafaaibabDoorW.PrintWords Go.Proofs.YtiaohbbafaaibabDoorW.PrintLast Go.Proofs.YtiaohbbafaaibabDoorW.PrintMore Go.Proofs.YtiaohbbafaaibabDoor.Arr
set_option linter.unusedVariables false
set_option linter.unusedSimpArgs false

def fieldsA : Array Value := #[.int .i64 0, .int .i64 9, .int .i64 3, .int .i64 7, .int .i64 7, .int .i64 7, .int .i64 7, .int .i64 7, .int .i64 7, .int .i64 7, .int .i64 7, .int .i64 11, .int .i64 14, .int .i64 1, .int .i64 10, .int .i64 24, .int .i64 26, .int .i64 24, .int .i64 2, .int .i64 2, .int .i64 25, .int .i64 0]
theorem fieldsA_one : (fieldsA.all fun v => v.oneCell') = true := by kernel_rfl
def fieldsL : List Int := [0, 9, 3, 7, 7, 7, 7, 7, 7, 7, 7, 11, 14, 1, 10, 24, 26, 24, 2, 2, 25, 0]
theorem fieldsA_eq : fieldsA = (fieldsL.map (Value.int .i64)).toArray := rfl
theorem isa_size3 (W : World) : (sizeOf 3).run Tryd.prog W = .ok 1 W := by kernel_rfl
set_option maxHeartbeats 4000000 in
set_option maxRecDepth 100000 in
theorem isa_fields.calls (w : World) :
  Calls Tryd.prog 79 #[] w fun e w' => e = .returned (.agg fieldsA) ∧ Below w.heap.size w w' := by
 have HB := Aside0.mk (Below.refl w.heap.size w)
 go_enter Tryd.func79, Tryd.ntmps79
 go_upto_region 2 with (first | ((with_reducible refine gate_dst (N := 0) rfl ?_); refine box_event ?hg (N := 0) ?hd (cs := #[.int .i64 0, .int .i64 0, .int .i64 0, .int .i64 0, .int .i64 0, .int .i64 0, .int .i64 0, .int .i64 0, .int .i64 0, .int .i64 0, .int .i64 0, .int .i64 0, .int .i64 0, .int .i64 0, .int .i64 0, .int .i64 0, .int .i64 0, .int .i64 0, .int .i64 0, .int .i64 0, .int .i64 0, .int .i64 0]) (t := 157) ?hr ?_; (case hd => rfl); (case hg => rfl); (case hr => first | (go_simp; done) | (go_simp; rfl)); intro g0 hge0 w1 BK0 hb0; have HB1 := Aside0.mk (below_then HB.out (Nat.le_refl _) hb0); have BGa := Aside0.mk BK0; have GE0 := Aside0.mk (show w.heap.size ≤ g0 by omega); have GL0 := Aside0.mk (show g0 < w1.heap.size from blk_lt BK0); clear BK0 hb0 hge0) | ((with_reducible refine gate_dst (N := 1) rfl ?_); refine box_event ?hg (N := 1) ?hd (cs := #[.int .i64 0, .int .i64 0, .int .i64 0, .int .i64 0, .int .i64 0, .int .i64 0, .int .i64 0, .int .i64 0, .int .i64 0, .int .i64 0, .int .i64 0, .int .i64 0, .int .i64 0, .int .i64 0, .int .i64 0, .int .i64 0, .int .i64 0, .int .i64 0, .int .i64 0, .int .i64 0, .int .i64 0, .int .i64 0]) (t := 157) ?hr ?_; (case hd => rfl); (case hg => rfl); (case hr => first | (go_simp; done) | (go_simp; rfl)); intro g1 hge1 w2 BK1 hb1; have HB2 := Aside0.mk (below_then HB1.out HB1.out.size hb1); have BG1 := Aside0.mk BK1; have BG0 := Aside0.mk (blk_below BGa.out hb1); have NE := Aside0.mk (show g0 ≠ g1 by have := GL0.out; omega); have GE1 := Aside0.mk (show w.heap.size ≤ g1 by have := HB1.out.size; omega); clear BK1 hb1 hge1 HB1 BGa GL0))
 go_wp2_with (first | ((with_reducible refine gate_store (t := 3) rfl ?_); refine wpList_store_arr_const rfl rfl rfl g1 _ _ _ _ rfl rfl rfl (isa_size3 _) BG1.out (by decide) (by simp only [List.setIfInBounds_toArray, List.set_cons_zero, List.set_cons_succ]; rfl) ?_; intro w3 hp; have HBn := Aside0.mk (hp.below HB2.out GE1.out); have BG1n := Aside0.mk hp.blk; have BG0n := Aside0.mk ((hp.far g0 NE.out).trans BG0.out); clear BG1 BG0 HB2 hp; have BG1 := BG1n; have BG0 := BG0n; have HB2 := HBn; clear BG1n BG0n HBn) | ((with_reducible refine gate_dst (N := 21) rfl ?_); (refine wpList_load_row rfl 157 _ rfl g1 rfl 157 _ (0, 0) _ BG1.out Tryd.underlying157 rfl (by kernel_rfl) ?_)) | ((with_reducible refine gate_store (t := 157) rfl ?_); refine wpList_store_whole rfl rfl rfl g0 _ fieldsA _ rfl (by rfl) BG0.out (by kernel_rfl) (by rfl) fieldsA_one ?_; intro w3 hp; have HBn := Aside0.mk (hp.below HB2.out GE0.out); have BG0n := Aside0.mk hp.blk; clear BG1 BG0 HB2 hp))
 refine wp_loop_rounds 9 ?_
 iterate 9 (rw [rounds_succ]; go_wp2_with (first | ((with_reducible refine gate_store (t := 3) rfl ?_); refine wpList_store_arr_const rfl rfl rfl g1 _ _ _ _ rfl rfl rfl (isa_size3 _) BG1.out (by decide) (by simp only [List.setIfInBounds_toArray, List.set_cons_zero, List.set_cons_succ]; rfl) ?_; intro w3 hp; have HBn := Aside0.mk (hp.below HB2.out GE1.out); have BG1n := Aside0.mk hp.blk; have BG0n := Aside0.mk ((hp.far g0 NE.out).trans BG0.out); clear BG1 BG0 HB2 hp; have BG1 := BG1n; have BG0 := BG0n; have HB2 := HBn; clear BG1n BG0n HBn) | ((with_reducible refine gate_dst (N := 21) rfl ?_); (refine wpList_load_row rfl 157 _ rfl g1 rfl 157 _ (0, 0) _ BG1.out Tryd.underlying157 rfl (by kernel_rfl) ?_)) | ((with_reducible refine gate_store (t := 157) rfl ?_); refine wpList_store_whole rfl rfl rfl g0 _ fieldsA _ rfl (by rfl) BG0.out (by kernel_rfl) (by rfl) fieldsA_one ?_; intro w3 hp; have HBn := Aside0.mk (hp.below HB2.out GE0.out); have BG0n := Aside0.mk hp.blk; clear BG1 BG0 HB2 hp)))
 exact bodyPost_ret (v := .agg fieldsA) (results_cell_row Tryd.results79 _ _ g0 157 fieldsA (0, 0) _ rfl BG0n.out Tryd.underlying157 rfl (by kernel_rfl)) rfl ⟨rfl, HBn.out⟩

def hasT (a0 : Int) : Int := fieldsL.getD a0.toNat 0
def isa_has.f (a0 : Int) : Option (Int) := if a0 < 0 then (some 0) else (if a0 ≥ 22 then (some 0) else (some (hasT a0)))
set_option maxHeartbeats 1000000 in
set_option maxRecDepth 100000 in
theorem isa_has.calls (a0 : Int) (r : Int) (w : World) (h : isa_has.f a0 = some r) :
  Calls Tryd.prog 69 #[.int .i8 a0] w fun e w' => e = .returned (.int .i64 r) ∧ Below w.heap.size w w' := by
 unfold isa_has.f at h
 by_cases c1 : a0 < 0
 ·
  rw [if_pos c1] at h
  obtain rfl := Option.some.inj h
  go_enter Tryd.func69, Tryd.ntmps69
  go_wp2
  go_ret
  exact ⟨rfl, Below.refl _ _⟩
 rw [if_neg c1] at h
 by_cases c2 : a0 ≥ 22
 ·
  rw [if_pos c2] at h
  obtain rfl := Option.some.inj h
  go_enter Tryd.func69, Tryd.ntmps69
  go_wp2
  go_ret
  exact ⟨rfl, Below.refl _ _⟩
 rw [if_neg c2] at h
 have hr := Option.some.inj h
 have hv : fieldsA[a0.toNat]? = some (.int .i64 r) := by
  rw [← hr, fieldsA_eq, List.getElem?_toArray, List.getElem?_map]
  have hl : a0.toNat < fieldsL.length := by
   have : fieldsL.length = 22 := rfl
   omega
  unfold hasT
  rw [List.getD_eq_getElem?_getD, List.getElem?_eq_getElem hl]
  rfl
 have hix := fun W => run_index_arr (P := Tryd.prog) (w := W) (cs := fieldsA) (k := .i8) (i := a0) Tryd.underlying157 (by kernel_rfl) (isa_size3 W) (by omega) (by omega) hv
 clear h hr hv
 go_enter Tryd.func69, Tryd.ntmps69
 go_wp2_with (go_at_call 79; refine (isa_fields.calls _).mono ?_; rintro e w1 ⟨rfl, hb⟩)
 go_ret
 exact ⟨rfl, hb⟩

end Go.Proofs.YtiaohbbafaaibabDoor.P

/- OWN TEXT: what isa.Encode comes to (it holds an array, which the print does not take), in the print's own form. -/
namespace Go.Proofs.YtiaohbbafaaibabDoor.P
open Go.RowKit Go.Proofs.YtiaohbbafaaibabDoorW.PrintWords Go.Proofs.YtiaohbbafaaibabDoorW.PrintLast Go.Proofs.YtiaohbbafaaibabDoorW.PrintMore Go.Proofs.YtiaohbbafaaibabDoor.Arr
set_option linter.unusedVariables false
set_option linter.unusedSimpArgs false

theorem cells5 {W : World} {g t : Nat} {v0 v1 v2 v3 v4 : Value} (h : W.heap[g]? = some (.cells #[v0, v1, v2, v3, v4] t (0, 0))) :
  W.cell? ⟨g, 0, none⟩ = some v0 ∧ W.cell? ⟨g, 1, none⟩ = some v1 ∧ W.cell? ⟨g, 2, none⟩ = some v2 ∧ W.cell? ⟨g, 3, none⟩ = some v3 ∧ W.cell? ⟨g, 4, none⟩ = some v4 :=
 ⟨blk_cell h 0, blk_cell h 1, blk_cell h 2, blk_cell h 3, blk_cell h 4⟩
theorem arr3_one (a b c : Int) : ((#[.int .i8 a, .int .i8 b, .int .i8 c] : Array Value).all fun v => v.oneCell') = true := by kernel_rfl
def badReg (f r m : Int) : Prop := r < 0 ∨ 16 ≤ r ∨ (r ≠ 0 ∧ Go.bits .and .i64 f m = 0)
def lowT (f : Int) : Int := if Go.bits .and .i64 f 16 = 0 then (if Go.bits .and .i64 f 8 = 0 then 0 else -16384) else 0
def highT (f : Int) : Int := if Go.bits .and .i64 f 16 = 0 then (if Go.bits .and .i64 f 8 = 0 then 0 else 16383) else 16383
def encW (a0 a1 a2 a3 a4 : Int) : Int := Go.bits .or .u32 (Go.bits .or .u32 (Go.bits .or .u32 (Go.bits .or .u32 (a0 * 134217728) (a1 * 8388608)) (a2 * 524288)) (a3 * 32768)) (Go.bits .and .u32 (a4 % 4294967296) 32767)
def RegRel (fv a1 a2 a3 : Int) (i : Value) : Prop :=
 i = .int .i64 0 ∨ (i = .int .i64 1 ∧ ¬ badReg fv a1 1) ∨ (i = .int .i64 2 ∧ ¬ badReg fv a1 1 ∧ ¬ badReg fv a2 2) ∨ (i = .int .i64 3 ∧ ¬ badReg fv a1 1 ∧ ¬ badReg fv a2 2 ∧ ¬ badReg fv a3 4)
def BadIns (fv a1 a2 a3 a4 : Int) : Prop := badReg fv a1 1 ∨ badReg fv a2 2 ∨ badReg fv a3 4 ∨ a4 < lowT fv ∨ a4 > highT fv
set_option maxHeartbeats 8000000 in
set_option maxRecDepth 100000 in
theorem isa_Encode.calls_in (a0 a1 a2 a3 a4 fv : Int) (r1 r2 : Int) (w : World) (h0 : 0 ≤ a0) (h22 : a0 < 22) (Hhas : Aside0 (isa_has.f a0 = some fv))
  (Hbad : Aside0 (BadIns fv a1 a2 a3 a4 → r1 = 0 ∧ r2 = 11)) (Hgood : Aside0 (¬ BadIns fv a1 a2 a3 a4 → r1 = encW a0 a1 a2 a3 a4 ∧ r2 = 0)) :
  Calls Tryd.prog 70 #[.agg #[.int .i8 a0, .int .i8 a1, .int .i8 a2, .int .i8 a3, .int .i64 a4]] w fun e w' => e = .returned (.tuple #[.int .u32 r1, .int .i64 r2]) ∧ Below w.heap.size w w' := by
 have i0 : ∀ W, (Instr.index 159 (.agg #[.int .i8 a1, .int .i8 a2, .int .i8 a3]) (.int .i64 0)).run Tryd.prog W = .ok (.int .i8 a1) W := fun _ => by kernel_rfl
 have i1 : ∀ W, (Instr.index 159 (.agg #[.int .i8 a1, .int .i8 a2, .int .i8 a3]) (.int .i64 1)).run Tryd.prog W = .ok (.int .i8 a2) W := fun _ => by kernel_rfl
 have i2 : ∀ W, (Instr.index 159 (.agg #[.int .i8 a1, .int .i8 a2, .int .i8 a3]) (.int .i64 2)).run Tryd.prog W = .ok (.int .i8 a3) W := fun _ => by kernel_rfl
 go_enter Tryd.func70, Tryd.ntmps70
 go_wp2_with (first | ((with_reducible refine gate_dst (N := 1) rfl ?_); refine box_event ?hg (N := 1) ?hd (cs := #[.int .i8 a0, .int .i8 a1, .int .i8 a2, .int .i8 a3, .int .i64 a4]) (t := 127) ?hr ?_; (case hd => rfl); (case hg => rfl); (case hr => first | (go_simp; done) | (go_simp; rfl)); intro g0 hge0 w1 BK1 hb1; have HB := Aside0.mk (below_then (Below.refl w.heap.size w) (Nat.le_refl _) hb1); have BK := Aside0.mk BK1; have GE0 := Aside0.mk (show w.heap.size ≤ g0 by omega); clear BK1 hb1 hge0; obtain ⟨q0, q1, q2, q3, q4⟩ := cells5 BK.out) | (go_at_call 69; refine (isa_has.calls a0 fv _ Hhas.out).mono ?_; rintro e w2 ⟨rfl, hb⟩; replace HB := Aside0.mk (below_then HB.out HB.out.size hb); replace BK := Aside0.mk (blk_below BK.out hb); clear hb q0 q1 q2 q3 q4; obtain ⟨q0, q1, q2, q3, q4⟩ := cells5 BK.out) | ((with_reducible refine gate_dst (N := 5) rfl ?_); refine box_event ?hg (N := 5) ?hd (cs := #[.int .i8 0, .int .i8 0, .int .i8 0]) (t := 159) ?hr ?_; (case hd => rfl); (case hg => rfl); (case hr => first | (go_simp; done) | (go_simp; rfl)); intro g1 hge1 w3 BR1 hb; have HBn := Aside0.mk (below_then HB.out HB.out.size hb); have BKn := Aside0.mk (blk_below BK.out hb); have BR := Aside0.mk BR1; have NE := Aside0.mk (show g0 ≠ g1 by have := blk_lt BK.out; omega); have GE1 := Aside0.mk (show w.heap.size ≤ g1 by have := HB.out.size; omega); clear HB BK hb q0 q1 q2 q3 q4 BR1 hge1; have HB := HBn; have BK := BKn; clear HBn BKn; obtain ⟨q0, q1, q2, q3, q4⟩ := cells5 BK.out) | ((with_reducible refine gate_store (t := 159) rfl ?_); refine wpList_store_whole rfl rfl rfl g1 _ #[.int .i8 a1, .int .i8 a2, .int .i8 a3] _ rfl (by rfl) BR.out (by kernel_rfl) (by rfl) (arr3_one _ _ _) ?_; intro w4 hp; replace HB := Aside0.mk (hp.below HB.out GE1.out); replace BK := Aside0.mk ((hp.far g0 NE.out).trans BK.out); replace BR := Aside0.mk hp.blk; clear hp q0 q1 q2 q3 q4; obtain ⟨q0, q1, q2, q3, q4⟩ := cells5 BK.out) | ((with_reducible refine gate_dst (N := 28) rfl ?_); refine wpList_load_row rfl 159 _ rfl g1 rfl 159 _ (0, 0) _ BR.out Tryd.underlying159 rfl (by kernel_rfl) ?_))
 go_loop [29] (fun i => RegRel fv a1 a2 a3 i) (fun i => 3 - (intOf i).toNat)
 case atStart => exact .inl rfl
 case round =>
  rcases hrel with rfl | ⟨rfl, hg1⟩ | ⟨rfl, hg1, hg2⟩ | ⟨rfl, hg1, hg2, hg3⟩
  ·
   -- register 0
   by_cases c1 : a1 < 0
   ·
    have hbd : badReg fv a1 1 := .inl c1
    have Hbd := Aside0.mk (show BadIns fv a1 a2 a3 a4 from .inl hbd)
    clear hbd
    go_wp2
    go_ret2
    exact ⟨by obtain ⟨rfl, rfl⟩ := Hbad.out Hbd.out; rfl, HB.out⟩
   by_cases c2 : 16 ≤ a1
   ·
    have hbd : badReg fv a1 1 := .inr (.inl c2)
    have Hbd := Aside0.mk (show BadIns fv a1 a2 a3 a4 from .inl hbd)
    clear hbd
    go_wp2
    go_ret2
    exact ⟨by obtain ⟨rfl, rfl⟩ := Hbad.out Hbd.out; rfl, HB.out⟩
   by_cases c3 : a1 = 0
   ·
    have HG := Aside0.mk (show ¬ badReg fv a1 1 from fun h => by rcases h with h | h | h <;> omega)
    have e1 : (a1 != 0) = false := by simp [c3]
    clear c3
    go_wp2
    go_round
    case rel => exact .inr (.inl ⟨rfl, HG.out⟩)
    case measure => simp [intOf]
   have e1 : (a1 != 0) = true := by simp [c3]
   by_cases c4 : Go.bits .and .i64 fv 1 = 0
   ·
    have hbd : badReg fv a1 1 := .inr (.inr ⟨c3, c4⟩)
    have Hbd := Aside0.mk (show BadIns fv a1 a2 a3 a4 from .inl hbd)
    have e2 : (Go.bits .and .i64 fv 1 == 0) = true := by simp [c4]
    clear hbd c3 c4
    go_wp2
    go_ret2
    exact ⟨by obtain ⟨rfl, rfl⟩ := Hbad.out Hbd.out; rfl, HB.out⟩
   have HG := Aside0.mk (show ¬ badReg fv a1 1 from fun h => by rcases h with h | h | h <;> first | omega | exact c4 h.2)
   have e2 : (Go.bits .and .i64 fv 1 == 0) = false := by simp [c4]
   clear c3 c4
   go_wp2
   go_round
   case rel => exact .inr (.inl ⟨rfl, HG.out⟩)
   case measure => simp [intOf]
  ·
   -- register 1
   have H1 := Aside0.mk hg1
   clear hg1
   by_cases c1 : a2 < 0
   ·
    have hbd : badReg fv a2 2 := .inl c1
    have Hbd := Aside0.mk (show BadIns fv a1 a2 a3 a4 from .inr (.inl hbd))
    clear hbd
    go_wp2
    go_ret2
    exact ⟨by obtain ⟨rfl, rfl⟩ := Hbad.out Hbd.out; rfl, HB.out⟩
   by_cases c2 : 16 ≤ a2
   ·
    have hbd : badReg fv a2 2 := .inr (.inl c2)
    have Hbd := Aside0.mk (show BadIns fv a1 a2 a3 a4 from .inr (.inl hbd))
    clear hbd
    go_wp2
    go_ret2
    exact ⟨by obtain ⟨rfl, rfl⟩ := Hbad.out Hbd.out; rfl, HB.out⟩
   by_cases c3 : a2 = 0
   ·
    have HG := Aside0.mk (show ¬ badReg fv a2 2 from fun h => by rcases h with h | h | h <;> omega)
    have e1 : (a2 != 0) = false := by simp [c3]
    clear c3
    go_wp2
    go_round
    case rel => exact .inr (.inr (.inl ⟨rfl, H1.out, HG.out⟩))
    case measure => simp [intOf]
   have e1 : (a2 != 0) = true := by simp [c3]
   by_cases c4 : Go.bits .and .i64 fv 2 = 0
   ·
    have hbd : badReg fv a2 2 := .inr (.inr ⟨c3, c4⟩)
    have Hbd := Aside0.mk (show BadIns fv a1 a2 a3 a4 from .inr (.inl hbd))
    have e2 : (Go.bits .and .i64 fv 2 == 0) = true := by simp [c4]
    clear hbd c3 c4
    go_wp2
    go_ret2
    exact ⟨by obtain ⟨rfl, rfl⟩ := Hbad.out Hbd.out; rfl, HB.out⟩
   have HG := Aside0.mk (show ¬ badReg fv a2 2 from fun h => by rcases h with h | h | h <;> first | omega | exact c4 h.2)
   have e2 : (Go.bits .and .i64 fv 2 == 0) = false := by simp [c4]
   clear c3 c4
   go_wp2
   go_round
   case rel => exact .inr (.inr (.inl ⟨rfl, H1.out, HG.out⟩))
   case measure => simp [intOf]
  ·
   -- register 2
   have H1 := Aside0.mk hg1
   have H2 := Aside0.mk hg2
   clear hg1 hg2
   by_cases c1 : a3 < 0
   ·
    have hbd : badReg fv a3 4 := .inl c1
    have Hbd := Aside0.mk (show BadIns fv a1 a2 a3 a4 from .inr (.inr (.inl hbd)))
    clear hbd
    go_wp2
    go_ret2
    exact ⟨by obtain ⟨rfl, rfl⟩ := Hbad.out Hbd.out; rfl, HB.out⟩
   by_cases c2 : 16 ≤ a3
   ·
    have hbd : badReg fv a3 4 := .inr (.inl c2)
    have Hbd := Aside0.mk (show BadIns fv a1 a2 a3 a4 from .inr (.inr (.inl hbd)))
    clear hbd
    go_wp2
    go_ret2
    exact ⟨by obtain ⟨rfl, rfl⟩ := Hbad.out Hbd.out; rfl, HB.out⟩
   by_cases c3 : a3 = 0
   ·
    have HG := Aside0.mk (show ¬ badReg fv a3 4 from fun h => by rcases h with h | h | h <;> omega)
    have e1 : (a3 != 0) = false := by simp [c3]
    clear c3
    go_wp2
    go_round
    case rel => exact .inr (.inr (.inr ⟨rfl, H1.out, H2.out, HG.out⟩))
    case measure => simp [intOf]
   have e1 : (a3 != 0) = true := by simp [c3]
   by_cases c4 : Go.bits .and .i64 fv 4 = 0
   ·
    have hbd : badReg fv a3 4 := .inr (.inr ⟨c3, c4⟩)
    have Hbd := Aside0.mk (show BadIns fv a1 a2 a3 a4 from .inr (.inr (.inl hbd)))
    have e2 : (Go.bits .and .i64 fv 4 == 0) = true := by simp [c4]
    clear hbd c3 c4
    go_wp2
    go_ret2
    exact ⟨by obtain ⟨rfl, rfl⟩ := Hbad.out Hbd.out; rfl, HB.out⟩
   have HG := Aside0.mk (show ¬ badReg fv a3 4 from fun h => by rcases h with h | h | h <;> first | omega | exact c4 h.2)
   have e2 : (Go.bits .and .i64 fv 4 == 0) = false := by simp [c4]
   clear c3 c4
   go_wp2
   go_round
   case rel => exact .inr (.inr (.inr ⟨rfl, H1.out, H2.out, HG.out⟩))
   case measure => simp [intOf]
  ·
   have b1 : 0 ≤ a1 ∧ a1 < 16 := by unfold badReg at hg1; omega
   have b2 : 0 ≤ a2 ∧ a2 < 16 := by unfold badReg at hg2; omega
   have b3 : 0 ≤ a3 ∧ a3 < 16 := by unfold badReg at hg3; omega
   obtain ⟨b1l, b1h⟩ := b1
   obtain ⟨b2l, b2h⟩ := b2
   obtain ⟨b3l, b3h⟩ := b3
   have H1 := Aside0.mk hg1
   have H2 := Aside0.mk hg2
   have H3 := Aside0.mk hg3
   clear hg1 hg2 hg3 i0 i1 i2
   by_cases c5 : Go.bits .and .i64 fv 16 = 0
   ·
    have e5 : (Go.bits .and .i64 fv 16 != 0) = false := by simp [c5]
    by_cases c6 : Go.bits .and .i64 fv 8 = 0
    ·
     have e6 : (Go.bits .and .i64 fv 8 != 0) = false := by simp [c6]
     have HL := Aside0.mk (show lowT fv = 0 from by simp [lowT, *])
     have HH := Aside0.mk (show highT fv = 0 from by simp [highT, *])
     clear c5 c6
     by_cases c7 : a4 < 0
     ·
      have Hbd := Aside0.mk (show BadIns fv a1 a2 a3 a4 from .inr (.inr (.inr (.inl (by rw [HL.out]; exact c7)))))
      go_wp2
      go_ret2
      exact ⟨by obtain ⟨rfl, rfl⟩ := Hbad.out Hbd.out; rfl, HB.out⟩
     by_cases c8 : a4 > 0
     ·
      have Hbd := Aside0.mk (show BadIns fv a1 a2 a3 a4 from .inr (.inr (.inr (.inr (by rw [HH.out]; exact c8)))))
      go_wp2
      go_ret2
      exact ⟨by obtain ⟨rfl, rfl⟩ := Hbad.out Hbd.out; rfl, HB.out⟩
     have Hgd := Aside0.mk (show ¬ BadIns fv a1 a2 a3 a4 from fun h => by rcases h with h | h | h | h | h <;> first | exact H1.out h | exact H2.out h | exact H3.out h | (rw [HL.out] at h; omega) | (rw [HH.out] at h; omega))
     have c7' : 0 ≤ a4 := by omega
     have c8' : a4 ≤ 0 := by omega
     clear c7 c8
     go_wp2
     go_ret2
     obtain ⟨rfl, rfl⟩ := Hgood.out Hgd.out
     exact ⟨by unfold encW; first | rfl | (rw [show a4 % 4294967296 = a4 by omega]; rfl), HB.out⟩
    ·
     have e6 : (Go.bits .and .i64 fv 8 != 0) = true := by simp [c6]
     have HL := Aside0.mk (show lowT fv = (-16384) from by simp [lowT, *])
     have HH := Aside0.mk (show highT fv = 16383 from by simp [highT, *])
     clear c5 c6
     by_cases c7 : a4 < (-16384)
     ·
      have Hbd := Aside0.mk (show BadIns fv a1 a2 a3 a4 from .inr (.inr (.inr (.inl (by rw [HL.out]; exact c7)))))
      go_wp2
      go_ret2
      exact ⟨by obtain ⟨rfl, rfl⟩ := Hbad.out Hbd.out; rfl, HB.out⟩
     by_cases c8 : a4 > 16383
     ·
      have Hbd := Aside0.mk (show BadIns fv a1 a2 a3 a4 from .inr (.inr (.inr (.inr (by rw [HH.out]; exact c8)))))
      go_wp2
      go_ret2
      exact ⟨by obtain ⟨rfl, rfl⟩ := Hbad.out Hbd.out; rfl, HB.out⟩
     have Hgd := Aside0.mk (show ¬ BadIns fv a1 a2 a3 a4 from fun h => by rcases h with h | h | h | h | h <;> first | exact H1.out h | exact H2.out h | exact H3.out h | (rw [HL.out] at h; omega) | (rw [HH.out] at h; omega))
     have c7' : (-16384) ≤ a4 := by omega
     have c8' : a4 ≤ 16383 := by omega
     clear c7 c8
     go_wp2
     go_ret2
     obtain ⟨rfl, rfl⟩ := Hgood.out Hgd.out
     exact ⟨by unfold encW; first | rfl | (rw [show a4 % 4294967296 = a4 by omega]; rfl), HB.out⟩
   ·
    have e5 : (Go.bits .and .i64 fv 16 != 0) = true := by simp [c5]
    have HL := Aside0.mk (show lowT fv = 0 from by simp [lowT, *])
    have HH := Aside0.mk (show highT fv = 16383 from by simp [highT, *])
    clear c5
    by_cases c7 : a4 < 0
    ·
     have Hbd := Aside0.mk (show BadIns fv a1 a2 a3 a4 from .inr (.inr (.inr (.inl (by rw [HL.out]; exact c7)))))
     go_wp2
     go_ret2
     exact ⟨by obtain ⟨rfl, rfl⟩ := Hbad.out Hbd.out; rfl, HB.out⟩
    by_cases c8 : a4 > 16383
    ·
     have Hbd := Aside0.mk (show BadIns fv a1 a2 a3 a4 from .inr (.inr (.inr (.inr (by rw [HH.out]; exact c8)))))
     go_wp2
     go_ret2
     exact ⟨by obtain ⟨rfl, rfl⟩ := Hbad.out Hbd.out; rfl, HB.out⟩
    have Hgd := Aside0.mk (show ¬ BadIns fv a1 a2 a3 a4 from fun h => by rcases h with h | h | h | h | h <;> first | exact H1.out h | exact H2.out h | exact H3.out h | (rw [HL.out] at h; omega) | (rw [HH.out] at h; omega))
    have c7' : 0 ≤ a4 := by omega
    have c8' : a4 ≤ 16383 := by omega
    clear c7 c8
    go_wp2
    go_ret2
    obtain ⟨rfl, rfl⟩ := Hgood.out Hgd.out
    exact ⟨by unfold encW; first | rfl | (rw [show a4 % 4294967296 = a4 by omega]; rfl), HB.out⟩

instance (f r m : Int) : Decidable (badReg f r m) := by unfold badReg; infer_instance
instance (f a1 a2 a3 a4 : Int) : Decidable (BadIns f a1 a2 a3 a4) := by unfold BadIns; infer_instance
def isa_Encode.f (a0 a1 a2 a3 a4 : Int) : Option (Int × Int) :=
 if a0 < 0 then (some (0, 10)) else (if a0 ≥ 22 then (some (0, 10)) else (if BadIns (hasT a0) a1 a2 a3 a4 then (some (0, 11)) else (some (encW a0 a1 a2 a3 a4, 0))))
set_option maxHeartbeats 1000000 in
set_option maxRecDepth 100000 in
theorem isa_Encode.calls_out (a0 a1 a2 a3 a4 : Int) (w : World) (h : a0 < 0 ∨ 22 ≤ a0) :
  Calls Tryd.prog 70 #[.agg #[.int .i8 a0, .int .i8 a1, .int .i8 a2, .int .i8 a3, .int .i64 a4]] w fun e w' => e = .returned (.tuple #[.int .u32 0, .int .i64 10]) ∧ Below w.heap.size w w' := by
 rcases h with h | h
 ·
  go_enter Tryd.func70, Tryd.ntmps70
  go_wp2
  go_ret2
  exact ⟨rfl, (Below.refl _ _).alloc (Nat.le_refl _) _⟩
 ·
  have h2 : ¬ a0 < 0 := by omega
  go_enter Tryd.func70, Tryd.ntmps70
  go_wp2
  go_ret2
  exact ⟨rfl, (Below.refl _ _).alloc (Nat.le_refl _) _⟩
theorem isa_Encode.calls (a0 a1 a2 a3 a4 : Int) (r1 r2 : Int) (w : World) (h : isa_Encode.f a0 a1 a2 a3 a4 = some (r1, r2)) :
  Calls Tryd.prog 70 #[.agg #[.int .i8 a0, .int .i8 a1, .int .i8 a2, .int .i8 a3, .int .i64 a4]] w fun e w' => e = .returned (.tuple #[.int .u32 r1, .int .i64 r2]) ∧ Below w.heap.size w w' := by
 unfold isa_Encode.f at h
 by_cases c1 : a0 < 0
 ·
  rw [if_pos c1] at h
  injection h with h
  injection h with h1 h2
  subst h1 h2
  exact isa_Encode.calls_out a0 a1 a2 a3 a4 w (.inl c1)
 rw [if_neg c1] at h
 by_cases c2 : a0 ≥ 22
 ·
  rw [if_pos c2] at h
  injection h with h
  injection h with h1 h2
  subst h1 h2
  exact isa_Encode.calls_out a0 a1 a2 a3 a4 w (.inr c2)
 rw [if_neg c2] at h
 refine isa_Encode.calls_in a0 a1 a2 a3 a4 (hasT a0) r1 r2 w (by omega) (by omega) ⟨by unfold isa_has.f; rw [if_neg c1, if_neg c2]⟩ ⟨fun hb => ?_⟩ ⟨fun hb => ?_⟩
 ·
  rw [if_pos hb] at h
  injection h with h
  injection h with h1 h2
  exact ⟨h1.symm, h2.symm⟩
 ·
  rw [if_neg hb] at h
  injection h with h
  injection h with h1 h2
  exact ⟨h1.symm, h2.symm⟩

end Go.Proofs.YtiaohbbafaaibabDoor.P

/- OWN TEXT, written by mksq.py: short words for what the printed walks say again and again. -/
namespace Go.Proofs.YtiaohbbafaaibabDoor.P
open Go.RowKit Go.Proofs.YtiaohbbafaaibabDoorW.PrintWords Go.Proofs.YtiaohbbafaaibabDoorW.PrintLast Go.Proofs.YtiaohbbafaaibabDoorW.PrintMore
set_option linter.unusedVariables false
abbrev SmQ (W W0 : World) : Prop := W.heap = W0.heap ∧ W.os = W0.os ∧ W.tape = W0.tape ∧ W.output = W0.output
theorem bwQ {B : Nat} {w W W0 : World} (h : Below B w W0) (e : SmQ W W0 := by exact ⟨rfl, rfl, rfl, rfl⟩) : Below B w W := by
 obtain ⟨e1, e2, e3, e4⟩ := e
 exact ⟨e2.trans h.os, e3.trans h.tape, e4.trans h.output, by rw [e1]; exact h.size, fun k hk => by rw [e1]; exact h.block k hk⟩
theorem bsQ {w W W0 W1 : World} (hb : Below W.heap.size W W1) (h : Below w.heap.size w W0) (e : SmQ W W0 := by exact ⟨rfl, rfl, rfl, rfl⟩) : Below w.heap.size w W1 :=
 below_then (bwQ h e) (by rw [e.1]; exact h.size) hb
theorem bbQ {W W1 : World} {g : Nat} {o : Obj} (hb : Below W.heap.size W W1) (h : W.heap[g]? = some o) : W1.heap[g]? = some o := blk_below h hb
theorem gwQ {w W W0 : World} {g : Nat} (hg : g = W.heap.size) (h : Below w.heap.size w W0) (e : W.heap = W0.heap := by rfl) : w.heap.size ≤ g := by rw [hg, e]; exact h.size
theorem bs1Q {w W W1 : World} (hb : Below W.heap.size W W1) (h : Below w.heap.size w W) : Below w.heap.size w W1 := below_then h h.size hb
theorem gw1Q {w W : World} {g : Nat} (hg : g = W.heap.size) (h : Below w.heap.size w W) : w.heap.size ≤ g := by rw [hg]; exact h.size
theorem cbQ {α : Type} {d : Kd α} {w W W0 : World} {A : Option Addr} {n : Nat} {l : List α} (h : Below w.heap.size w W0) (hC : d.C w A n l) (e : SmQ W W0 := by exact ⟨rfl, rfl, rfl, rfl⟩) : d.C W A n l := Kd.C_below hC (bwQ h e)
theorem bcQ2 {W : World} {g t : Nat} {a0 a1 : Value} (h : W.heap[g]? = some (.cells #[a0, a1] t (0, 0))) : W.cell? ⟨g, 0, none⟩ = some a0 ∧ W.cell? ⟨g, 1, none⟩ = some a1 := ⟨blk_cell h 0, blk_cell h 1⟩
theorem bcQ3 {W : World} {g t : Nat} {a0 a1 a2 : Value} (h : W.heap[g]? = some (.cells #[a0, a1, a2] t (0, 0))) : W.cell? ⟨g, 0, none⟩ = some a0 ∧ W.cell? ⟨g, 1, none⟩ = some a1 ∧ W.cell? ⟨g, 2, none⟩ = some a2 := ⟨blk_cell h 0, blk_cell h 1, blk_cell h 2⟩
theorem bcQ5 {W : World} {g t : Nat} {a0 a1 a2 a3 a4 : Value} (h : W.heap[g]? = some (.cells #[a0, a1, a2, a3, a4] t (0, 0))) : W.cell? ⟨g, 0, none⟩ = some a0 ∧ W.cell? ⟨g, 1, none⟩ = some a1 ∧ W.cell? ⟨g, 2, none⟩ = some a2 ∧ W.cell? ⟨g, 3, none⟩ = some a3 ∧ W.cell? ⟨g, 4, none⟩ = some a4 := ⟨blk_cell h 0, blk_cell h 1, blk_cell h 2, blk_cell h 3, blk_cell h 4⟩
theorem bcQ6 {W : World} {g t : Nat} {a0 a1 a2 a3 a4 a5 : Value} (h : W.heap[g]? = some (.cells #[a0, a1, a2, a3, a4, a5] t (0, 0))) : W.cell? ⟨g, 0, none⟩ = some a0 ∧ W.cell? ⟨g, 1, none⟩ = some a1 ∧ W.cell? ⟨g, 2, none⟩ = some a2 ∧ W.cell? ⟨g, 3, none⟩ = some a3 ∧ W.cell? ⟨g, 4, none⟩ = some a4 ∧ W.cell? ⟨g, 5, none⟩ = some a5 := ⟨blk_cell h 0, blk_cell h 1, blk_cell h 2, blk_cell h 3, blk_cell h 4, blk_cell h 5⟩
theorem fzQ2 {W : World} {g t : Nat} {cs : Array Value} (h : W.heap[g]? = some (.cells cs t (0, 0))) : W.frozen? ⟨g, 0, none⟩ = false ∧ W.frozen? ⟨g, 1, none⟩ = false := ⟨blk_frozen h 0, blk_frozen h 1⟩
theorem fzQ3 {W : World} {g t : Nat} {cs : Array Value} (h : W.heap[g]? = some (.cells cs t (0, 0))) : W.frozen? ⟨g, 0, none⟩ = false ∧ W.frozen? ⟨g, 1, none⟩ = false ∧ W.frozen? ⟨g, 2, none⟩ = false := ⟨blk_frozen h 0, blk_frozen h 1, blk_frozen h 2⟩
theorem fzQ5 {W : World} {g t : Nat} {cs : Array Value} (h : W.heap[g]? = some (.cells cs t (0, 0))) : W.frozen? ⟨g, 0, none⟩ = false ∧ W.frozen? ⟨g, 1, none⟩ = false ∧ W.frozen? ⟨g, 2, none⟩ = false ∧ W.frozen? ⟨g, 3, none⟩ = false ∧ W.frozen? ⟨g, 4, none⟩ = false := ⟨blk_frozen h 0, blk_frozen h 1, blk_frozen h 2, blk_frozen h 3, blk_frozen h 4⟩
theorem fzQ6 {W : World} {g t : Nat} {cs : Array Value} (h : W.heap[g]? = some (.cells cs t (0, 0))) : W.frozen? ⟨g, 0, none⟩ = false ∧ W.frozen? ⟨g, 1, none⟩ = false ∧ W.frozen? ⟨g, 2, none⟩ = false ∧ W.frozen? ⟨g, 3, none⟩ = false ∧ W.frozen? ⟨g, 4, none⟩ = false ∧ W.frozen? ⟨g, 5, none⟩ = false := ⟨blk_frozen h 0, blk_frozen h 1, blk_frozen h 2, blk_frozen h 3, blk_frozen h 4, blk_frozen h 5⟩
theorem atQ68 {w W : World} {A : Option Addr} {n : Nat} {xs : List S68} (h : Kd.C k68 w A n xs) (hb : Below w.heap.size w W) (i : Int) (h0 : 0 ≤ i) (h1 : i < n) : ∃ ad , A = some ad ∧ W.cell? (ad.add (i.toNat * 2)) = some (.int .i64 (rd_T68 xs i).f0) ∧ W.cell? ⟨(ad.add (i.toNat * 2)).block, (ad.add (i.toNat * 2)).off + 1, none⟩ = some (.int .i64 (rd_T68 xs i).f1) := by
 obtain ⟨ad, e, x0, x1⟩ := at_T68 h i h0 h1
 exact ⟨ad, e, pw_cell_below hb x0, pw_cell_below hb x1⟩
theorem atQ27 {w W : World} {A : Option Addr} {n : Nat} {xs : List S27} (h : Kd.C k27 w A n xs) (hb : Below w.heap.size w W) (i : Int) (h0 : 0 ≤ i) (h1 : i < n) : ∃ ad A1 c1 A3 c3 A4 c4 A5 c5, A = some ad ∧ W.cell? (ad.add (i.toNat * 6)) = some (.string (rd_T27 xs i).f0) ∧ W.cell? ⟨(ad.add (i.toNat * 6)).block, (ad.add (i.toNat * 6)).off + 1, none⟩ = some (.slice A1 (rd_T27 xs i).f1.length c1) ∧ W.cell? ⟨(ad.add (i.toNat * 6)).block, (ad.add (i.toNat * 6)).off + 2, none⟩ = some (.int .i64 (rd_T27 xs i).f2) ∧ W.cell? ⟨(ad.add (i.toNat * 6)).block, (ad.add (i.toNat * 6)).off + 3, none⟩ = some (.slice A3 (rd_T27 xs i).f3.length c3) ∧ W.cell? ⟨(ad.add (i.toNat * 6)).block, (ad.add (i.toNat * 6)).off + 4, none⟩ = some (.slice A4 (rd_T27 xs i).f4.length c4) ∧ W.cell? ⟨(ad.add (i.toNat * 6)).block, (ad.add (i.toNat * 6)).off + 5, none⟩ = some (.slice A5 (rd_T27 xs i).f5.length c5) ∧ (rd_T27 xs i).f1.length ≤ c1 ∧ (Kd.int .u32).C w A1 (rd_T27 xs i).f1.length (rd_T27 xs i).f1 ∧ (rd_T27 xs i).f3.length ≤ c3 ∧ (Kd.int .i64).C w A3 (rd_T27 xs i).f3.length (rd_T27 xs i).f3 ∧ (rd_T27 xs i).f4.length ≤ c4 ∧ k75.C w A4 (rd_T27 xs i).f4.length (rd_T27 xs i).f4 ∧ (rd_T27 xs i).f5.length ≤ c5 ∧ k68.C w A5 (rd_T27 xs i).f5.length (rd_T27 xs i).f5 := by
 obtain ⟨ad, A1, c1, A3, c3, A4, c4, A5, c5, e, x0, x1, x2, x3, x4, x5, r⟩ := at_T27 h i h0 h1
 exact ⟨ad, A1, c1, A3, c3, A4, c4, A5, c5, e, pw_cell_below hb x0, pw_cell_below hb x1, pw_cell_below hb x2, pw_cell_below hb x3, pw_cell_below hb x4, pw_cell_below hb x5, r⟩
end Go.Proofs.YtiaohbbafaaibabDoor.P
