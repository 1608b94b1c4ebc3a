/- OWN TEXT and printed parts of this claim, laid together: HSymG, HSymF, HIsa, HIsaE, Sq, P6. -/
import Derived.Test.YtiaohbbafaaibabZrM0
import Derived.Outline
import Derived.Handy
import Derived.Deep.DeepMust
/- OWN TEXT: what all objects' names being gathered comes to: with a closure that does nothing, and with one that keeps the first Global name that was there. -/
namespace Go.Proofs.Ytiaohbbafaaibab.P
open Go.RowKit Go.Maps Go.Proofs.YtiaohbbafaaibabW.PrintWords Go.Proofs.YtiaohbbafaaibabW.PrintLast Go.Proofs.YtiaohbbafaaibabW.PrintMore Go.Proofs.Ytiaohbbafaaibab.Arr Go.Proofs.Ytiaohbbafaaibab.SymM
set_option linter.unusedVariables false
set_option linter.unusedSimpArgs false

abbrev ObjT := S27
def ob (l : List ObjT) (i : Nat) : ObjT := rd_T27 l (i : Int)
def gSym (L0 : List Ent) (syms : List Sym) (i : Int) : Nat → List Ent
 | 0 => L0
 | j + 1 => putL (gSym L0 syms i j) (sy syms j).f0 (sy syms j).f1 (sy syms j).f2 i
def gObj (l : List ObjT) : Nat → List Ent
 | 0 => []
 | i + 1 => gSym (gObj l i) (ob l i).f4 (i : Int) (ob l i).f4.length
/-- the first Global name that was there: its place. -/
def atStep (at_ : Int × Int) (L : List Ent) (s : Sym) (i k : Int) : Int × Int := if putB L s.f0 s.f1 = true then (if at_.1 < 0 then (if s.f1 = 1 then (i, k) else at_) else at_) else at_
def aSym (a0 : Int × Int) (L0 : List Ent) (syms : List Sym) (i : Int) : Nat → Int × Int
 | 0 => a0
 | j + 1 => atStep (aSym a0 L0 syms i j) (gSym L0 syms i j) (sy syms j) i (j : Int)
def aObj (l : List ObjT) : Nat → Int × Int
 | 0 => (-1, -1)
 | i + 1 => aSym (aObj l i) (gObj l i) (ob l i).f4 (i : Int) (ob l i).f4.length
def atCell (a b : Int) : Obj := .cells #[.int .i64 a, .int .i64 b] 80 (0, 0)
def lCell (A : Option Addr) (n c : Nat) : Obj := .cells #[.slice A n c] 44 (0, 0)
def keepV (a0 a1 i k kind : Int) : Int × Int := if a0 < 0 then (if kind = 1 then (i, k) else (a0, a1)) else (a0, a1)
def AtIs (W : World) (ga : Nat) (p : Int × Int) : Prop := W.heap[ga]? = some (atCell p.1 p.2)
theorem obj_oneS (s : ByteArray) (A1 : Option Addr) (n1 c1 : Nat) (a : Int) (A3 : Option Addr) (n3 c3 : Nat) (A4 : Option Addr) (n4 c4 : Nat) (A5 : Option Addr) (n5 c5 : Nat) : ((#[.string s, .slice A1 n1 c1, .int .i64 a, .slice A3 n3 c3, .slice A4 n4 c4, .slice A5 n5 c5] : Array Value).all fun v => v.oneCell') = true := by kernel_rfl
theorem at_one (a b : Int) : ((#[.int .i64 a, .int .i64 b] : Array Value).all fun v => v.oneCell') = true := by kernel_rfl
/-- a gathering with a closure that does nothing. -/
structure GA (w W : World) (b : Nat) (L : List Ent) : Prop where
  nm : NMap W b L
  low : Below w.heap.size w W
  nb : w.heap.size ≤ b
theorem GA.below {w W W1 : World} {b : Nat} {L : List Ent} (h : GA w W b L) (hb : Below W.heap.size W W1) : GA w W1 b L := ⟨h.nm.below hb, below_then h.low h.low.size hb, h.nb⟩
theorem GA.put {w W W1 : World} {b g : Nat} {L : List Ent} {cs : Array Value} {e : TypeId} (h : GA w W b L) (hp : Put W W1 g cs e) (hg : w.heap.size ≤ g) (hgb : b ≠ g) : GA w W1 b L := ⟨h.nm.kept (put_grownN hp) (fun e => hgb (Option.some.inj e)), hp.below h.low hg, h.nb⟩
theorem GA.upd {w W W1 : World} {b : Nat} {L L' : List Ent} (h : GA w W b L) (hn : NMap W1 b L') (hg : W.grownBy W1 (some b)) : GA w W1 b L' := ⟨hn, pw_below_grown h.low (some b) h.low.size hg (fun k hk => by have := Option.some.inj hk; have := h.nb; omega), h.nb⟩
/-- one with a closure that keeps a place in block ga and reads the objects in block gl. -/
structure GB (w0 w W : World) (ga gl b : Nat) (ol : Obj) (L : List Ent) (at_ : Int × Int) : Prop where
  nm : NMap W b L
  low : Below w0.heap.size w0 W
  gr : w.grownBy W (some ga)
  hat : W.heap[ga]? = some (atCell at_.1 at_.2)
  hl : W.heap[gl]? = some ol
  nb : w.heap.size ≤ b
  oa : w0.heap.size ≤ ga
  la : ga < w.heap.size
  ll : gl < w.heap.size
  ne : ga ≠ gl
theorem GB.size {w0 w W : World} {ga gl b : Nat} {ol : Obj} {L : List Ent} {at_ : Int × Int} (h : GB w0 w W ga gl b ol L at_) : w0.heap.size ≤ w.heap.size := by have := h.oa; have := h.la; omega
theorem GB.below {w0 w W W1 : World} {ga gl b : Nat} {ol : Obj} {L : List Ent} {at_ : Int × Int} (h : GB w0 w W ga gl b ol L at_) (hb : Below W.heap.size W W1) : GB w0 w W1 ga gl b ol L at_ :=
 ⟨h.nm.below hb, below_then h.low h.low.size hb, grownT h.gr (grown_of_below hb _), blk_below h.hat hb, blk_below h.hl hb, h.nb, h.oa, h.la, h.ll, h.ne⟩
theorem GB.put {w0 w W W1 : World} {ga gl b g : Nat} {ol : Obj} {L : List Ent} {at_ : Int × Int} {cs : Array Value} {e : TypeId} (h : GB w0 w W ga gl b ol L at_) (hp : Put W W1 g cs e) (hg : w.heap.size ≤ g) (hgb : b ≠ g) : GB w0 w W1 ga gl b ol L at_ :=
 ⟨h.nm.kept (put_grownN hp) (fun e => hgb (Option.some.inj e)), hp.below h.low (by have := h.size; omega), grown_put h.gr hp hg, blk_grown h.hat (put_grownN hp) (fun e => by have := h.la; have := Option.some.inj e; omega), blk_grown h.hl (put_grownN hp) (fun e => by have := h.ll; have := Option.some.inj e; omega), h.nb, h.oa, h.la, h.ll, h.ne⟩
theorem GB.upd {w0 w W W1 : World} {ga gl b : Nat} {ol : Obj} {L L' : List Ent} {at_ : Int × Int} (h : GB w0 w W ga gl b ol L at_) (hn : NMap W1 b L') (hg : W.grownBy W1 (some b)) : GB w0 w W1 ga gl b ol L' at_ :=
  ⟨hn, pw_below_grown h.low (some b) h.low.size hg (fun k hk => by have := Option.some.inj hk; have := h.nb; have := h.size; omega), ⟨hg.os.trans h.gr.os, hg.tape.trans h.gr.tape, hg.output.trans h.gr.output, Nat.le_trans h.gr.size hg.size, fun k hk hne => (hg.block k (Nat.lt_of_lt_of_le hk h.gr.size) (fun e => by have := Option.some.inj e; have := h.nb; omega)).trans (h.gr.block k hk hne)⟩,
   blk_grown h.hat hg (fun e => by have := Option.some.inj e; have := h.la; have := h.nb; omega), blk_grown h.hl hg (fun e => by have := Option.some.inj e; have := h.ll; have := h.nb; omega), h.nb, h.oa, h.la, h.ll, h.ne⟩
theorem GB.at {w0 w W W1 : World} {ga gl b : Nat} {ol : Obj} {L : List Ent} {at_ at2 : Int × Int} (h : GB w0 w W ga gl b ol L at_) (hg : W.grownBy W1 (some ga)) (ha : W1.heap[ga]? = some (atCell at2.1 at2.2)) : GB w0 w W1 ga gl b ol L at2 :=
 ⟨h.nm.kept hg (fun e => by have := Option.some.inj e; have := h.la; have := h.nb; omega), pw_below_grown h.low (some ga) h.low.size hg (fun k hk => by have := Option.some.inj hk; have := h.oa; omega), grownT h.gr hg, ha, blk_grown h.hl hg (fun e => h.ne (Option.some.inj e).symm), h.nb, h.oa, h.la, h.ll, h.ne⟩
set_option maxRecDepth 100000 in
theorem idle.calls (i k : Int) (W : World) : Calls Try.prog 45 #[.int .i64 i, .int .i64 k] W fun e w' => e = .returned (.tuple #[]) ∧ w' = W := by
 go_enter Try.func45, Try.ntmps45
 go_wp2
 refine Go.Great.bodyPost_end0 rfl rfl ?_
 exact ⟨rfl, rfl⟩

set_option maxHeartbeats 4000000 in
set_option maxRecDepth 100000 in
theorem keep.calls (i k : Nat) (a0 a1 : Int) (w0 W : World) (ga gl : Nat) (A0 : Option Addr) (c0 : Nat) (l0 : List ObjT) (hr0 : Kd.C k27 w0 A0 l0.length l0) (hlow : Below w0.heap.size w0 W) (hat : W.heap[ga]? = some (atCell a0 a1)) (hl : W.heap[gl]? = some (lCell A0 l0.length c0)) (hi : i < l0.length) (hk : k < (ob l0 i).f4.length) (hi2 : l0.length ≤ 1000000) :
  Calls Try.prog 41 #[.int .i64 (i : Int), .int .i64 (k : Int), .pointer (some ⟨ga, 0, none⟩), .pointer (some ⟨gl, 0, none⟩)] W fun e w' => e = .returned (.tuple #[]) ∧ W.grownBy w' (some ga) ∧ AtIs w' ga (keepV a0 a1 (i : Int) (k : Int) (sy (ob l0 i).f4 k).f1) := by
 have hu1 := Try.underlying27
 have hu2 := Try.underlying37
 have hu3 := Try.underlying80
 have HA := Aside0.mk hat
 have hca0 := blk_cell HA.out 0
 have hca1 := blk_cell HA.out 1
 clear hat
 by_cases c : a0 < 0
 ·
  have cb : decide (a0 < 0) = true := decide_eq_true c
  have HCC := Aside0.mk c
  clear c
  have hcl := blk_cell hl 0
  have p0 : (0 : Int) ≤ (i : Int) := by omega
  have q0 : (i : Int) < (l0.length : Int) := by omega
  obtain ⟨ad, A1, c1, A3, c3, A4, c4, A5, c5, eA, _, _, _, _, hx4, _, _, _, _, _, _, hC4, _, _⟩ := at_T27 hr0 (i : Int) p0 q0
  subst eA
  rw [show ((i : Int)).toNat = i by omega] at hx4
  rw [show rd_T27 l0 (i : Int) = ob l0 i from rfl] at hx4 hC4
  have p1 : (0 : Int) ≤ (k : Int) := by omega
  have q1 : (k : Int) < ((ob l0 i).f4.length : Int) := by omega
  obtain ⟨as_, eS, _, hy1, _⟩ := at_T37 hC4 (k : Int) p1 q1
  subst eS
  rw [show ((k : Int)).toNat = k by omega] at hy1
  rw [show rd_T37 (ob l0 i).f4 (k : Int) = sy (ob l0 i).f4 k from rfl] at hy1
  have hz4 := pw_cell_below hlow hx4
  have hz1 := pw_cell_below hlow hy1
  clear hx4 hy1 hC4 hl hr0 hlow
  generalize (ob l0 i).f4 = sl at hz4 hz1 q1 hk ⊢
  generalize sy sl k = s at hz1 ⊢
  obtain ⟨s0, s1, s2⟩ := s
  simp only at hz1
  have ti : ((i : Int)).toNat = i := by omega
  have tk : ((k : Int)).toNat = k := by omega
  replace p0 := eq_true p0
  replace q0 := eq_true q0
  replace p1 := eq_true p1
  replace q1 := eq_true q1
  by_cases c2 : s1 = 1
  ·
   subst c2
   go_enter Try.func41, Try.ntmps41
   go_wp2_with (first | ((with_reducible refine gate_store (t := 80) rfl ?_); refine wpList_store_whole rfl rfl rfl ga _ #[.int .i64 (i : Int), .int .i64 (k : Int)] _ rfl rfl HA.out (by kernel_rfl) rfl (at_one _ _) ?_; intro w9 hp; have HG := Aside0.mk (put_grownN hp); have HP := Aside0.mk hp.blk; clear hp))
   refine Go.Great.bodyPost_end0 rfl rfl ?_
   exact ⟨rfl, HG.out, by unfold AtIs keepV; rw [if_pos HCC.out, if_pos rfl]; exact HP.out⟩
  ·
   have c2b : (s1 == 1) = false := beq_eq_false_iff_ne.mpr c2
   have HC2 := Aside0.mk c2
   clear c2
   go_enter Try.func41, Try.ntmps41
   go_wp2
   refine Go.Great.bodyPost_end0 rfl rfl ?_
   exact ⟨rfl, grown_of_below (Below.refl _ _) _, by unfold AtIs keepV; rw [if_pos HCC.out, if_neg HC2.out]; exact HA.out⟩
 ·
  have cb : decide (a0 < 0) = false := decide_eq_false c
  have HCC := Aside0.mk c
  clear c
  go_enter Try.func41, Try.ntmps41
  go_wp2
  refine Go.Great.bodyPost_end0 rfl rfl ?_
  exact ⟨rfl, grown_of_below (Below.refl _ _) _, by unfold AtIs keepV; rw [if_neg (show ¬ a0 < 0 by have := HCC.out; omega)]; exact HA.out⟩

set_option maxHeartbeats 8000000 in
set_option maxRecDepth 100000 in
theorem gatherA.calls (A0 : Option Addr) (c0 : Nat) (l0 : List ObjT) (w : World) (hr0 : Kd.C k27 w A0 l0.length l0) (hlen : l0.length ≤ 1000000) (hsy : ∀ i, i < l0.length → (ob l0 i).f4.length ≤ 1000000000) :
  Calls Try.prog 40 #[.slice A0 l0.length c0, .func (.func 45) #[] #[]] w fun e w' => ∃ b, e = .returned (.map (some b)) ∧ NMap w' b (gObj l0 l0.length) ∧ Below w.heap.size w w' := by
 have hu1 := Try.underlying27
 have hu2 := Try.underlying37
 have HR := Aside0.mk hr0
 have HSY := Aside0.mk hsy
 clear hr0 hsy
 go_enter Try.func40, Try.ntmps40
 go_wp2_with (first | ((with_reducible refine gate_dst (N := 10) rfl ?_); refine wpList_make_names ?hg (N := 10) ?hd ?ho ?hr ?_; (case hd => rfl); (case hg => rfl); (case ho => rfl); (case hr => first | (go_simp; done) | (go_simp; rfl)); intro b hgb w1 hs0 hb; have HG := Aside0.mk (show GA w w1 b [] from ⟨hs0, hb, by rw [hgb]; exact Nat.le_refl _⟩); clear hs0 hb hgb))
 go_loopw [13] (fun u13 wr => ∃ i : Nat, u13 = .int .i64 (i : Int) ∧ i ≤ l0.length ∧ Aside0 (GA w wr b (gObj l0 i))) (fun u13 _ => l0.length - (intOf u13).toNat)
 case atStart => exact ⟨0, rfl, Nat.zero_le _, HG⟩
 case round =>
  clear HG
  obtain ⟨i, rfl, hile, HG⟩ := hrel
  by_cases hlt : i < l0.length
  ·
   have hgo : gObj l0 (i + 1) = gSym (gObj l0 i) (ob l0 i).f4 (i : Int) (ob l0 i).f4.length := rfl
   have p0 : (0 : Int) ≤ (i : Int) := by omega
   have q0 : (i : Int) < (l0.length : Int) := by omega
   obtain ⟨ad, A1, c1, A3, c3, A4, c4, A5, c5, eA, hx0, hx1, hx2, hx3, hx4, hx5, _, _, _, _, _, hC4, _, _⟩ := at_T27 HR.out (i : Int) p0 q0
   subst eA
   rw [show ((i : Int)).toNat = i by omega] at hx0 hx1 hx2 hx3 hx4 hx5
   rw [show rd_T27 l0 (i : Int) = ob l0 i from rfl] at hx0 hx1 hx2 hx3 hx4 hx5 hC4
   have hy0 := pw_cell_below HG.out.low hx0
   have hy1 := pw_cell_below HG.out.low hx1
   have hy2 := pw_cell_below HG.out.low hx2
   have hy3 := pw_cell_below HG.out.low hx3
   have hy4 := pw_cell_below HG.out.low hx4
   have hy5 := pw_cell_below HG.out.low hx5
   clear hx0 hx1 hx2 hx3 hx4 hx5
   have hsl := HSY.out i hlt
   have HLT := Aside0.mk hlt
   have HOB : Aside0 (∃ x, ob l0 i = x) := ⟨⟨_, rfl⟩⟩
   obtain ⟨x, hx⟩ := HOB.out
   have HX := Aside0.mk hx
   clear HOB
   rw [hx] at hy0 hy1 hy2 hy3 hy4 hy5 hC4 hgo hsl
   obtain ⟨x0, x1, x2, x3, x4, x5⟩ := x
   simp only at hy0 hy1 hy2 hy3 hy4 hy5 hC4 hgo hsl
   clear hx
   have HGO := Aside0.mk hgo
   have HC4 := Aside0.mk hC4
   clear hgo hC4
   have hltb : decide ((i : Int) < (l0.length : Int)) = true := decide_eq_true (by omega)
   have hwr : wrap64 ((i : Int) + 1) = ((i + 1 : Nat) : Int) := by rw [wrap64_id (by omega) (by omega)]; rfl
   have HWR := Aside0.mk hwr
   clear hwr
   replace p0 := eq_true p0
   replace q0 := eq_true q0
   go_wp2_with (first | ((with_reducible refine gate_dst (N := 7) rfl ?_); refine box_event ?hg (N := 7) ?hd (cs := #[.string (⟨#[]⟩ : ByteArray), .slice none 0 0, .int .i64 0, .slice none 0 0, .slice none 0 0, .slice none 0 0]) (t := 27) ?hr ?_; (case hd => rfl); (case hg => rfl); (case hr => first | (go_simp; done) | (go_simp; rfl)); intro go hgo2 w2 BK2 hb2; have BO := Aside0.mk BK2; have GO := Aside0.mk (show w.heap.size ≤ go by rw [hgo2]; exact HG.out.low.size); have NO := Aside0.mk (show b < go by rw [hgo2]; exact HG.out.nm.lt); have HGn := Aside0.mk (HG.out.below hb2); clear HG BK2 hb2 hgo2; have HG := HGn; clear HGn) | ((with_reducible refine gate_store (t := 27) rfl ?_); refine wpList_store_whole rfl rfl rfl go _ #[.string x0, .slice A1 x1.length c1, .int .i64 x2, .slice A3 x3.length c3, .slice A4 x4.length c4, .slice A5 x5.length c5] _ rfl rfl BO.out (by kernel_rfl) rfl (obj_oneS _ _ _ _ _ _ _ _ _ _ _ _ _ _) ?_; intro w3 hp; have HGn := Aside0.mk (HG.out.put hp GO.out (by have := NO.out; omega)); have BOn := Aside0.mk hp.blk; clear HG BO hp; have HG := HGn; have BO := BOn; clear HGn BOn; have ho0 := blk_cell BO.out 0; have ho4 := blk_cell BO.out 4))
   go_loopw [21] (fun u21 wr => ∃ j : Nat, u21 = .int .i64 (j : Int) ∧ j ≤ x4.length ∧ Aside0 (GA w wr b (gSym (gObj l0 i) x4 (i : Int) j))) (fun u21 _ => x4.length - (intOf u21).toNat)
   case atStart => exact ⟨0, rfl, Nat.zero_le _, HG⟩
   case round =>
    clear HG ho0 ho4 BO hy0 hy1 hy2 hy3 hy4 hy5
    obtain ⟨j, rfl, hjle, HG⟩ := hrel
    by_cases hlt2 : j < x4.length
    ·
     have hgs : gSym (gObj l0 i) x4 (i : Int) (j + 1) = putL (gSym (gObj l0 i) x4 (i : Int) j) (sy x4 j).f0 (sy x4 j).f1 (sy x4 j).f2 (i : Int) := rfl
     have p1 : (0 : Int) ≤ (j : Int) := by omega
     have q1 : (j : Int) < (x4.length : Int) := by omega
     obtain ⟨as_, eS, hz0, hz1, hz2⟩ := at_T37 HC4.out (j : Int) p1 q1
     subst eS
     rw [show ((j : Int)).toNat = j by omega] at hz0 hz1 hz2
     rw [show rd_T37 x4 (j : Int) = sy x4 j from rfl] at hz0 hz1 hz2
     have hw0 := pw_cell_below HG.out.low hz0
     have hw1 := pw_cell_below HG.out.low hz1
     have hw2 := pw_cell_below HG.out.low hz2
     clear hz0 hz1 hz2
     obtain ⟨sv, hsv⟩ : ∃ sv, sy x4 j = sv := ⟨_, rfl⟩
     rw [hsv] at hw0 hw1 hw2 hgs
     have HSV := Aside0.mk hsv
     clear hsv
     obtain ⟨sn, sk, sa⟩ := sv
     simp only at hw0 hw1 hw2 hgs
     obtain ⟨L1, hL1⟩ : ∃ L1, gSym (gObj l0 i) x4 (i : Int) j = L1 := ⟨_, rfl⟩
     rw [hL1] at HG hgs
     clear hL1
     have HGS := Aside0.mk hgs
     clear hgs
     have hltb2 : decide ((j : Int) < (x4.length : Int)) = true := decide_eq_true (by omega)
     have hwr2 : wrap64 ((j : Int) + 1) = ((j + 1 : Nat) : Int) := by rw [wrap64_id (by omega) (by omega)]; rfl
     have HWR2 := Aside0.mk hwr2
     clear hwr2
     replace p1 := eq_true p1
     replace q1 := eq_true q1
     have HL2 := Aside0.mk hlt2
     obtain ⟨pb, hpb⟩ : ∃ pb, putB L1 sn sk = pb := ⟨_, rfl⟩
     have HPB := Aside0.mk hpb
     clear hpb
     cases pb with
     | false =>
      go_wp2_with (first | ((with_reducible refine gate_dst (N := 9) rfl ?_); refine box_event ?hg (N := 9) ?hd (cs := #[.string (⟨#[]⟩ : ByteArray), .int .i8 0, .int .i64 0]) (t := 37) ?hr ?_; (case hd => rfl); (case hg => rfl); (case hr => first | (go_simp; done) | (go_simp; rfl)); intro gs hgs2 w4 BK4 hb4; have BS := Aside0.mk BK4; have GS := Aside0.mk (show w.heap.size ≤ gs by rw [hgs2]; exact HG.out.low.size); have NS := Aside0.mk (show b < gs by rw [hgs2]; exact HG.out.nm.lt); have HGn := Aside0.mk (HG.out.below hb4); clear HG BK4 hb4 hgs2; have HG := HGn; clear HGn) | ((with_reducible refine gate_store (t := 37) rfl ?_); refine wpList_store_whole rfl rfl rfl gs _ #[.string sn, .int .i8 sk, .int .i64 sa] _ rfl rfl BS.out (by kernel_rfl) rfl (sym_one _ _ _) ?_; intro w5 hp; have HGn := Aside0.mk (HG.out.put hp GS.out (by have := NS.out; omega)); have BSn := Aside0.mk hp.blk; clear HG BS hp; have HG := HGn; have BS := BSn; clear HGn BSn; have hs0 := blk_cell BS.out 0; have hs1 := blk_cell BS.out 1; have hs2 := blk_cell BS.out 2) | (go_at_call 54; refine (put.calls sn sk sa (i : Int) _ b L1 HG.out.nm).mono ?_; rintro e w6 ⟨rfl, hn, hg⟩; have HGn := Aside0.mk (HG.out.upd hn hg); clear HG BS hn hg hs0 hs1 hs2; have HG := HGn; clear HGn; rw [HPB.out]))
      go_roundw
      case measure => have hq := HL2.out; (try rw [HWR2.out]); simp only [intOf]; omega
      case rel => exact ⟨j + 1, by first | rfl | (rw [HWR2.out]; done), by have := HL2.out; omega, ⟨by rw [HGS.out]; exact HG.out⟩⟩
     | true =>
      go_wp2_with (first | ((with_reducible refine gate_dst (N := 9) rfl ?_); refine box_event ?hg (N := 9) ?hd (cs := #[.string (⟨#[]⟩ : ByteArray), .int .i8 0, .int .i64 0]) (t := 37) ?hr ?_; (case hd => rfl); (case hg => rfl); (case hr => first | (go_simp; done) | (go_simp; rfl)); intro gs hgs2 w4 BK4 hb4; have BS := Aside0.mk BK4; have GS := Aside0.mk (show w.heap.size ≤ gs by rw [hgs2]; exact HG.out.low.size); have NS := Aside0.mk (show b < gs by rw [hgs2]; exact HG.out.nm.lt); have HGn := Aside0.mk (HG.out.below hb4); clear HG BK4 hb4 hgs2; have HG := HGn; clear HGn) | ((with_reducible refine gate_store (t := 37) rfl ?_); refine wpList_store_whole rfl rfl rfl gs _ #[.string sn, .int .i8 sk, .int .i64 sa] _ rfl rfl BS.out (by kernel_rfl) rfl (sym_one _ _ _) ?_; intro w5 hp; have HGn := Aside0.mk (HG.out.put hp GS.out (by have := NS.out; omega)); have BSn := Aside0.mk hp.blk; clear HG BS hp; have HG := HGn; have BS := BSn; clear HGn BSn; have hs0 := blk_cell BS.out 0; have hs1 := blk_cell BS.out 1; have hs2 := blk_cell BS.out 2) | (go_at_call 54; refine (put.calls sn sk sa (i : Int) _ b L1 HG.out.nm).mono ?_; rintro e w6 ⟨rfl, hn, hg⟩; have HGn := Aside0.mk (HG.out.upd hn hg); clear HG BS hn hg hs0 hs1 hs2; have HG := HGn; clear HGn; rw [HPB.out]) | (go_at_call 45; refine (idle.calls _ _ _).mono ?_; rintro e w7 ⟨rfl, rfl⟩))
      go_roundw
      case measure => have hq := HL2.out; (try rw [HWR2.out]); simp only [intOf]; omega
      case rel => exact ⟨j + 1, by first | rfl | (rw [HWR2.out]; done), by have := HL2.out; omega, ⟨by rw [HGS.out]; exact HG.out⟩⟩
    ·
     have hj0 : j = x4.length := by omega
     subst hj0
     have hltb2 : decide ((x4.length : Int) < (x4.length : Int)) = false := by simp
     clear hlt2 hjle
     go_wp2
     go_roundw
     case measure => have hq := HLT.out; (try rw [HWR.out]); simp only [intOf]; omega
     case rel => exact ⟨i + 1, by first | rfl | (rw [HWR.out]; done), by have := HLT.out; omega, ⟨by rw [HGO.out]; exact HG.out⟩⟩
  ·
   have hi0 : i = l0.length := by omega
   subst hi0
   have hltb : decide ((l0.length : Int) < (l0.length : Int)) = false := by simp
   clear hlt hile
   go_wp2
   go_ret
   exact ⟨b, rfl, HG.out.nm, HG.out.low⟩
set_option maxHeartbeats 8000000 in
set_option maxRecDepth 100000 in
theorem gatherB.calls (w0 : World) (ga gl : Nat) (A0 : Option Addr) (c0 : Nat) (l0 : List ObjT) (w : World) (hr0 : Kd.C k27 w0 A0 l0.length l0) (hlow : Below w0.heap.size w0 w) (hat : w.heap[ga]? = some (atCell (-1) (-1))) (hl : w.heap[gl]? = some (lCell A0 l0.length c0)) (hoa : w0.heap.size ≤ ga) (hne : ga ≠ gl) (hlen : l0.length ≤ 1000000) (hsy : ∀ i, i < l0.length → (ob l0 i).f4.length ≤ 1000000000) :
  Calls Try.prog 40 #[.slice A0 l0.length c0, .func (.func 41) #[] #[.pointer (some ⟨ga, 0, none⟩), .pointer (some ⟨gl, 0, none⟩)]] w fun e w' => ∃ b, e = .returned (.map (some b)) ∧ GB w0 w w' ga gl b (lCell A0 l0.length c0) (gObj l0 l0.length) (aObj l0 l0.length) := by
 have hu1 := Try.underlying27
 have hu2 := Try.underlying37
 have HR := Aside0.mk hr0
 have HSY := Aside0.mk hsy
 clear hr0 hsy
 have HLW := Aside0.mk hlow
 have HAT := Aside0.mk hat
 have HLL := Aside0.mk hl
 have HOA := Aside0.mk hoa
 have HNE := Aside0.mk hne
 clear hlow hat hl hoa hne
 go_enter Try.func40, Try.ntmps40
 go_wp2_with (first | ((with_reducible refine gate_dst (N := 10) rfl ?_); refine wpList_make_names ?hg (N := 10) ?hd ?ho ?hr ?_; (case hd => rfl); (case hg => rfl); (case ho => rfl); (case hr => first | (go_simp; done) | (go_simp; rfl)); intro b hgb w1 hs0 hb; have HG := Aside0.mk (show GB w0 w w1 ga gl b (lCell A0 l0.length c0) [] (-1, -1) from ⟨hs0, below_then HLW.out HLW.out.size hb, grown_of_below hb _, blk_below HAT.out hb, blk_below HLL.out hb, by rw [hgb]; exact Nat.le_refl _, HOA.out, blk_lt HAT.out, blk_lt HLL.out, HNE.out⟩); clear hs0 hb hgb))
 go_loopw [13] (fun u13 wr => ∃ i : Nat, u13 = .int .i64 (i : Int) ∧ i ≤ l0.length ∧ Aside0 (GB w0 w wr ga gl b (lCell A0 l0.length c0) (gObj l0 i) (aObj l0 i))) (fun u13 _ => l0.length - (intOf u13).toNat)
 case atStart => exact ⟨0, rfl, Nat.zero_le _, HG⟩
 case round =>
  clear HG
  obtain ⟨i, rfl, hile, HG⟩ := hrel
  by_cases hlt : i < l0.length
  ·
   have hgo : gObj l0 (i + 1) = gSym (gObj l0 i) (ob l0 i).f4 (i : Int) (ob l0 i).f4.length := rfl
   have hao : aObj l0 (i + 1) = aSym (aObj l0 i) (gObj l0 i) (ob l0 i).f4 (i : Int) (ob l0 i).f4.length := rfl
   have p0 : (0 : Int) ≤ (i : Int) := by omega
   have q0 : (i : Int) < (l0.length : Int) := by omega
   obtain ⟨ad, A1, c1, A3, c3, A4, c4, A5, c5, eA, hx0, hx1, hx2, hx3, hx4, hx5, _, _, _, _, _, hC4, _, _⟩ := at_T27 HR.out (i : Int) p0 q0
   subst eA
   rw [show ((i : Int)).toNat = i by omega] at hx0 hx1 hx2 hx3 hx4 hx5
   rw [show rd_T27 l0 (i : Int) = ob l0 i from rfl] at hx0 hx1 hx2 hx3 hx4 hx5 hC4
   have hy0 := pw_cell_below HG.out.low hx0
   have hy1 := pw_cell_below HG.out.low hx1
   have hy2 := pw_cell_below HG.out.low hx2
   have hy3 := pw_cell_below HG.out.low hx3
   have hy4 := pw_cell_below HG.out.low hx4
   have hy5 := pw_cell_below HG.out.low hx5
   clear hx0 hx1 hx2 hx3 hx4 hx5
   have hsl := HSY.out i hlt
   have HLT := Aside0.mk hlt
   have HIX := Aside0.mk (show ∀ k, k < (ob l0 i).f4.length → k < (ob l0 i).f4.length from fun k h => h)
   have HOB : Aside0 (∃ x, ob l0 i = x) := ⟨⟨_, rfl⟩⟩
   obtain ⟨x, hx⟩ := HOB.out
   have HX := Aside0.mk hx
   clear HOB
   rw [hx] at hy0 hy1 hy2 hy3 hy4 hy5 hC4 hgo hsl hao
   obtain ⟨x0, x1, x2, x3, x4, x5⟩ := x
   simp only at hy0 hy1 hy2 hy3 hy4 hy5 hC4 hgo hsl hao
   clear hx
   have HGO := Aside0.mk hgo
   have HC4 := Aside0.mk hC4
   clear hgo hC4
   have HAO := Aside0.mk hao
   clear hao
   have hltb : decide ((i : Int) < (l0.length : Int)) = true := decide_eq_true (by omega)
   have hwr : wrap64 ((i : Int) + 1) = ((i + 1 : Nat) : Int) := by rw [wrap64_id (by omega) (by omega)]; rfl
   have HWR := Aside0.mk hwr
   clear hwr
   replace p0 := eq_true p0
   replace q0 := eq_true q0
   go_wp2_with (first | ((with_reducible refine gate_dst (N := 7) rfl ?_); refine box_event ?hg (N := 7) ?hd (cs := #[.string (⟨#[]⟩ : ByteArray), .slice none 0 0, .int .i64 0, .slice none 0 0, .slice none 0 0, .slice none 0 0]) (t := 27) ?hr ?_; (case hd => rfl); (case hg => rfl); (case hr => first | (go_simp; done) | (go_simp; rfl)); intro go hgo2 w2 BK2 hb2; have BO := Aside0.mk BK2; have GO := Aside0.mk (show w.heap.size ≤ go by rw [hgo2]; exact HG.out.gr.size); have NO := Aside0.mk (show b < go by rw [hgo2]; exact HG.out.nm.lt); have HGn := Aside0.mk (HG.out.below hb2); clear HG BK2 hb2 hgo2; have HG := HGn; clear HGn) | ((with_reducible refine gate_store (t := 27) rfl ?_); refine wpList_store_whole rfl rfl rfl go _ #[.string x0, .slice A1 x1.length c1, .int .i64 x2, .slice A3 x3.length c3, .slice A4 x4.length c4, .slice A5 x5.length c5] _ rfl rfl BO.out (by kernel_rfl) rfl (obj_oneS _ _ _ _ _ _ _ _ _ _ _ _ _ _) ?_; intro w3 hp; have HGn := Aside0.mk (HG.out.put hp GO.out (by have := NO.out; omega)); have BOn := Aside0.mk hp.blk; clear HG BO hp; have HG := HGn; have BO := BOn; clear HGn BOn; have ho0 := blk_cell BO.out 0; have ho4 := blk_cell BO.out 4))
   go_loopw [21] (fun u21 wr => ∃ j : Nat, u21 = .int .i64 (j : Int) ∧ j ≤ x4.length ∧ Aside0 (GB w0 w wr ga gl b (lCell (some ad) l0.length c0) (gSym (gObj l0 i) x4 (i : Int) j) (aSym (aObj l0 i) (gObj l0 i) x4 (i : Int) j))) (fun u21 _ => x4.length - (intOf u21).toNat)
   case atStart => exact ⟨0, rfl, Nat.zero_le _, HG⟩
   case round =>
    clear HG ho0 ho4 BO hy0 hy1 hy2 hy3 hy4 hy5
    obtain ⟨j, rfl, hjle, HG⟩ := hrel
    by_cases hlt2 : j < x4.length
    ·
     have hgs : gSym (gObj l0 i) x4 (i : Int) (j + 1) = putL (gSym (gObj l0 i) x4 (i : Int) j) (sy x4 j).f0 (sy x4 j).f1 (sy x4 j).f2 (i : Int) := rfl
     have has : aSym (aObj l0 i) (gObj l0 i) x4 (i : Int) (j + 1) = atStep (aSym (aObj l0 i) (gObj l0 i) x4 (i : Int) j) (gSym (gObj l0 i) x4 (i : Int) j) (sy x4 j) (i : Int) (j : Int) := rfl
     have p1 : (0 : Int) ≤ (j : Int) := by omega
     have q1 : (j : Int) < (x4.length : Int) := by omega
     obtain ⟨as_, eS, hz0, hz1, hz2⟩ := at_T37 HC4.out (j : Int) p1 q1
     subst eS
     rw [show ((j : Int)).toNat = j by omega] at hz0 hz1 hz2
     rw [show rd_T37 x4 (j : Int) = sy x4 j from rfl] at hz0 hz1 hz2
     have hw0 := pw_cell_below HG.out.low hz0
     have hw1 := pw_cell_below HG.out.low hz1
     have hw2 := pw_cell_below HG.out.low hz2
     clear hz0 hz1 hz2
     obtain ⟨sv, hsv⟩ : ∃ sv, sy x4 j = sv := ⟨_, rfl⟩
     rw [hsv] at hw0 hw1 hw2 hgs has
     have HSV := Aside0.mk hsv
     clear hsv
     obtain ⟨sn, sk, sa⟩ := sv
     simp only at hw0 hw1 hw2 hgs
     obtain ⟨L1, hL1⟩ : ∃ L1, gSym (gObj l0 i) x4 (i : Int) j = L1 := ⟨_, rfl⟩
     rw [hL1] at HG hgs has
     clear hL1
     have HGS := Aside0.mk hgs
     clear hgs
     obtain ⟨a2, ha2⟩ : ∃ a2, aSym (aObj l0 i) (gObj l0 i) x4 (i : Int) j = a2 := ⟨_, rfl⟩
     rw [ha2] at HG has
     clear ha2
     have HAS := Aside0.mk has
     clear has
     have hltb2 : decide ((j : Int) < (x4.length : Int)) = true := decide_eq_true (by omega)
     have hwr2 : wrap64 ((j : Int) + 1) = ((j + 1 : Nat) : Int) := by rw [wrap64_id (by omega) (by omega)]; rfl
     have HWR2 := Aside0.mk hwr2
     clear hwr2
     replace p1 := eq_true p1
     replace q1 := eq_true q1
     have HL2 := Aside0.mk hlt2
     obtain ⟨pb, hpb⟩ : ∃ pb, putB L1 sn sk = pb := ⟨_, rfl⟩
     have HPB := Aside0.mk hpb
     clear hpb
     cases pb with
     | false =>
      have HAT2 := Aside0.mk (show atStep a2 L1 ⟨sn, sk, sa⟩ (i : Int) (j : Int) = a2 by unfold atStep; rw [if_neg (by rw [HPB.out]; decide)])
      go_wp2_with (first | ((with_reducible refine gate_dst (N := 9) rfl ?_); refine box_event ?hg (N := 9) ?hd (cs := #[.string (⟨#[]⟩ : ByteArray), .int .i8 0, .int .i64 0]) (t := 37) ?hr ?_; (case hd => rfl); (case hg => rfl); (case hr => first | (go_simp; done) | (go_simp; rfl)); intro gs hgs2 w4 BK4 hb4; have BS := Aside0.mk BK4; have GS := Aside0.mk (show w.heap.size ≤ gs by rw [hgs2]; exact HG.out.gr.size); have NS := Aside0.mk (show b < gs by rw [hgs2]; exact HG.out.nm.lt); have HGn := Aside0.mk (HG.out.below hb4); clear HG BK4 hb4 hgs2; have HG := HGn; clear HGn) | ((with_reducible refine gate_store (t := 37) rfl ?_); refine wpList_store_whole rfl rfl rfl gs _ #[.string sn, .int .i8 sk, .int .i64 sa] _ rfl rfl BS.out (by kernel_rfl) rfl (sym_one _ _ _) ?_; intro w5 hp; have HGn := Aside0.mk (HG.out.put hp GS.out (by have := NS.out; omega)); have BSn := Aside0.mk hp.blk; clear HG BS hp; have HG := HGn; have BS := BSn; clear HGn BSn; have hs0 := blk_cell BS.out 0; have hs1 := blk_cell BS.out 1; have hs2 := blk_cell BS.out 2) | (go_at_call 54; refine (put.calls sn sk sa (i : Int) _ b L1 HG.out.nm).mono ?_; rintro e w6 ⟨rfl, hn, hg⟩; have HGn := Aside0.mk (HG.out.upd hn hg); clear HG BS hn hg hs0 hs1 hs2; have HG := HGn; clear HGn; rw [HPB.out]))
      go_roundw
      case measure => have hq := HL2.out; (try rw [HWR2.out]); simp only [intOf]; omega
      case rel => exact ⟨j + 1, by first | rfl | (rw [HWR2.out]; done), by have := HL2.out; omega, ⟨by rw [HGS.out, HAS.out, HAT2.out]; exact HG.out⟩⟩
     | true =>
      have HAT2 := Aside0.mk (show atStep a2 L1 ⟨sn, sk, sa⟩ (i : Int) (j : Int) = keepV a2.1 a2.2 (i : Int) (j : Int) (sy (ob l0 i).f4 j).f1 by unfold atStep keepV; rw [if_pos HPB.out, HX.out, show sy (⟨x0, x1, x2, x3, x4, x5⟩ : ObjT).f4 j = (⟨sn, sk, sa⟩ : Sym) from HSV.out])
      go_wp2_with (first | ((with_reducible refine gate_dst (N := 9) rfl ?_); refine box_event ?hg (N := 9) ?hd (cs := #[.string (⟨#[]⟩ : ByteArray), .int .i8 0, .int .i64 0]) (t := 37) ?hr ?_; (case hd => rfl); (case hg => rfl); (case hr => first | (go_simp; done) | (go_simp; rfl)); intro gs hgs2 w4 BK4 hb4; have BS := Aside0.mk BK4; have GS := Aside0.mk (show w.heap.size ≤ gs by rw [hgs2]; exact HG.out.gr.size); have NS := Aside0.mk (show b < gs by rw [hgs2]; exact HG.out.nm.lt); have HGn := Aside0.mk (HG.out.below hb4); clear HG BK4 hb4 hgs2; have HG := HGn; clear HGn) | ((with_reducible refine gate_store (t := 37) rfl ?_); refine wpList_store_whole rfl rfl rfl gs _ #[.string sn, .int .i8 sk, .int .i64 sa] _ rfl rfl BS.out (by kernel_rfl) rfl (sym_one _ _ _) ?_; intro w5 hp; have HGn := Aside0.mk (HG.out.put hp GS.out (by have := NS.out; omega)); have BSn := Aside0.mk hp.blk; clear HG BS hp; have HG := HGn; have BS := BSn; clear HGn BSn; have hs0 := blk_cell BS.out 0; have hs1 := blk_cell BS.out 1; have hs2 := blk_cell BS.out 2) | (go_at_call 54; refine (put.calls sn sk sa (i : Int) _ b L1 HG.out.nm).mono ?_; rintro e w6 ⟨rfl, hn, hg⟩; have HGn := Aside0.mk (HG.out.upd hn hg); clear HG BS hn hg hs0 hs1 hs2; have HG := HGn; clear HGn; rw [HPB.out]) | (go_at_call 41; refine (keep.calls i j a2.1 a2.2 w0 _ ga gl _ c0 l0 HR.out HG.out.low HG.out.hat HG.out.hl HLT.out (by rw [HX.out]; exact HL2.out) (by assumption)).mono ?_; rintro e w7 ⟨rfl, hg, hat2⟩; have HGn := Aside0.mk (HG.out.at hg hat2); clear HG hg hat2; have HG := HGn; clear HGn))
      go_roundw
      case measure => have hq := HL2.out; (try rw [HWR2.out]); simp only [intOf]; omega
      case rel => exact ⟨j + 1, by first | rfl | (rw [HWR2.out]; done), by have := HL2.out; omega, ⟨by rw [HGS.out, HAS.out, HAT2.out]; exact HG.out⟩⟩
    ·
     have hj0 : j = x4.length := by omega
     subst hj0
     have hltb2 : decide ((x4.length : Int) < (x4.length : Int)) = false := by simp
     clear hlt2 hjle
     go_wp2
     go_roundw
     case measure => have hq := HLT.out; (try rw [HWR.out]); simp only [intOf]; omega
     case rel => exact ⟨i + 1, by first | rfl | (rw [HWR.out]; done), by have := HLT.out; omega, ⟨by rw [HGO.out, HAO.out]; exact HG.out⟩⟩
  ·
   have hi0 : i = l0.length := by omega
   subst hi0
   have hltb : decide ((l0.length : Int) < (l0.length : Int)) = false := by simp
   clear hlt hile
   go_wp2
   go_ret
   exact ⟨b, rfl, HG.out⟩
end Go.Proofs.Ytiaohbbafaaibab.P

/- OWN TEXT: symbol.Find, walked: the names of all objects, gathered, and one of them looked for. -/
namespace Go.Proofs.Ytiaohbbafaaibab.P
open Go.RowKit Go.Maps Go.Proofs.YtiaohbbafaaibabW.PrintWords Go.Proofs.YtiaohbbafaaibabW.PrintLast Go.Proofs.YtiaohbbafaaibabW.PrintMore Go.Proofs.Ytiaohbbafaaibab.Arr Go.Proofs.Ytiaohbbafaaibab.SymM
set_option linter.unusedVariables false
set_option linter.unusedSimpArgs false
set_option maxHeartbeats 4000000 in
set_option maxRecDepth 100000 in
theorem symFind.calls (A0 : Option Addr) (c0 : Nat) (l0 : List ObjT) (sn : ByteArray) (w : World) (hr0 : Kd.C k27 w A0 l0.length l0) (hlen : l0.length ≤ 1000000) (hsy : ∀ i, i < l0.length → (ob l0 i).f4.length ≤ 1000000000) :
  Calls Try.prog 18 #[.slice A0 l0.length c0, .string sn] w fun e w' => e = .returned (.tuple #[.agg #[.int .i64 (findR (gObj l0 l0.length) sn).1, .int .i64 (findR (gObj l0 l0.length) sn).2.1], .bool (findR (gObj l0 l0.length) sn).2.2]) ∧ Below w.heap.size w w' := by
 have hu3 := Try.underlying54
 have HR := Aside0.mk hr0
 have HSY := Aside0.mk hsy
 have HLE := Aside0.mk hlen
 clear hr0 hsy hlen
 generalize hL : findR (gObj l0 l0.length) sn = r
 have HRR := Aside0.mk hL
 clear hL
 obtain ⟨r0, r1, r2⟩ := r
 go_enter Try.func18, Try.ntmps18
 go_wp2_with (first | ((with_reducible refine gate_dst (N := 4) rfl ?_); refine box_event ?hg (N := 4) ?hd (cs := #[.int .i64 0, .int .i64 0]) (t := 54) ?hr ?_; (case hd => rfl); (case hg => rfl); (case hr => first | (go_simp; done) | (go_simp; rfl)); intro gr hgr w1 BK1 hb1; have BR := Aside0.mk BK1; have GR := Aside0.mk (show w.heap.size ≤ gr by rw [hgr]; exact Nat.le_refl _); have HB := Aside0.mk hb1; clear BK1 hb1 hgr) | (go_at_call 40; refine (gatherA.calls _ _ l0 _ (Kd.C_below HR.out HB.out) HLE.out HSY.out).mono ?_; rintro e w2 ⟨bm, rfl, hn2, hb2⟩; have HN := Aside0.mk hn2; have HBn := Aside0.mk (below_then HB.out HB.out.size hb2); have BRn := Aside0.mk (blk_below BR.out hb2); clear HB BR hn2 hb2; have HB := HBn; have BR := BRn; clear HBn BRn) | (go_at_call 42; refine (find.calls sn _ bm _ HN.out).mono ?_; rw [HRR.out]; rintro e w3 ⟨rfl, hb3⟩; have HBn := Aside0.mk (below_then HB.out HB.out.size hb3); have BRn := Aside0.mk (blk_below BR.out hb3); clear HB BR hb3 HN; have HB := HBn; have BR := BRn; clear HBn BRn) | ((with_reducible refine gate_store (t := 54) rfl ?_); refine wpList_store_whole rfl rfl rfl gr _ #[.int .i64 r0, .int .i64 r1] _ rfl rfl BR.out (by kernel_rfl) rfl (def_one _ _) ?_; intro w4 hp; have HE := Aside0.mk (hp.below HB.out GR.out); have HPf := Aside0.mk hp.blk; clear hp))
 refine bodyPost_ret (results_ct rfl _ _ gr 54 #[.int .i64 r0, .int .i64 r1] (0, 0) _ rfl HPf.out Try.underlying54 rfl (by kernel_rfl)) rfl ?_
 exact ⟨rfl, HE.out⟩
def symbol_Find.f (l0 : List ObjT) (a1 : ByteArray) : Option (Int × Int × Bool) := if (decide (l0.length ≤ 1000000) && (List.range l0.length).all fun i => decide ((ob l0 i).f4.length ≤ 1000000000)) = true then some (findR (gObj l0 l0.length) a1) else none
theorem symbol_Find.calls (A0 : Option Addr) (c0 : Nat) (l0 : List ObjT) (a1 : ByteArray) (r1 : Int) (r2 : Int) (r3 : Bool) (w : World) (hr0 : Kd.C k27 w A0 l0.length l0) (hc0 : l0.length ≤ c0) (h : symbol_Find.f l0 a1 = some (r1, r2, r3)) :
  Calls Try.prog 18 #[.slice A0 l0.length c0, .string a1] w fun e w' => e = .returned (.tuple #[.agg #[.int .i64 r1, .int .i64 r2], .bool r3]) ∧ Below w.heap.size w w' := by
 unfold symbol_Find.f at h
 split at h
 ·
  next hb =>
  rw [Bool.and_eq_true, decide_eq_true_eq, List.all_eq_true] at hb
  have hq := symFind.calls A0 c0 l0 a1 w hr0 hb.1 (fun i hi => of_decide_eq_true (hb.2 i (List.mem_range.mpr hi)))
  rw [Option.some.inj h] at hq
  exact hq
 ·
  exact absurd h (by simp)
end Go.Proofs.Ytiaohbbafaaibab.P

/- OWN TEXT: what isa.has and isa.Encode come to (their tables are arrays, which the print does not take), in the print's own form. -/
namespace Go.Proofs.Ytiaohbbafaaibab.P
open Go.RowKit Go.Proofs.YtiaohbbafaaibabW.PrintWords Go.Proofs.YtiaohbbafaaibabW.PrintLast Go.Proofs.YtiaohbbafaaibabW.PrintMore Go.Proofs.Ytiaohbbafaaibab.Arr
set_option linter.unusedVariables false
set_option linter.unusedSimpArgs false

/-- The fields of each op. -/
def fieldsA : Array Value := #[.int .i64 0, .int .i64 9, .int .i64 3, .int .i64 7, .int .i64 7, .int .i64 7, .int .i64 7, .int .i64 7, .int .i64 7, .int .i64 7, .int .i64 7, .int .i64 11, .int .i64 14, .int .i64 1, .int .i64 10, .int .i64 24, .int .i64 26, .int .i64 24, .int .i64 2, .int .i64 2, .int .i64 25, .int .i64 0]
theorem fieldsA_one : (fieldsA.all fun v => v.oneCell') = true := by kernel_rfl
/-- The same as numbers. -/
def fieldsL : List Int := [0, 9, 3, 7, 7, 7, 7, 7, 7, 7, 7, 11, 14, 1, 10, 24, 26, 24, 2, 2, 25, 0]
theorem fieldsA_eq : fieldsA = (fieldsL.map (Value.int .i64)).toArray := rfl
theorem isa_size3 (W : World) : (sizeOf 3).run Try.prog W = .ok 1 W := by kernel_rfl
set_option maxHeartbeats 4000000 in
set_option maxRecDepth 100000 in
theorem isa_fields.calls (w : World) :
  Calls Try.prog 71 #[] w fun e w' => e = .returned (.agg fieldsA) ∧ Below w.heap.size w w' := by
 have HB := Aside0.mk (Below.refl w.heap.size w)
 go_enter Try.func71, Try.ntmps71
 go_upto_region 2 with (first | ((with_reducible refine gate_dst (N := 0) rfl ?_); refine box_event ?hg (N := 0) ?hd (cs := #[.int .i64 0, .int .i64 0, .int .i64 0, .int .i64 0, .int .i64 0, .int .i64 0, .int .i64 0, .int .i64 0, .int .i64 0, .int .i64 0, .int .i64 0, .int .i64 0, .int .i64 0, .int .i64 0, .int .i64 0, .int .i64 0, .int .i64 0, .int .i64 0, .int .i64 0, .int .i64 0, .int .i64 0, .int .i64 0]) (t := 112) ?hr ?_; (case hd => rfl); (case hg => rfl); (case hr => first | (go_simp; done) | (go_simp; rfl)); intro g0 hge0 w1 BK0 hb0; have HB1 := Aside0.mk (below_then HB.out (Nat.le_refl _) hb0); have BGa := Aside0.mk BK0; have GE0 := Aside0.mk (show w.heap.size ≤ g0 by omega); have GL0 := Aside0.mk (show g0 < w1.heap.size from blk_lt BK0); clear BK0 hb0 hge0) | ((with_reducible refine gate_dst (N := 1) rfl ?_); refine box_event ?hg (N := 1) ?hd (cs := #[.int .i64 0, .int .i64 0, .int .i64 0, .int .i64 0, .int .i64 0, .int .i64 0, .int .i64 0, .int .i64 0, .int .i64 0, .int .i64 0, .int .i64 0, .int .i64 0, .int .i64 0, .int .i64 0, .int .i64 0, .int .i64 0, .int .i64 0, .int .i64 0, .int .i64 0, .int .i64 0, .int .i64 0, .int .i64 0]) (t := 112) ?hr ?_; (case hd => rfl); (case hg => rfl); (case hr => first | (go_simp; done) | (go_simp; rfl)); intro g1 hge1 w2 BK1 hb1; have HB2 := Aside0.mk (below_then HB1.out HB1.out.size hb1); have BG1 := Aside0.mk BK1; have BG0 := Aside0.mk (blk_below BGa.out hb1); have NE := Aside0.mk (show g0 ≠ g1 by have := GL0.out; omega); have GE1 := Aside0.mk (show w.heap.size ≤ g1 by have := HB1.out.size; omega); clear BK1 hb1 hge1 HB1 BGa GL0))
 go_wp2_with (first | ((with_reducible refine gate_store (t := 3) rfl ?_); refine wpList_store_arr_const rfl rfl rfl g1 _ _ _ _ rfl rfl rfl (isa_size3 _) BG1.out (by decide) (by simp only [List.setIfInBounds_toArray, List.set_cons_zero, List.set_cons_succ]; rfl) ?_; intro w3 hp; have HBn := Aside0.mk (hp.below HB2.out GE1.out); have BG1n := Aside0.mk hp.blk; have BG0n := Aside0.mk ((hp.far g0 NE.out).trans BG0.out); clear BG1 BG0 HB2 hp; have BG1 := BG1n; have BG0 := BG0n; have HB2 := HBn; clear BG1n BG0n HBn) | ((with_reducible refine gate_dst (N := 21) rfl ?_); (refine wpList_load_row rfl 112 _ rfl g1 rfl 112 _ (0, 0) _ BG1.out Try.underlying112 rfl (by kernel_rfl) ?_)) | ((with_reducible refine gate_store (t := 112) rfl ?_); refine wpList_store_whole rfl rfl rfl g0 _ fieldsA _ rfl (by rfl) BG0.out (by kernel_rfl) (by rfl) fieldsA_one ?_; intro w3 hp; have HBn := Aside0.mk (hp.below HB2.out GE0.out); have BG0n := Aside0.mk hp.blk; clear BG1 BG0 HB2 hp))
 refine wp_loop_rounds 9 ?_
 iterate 9 (rw [rounds_succ]; go_wp2_with (first | ((with_reducible refine gate_store (t := 3) rfl ?_); refine wpList_store_arr_const rfl rfl rfl g1 _ _ _ _ rfl rfl rfl (isa_size3 _) BG1.out (by decide) (by simp only [List.setIfInBounds_toArray, List.set_cons_zero, List.set_cons_succ]; rfl) ?_; intro w3 hp; have HBn := Aside0.mk (hp.below HB2.out GE1.out); have BG1n := Aside0.mk hp.blk; have BG0n := Aside0.mk ((hp.far g0 NE.out).trans BG0.out); clear BG1 BG0 HB2 hp; have BG1 := BG1n; have BG0 := BG0n; have HB2 := HBn; clear BG1n BG0n HBn) | ((with_reducible refine gate_dst (N := 21) rfl ?_); (refine wpList_load_row rfl 112 _ rfl g1 rfl 112 _ (0, 0) _ BG1.out Try.underlying112 rfl (by kernel_rfl) ?_)) | ((with_reducible refine gate_store (t := 112) rfl ?_); refine wpList_store_whole rfl rfl rfl g0 _ fieldsA _ rfl (by rfl) BG0.out (by kernel_rfl) (by rfl) fieldsA_one ?_; intro w3 hp; have HBn := Aside0.mk (hp.below HB2.out GE0.out); have BG0n := Aside0.mk hp.blk; clear BG1 BG0 HB2 hp)))
 exact bodyPost_ret (v := .agg fieldsA) (results_cell_row Try.results71 _ _ g0 112 fieldsA (0, 0) _ rfl BG0n.out Try.underlying112 rfl (by kernel_rfl)) rfl ⟨rfl, HBn.out⟩

def hasT (a0 : Int) : Int := fieldsL.getD a0.toNat 0
def isa_has.f (a0 : Int) : Option (Int) := if a0 < 0 then (some 0) else (if a0 ≥ 22 then (some 0) else (some (hasT a0)))
set_option maxHeartbeats 1000000 in
set_option maxRecDepth 100000 in
theorem isa_has.calls (a0 : Int) (r : Int) (w : World) (h : isa_has.f a0 = some r) :
  Calls Try.prog 65 #[.int .i8 a0] w fun e w' => e = .returned (.int .i64 r) ∧ Below w.heap.size w w' := by
 unfold isa_has.f at h
 by_cases c1 : a0 < 0
 ·
  rw [if_pos c1] at h
  obtain rfl := Option.some.inj h
  go_enter Try.func65, Try.ntmps65
  go_wp2
  go_ret
  exact ⟨rfl, Below.refl _ _⟩
 rw [if_neg c1] at h
 by_cases c2 : a0 ≥ 22
 ·
  rw [if_pos c2] at h
  obtain rfl := Option.some.inj h
  go_enter Try.func65, Try.ntmps65
  go_wp2
  go_ret
  exact ⟨rfl, Below.refl _ _⟩
 rw [if_neg c2] at h
 have hr := Option.some.inj h
 have hv : fieldsA[a0.toNat]? = some (.int .i64 r) := by
  rw [← hr, fieldsA_eq, List.getElem?_toArray, List.getElem?_map]
  have hl : a0.toNat < fieldsL.length := by
   have : fieldsL.length = 22 := rfl
   omega
  unfold hasT
  rw [List.getD_eq_getElem?_getD, List.getElem?_eq_getElem hl]
  rfl
 have hix := fun W => run_index_arr (P := Try.prog) (w := W) (cs := fieldsA) (k := .i8) (i := a0) Try.underlying112 (by kernel_rfl) (isa_size3 W) (by omega) (by omega) hv
 clear h hr hv
 go_enter Try.func65, Try.ntmps65
 go_wp2_with (go_at_call 71; refine (isa_fields.calls _).mono ?_; rintro e w1 ⟨rfl, hb⟩)
 go_ret
 exact ⟨rfl, hb⟩

end Go.Proofs.Ytiaohbbafaaibab.P

/- OWN TEXT: what isa.Encode comes to (it holds an array, which the print does not take), in the print's own form. -/
namespace Go.Proofs.Ytiaohbbafaaibab.P
open Go.RowKit Go.Proofs.YtiaohbbafaaibabW.PrintWords Go.Proofs.YtiaohbbafaaibabW.PrintLast Go.Proofs.YtiaohbbafaaibabW.PrintMore Go.Proofs.Ytiaohbbafaaibab.Arr
set_option linter.unusedVariables false
set_option linter.unusedSimpArgs false

theorem cells5 {W : World} {g t : Nat} {v0 v1 v2 v3 v4 : Value} (h : W.heap[g]? = some (.cells #[v0, v1, v2, v3, v4] t (0, 0))) :
  W.cell? ⟨g, 0, none⟩ = some v0 ∧ W.cell? ⟨g, 1, none⟩ = some v1 ∧ W.cell? ⟨g, 2, none⟩ = some v2 ∧ W.cell? ⟨g, 3, none⟩ = some v3 ∧ W.cell? ⟨g, 4, none⟩ = some v4 :=
 ⟨blk_cell h 0, blk_cell h 1, blk_cell h 2, blk_cell h 3, blk_cell h 4⟩
theorem arr3_one (a b c : Int) : ((#[.int .i8 a, .int .i8 b, .int .i8 c] : Array Value).all fun v => v.oneCell') = true := by kernel_rfl
/-- May register r not be, f the op's fields, m its own bit? -/
def badReg (f r m : Int) : Prop := r < 0 ∨ 16 ≤ r ∨ (r ≠ 0 ∧ Go.bits .and .i64 f m = 0)
def lowT (f : Int) : Int := if Go.bits .and .i64 f 16 = 0 then (if Go.bits .and .i64 f 8 = 0 then 0 else -16384) else 0
def highT (f : Int) : Int := if Go.bits .and .i64 f 16 = 0 then (if Go.bits .and .i64 f 8 = 0 then 0 else 16383) else 16383
/-- The word, as the walk tells it. -/
def encW (a0 a1 a2 a3 a4 : Int) : Int := Go.bits .or .u32 (Go.bits .or .u32 (Go.bits .or .u32 (Go.bits .or .u32 (a0 * 134217728) (a1 * 8388608)) (a2 * 524288)) (a3 * 32768)) (Go.bits .and .u32 (a4 % 4294967296) 32767)
def RegRel (fv a1 a2 a3 : Int) (i : Value) : Prop :=
 i = .int .i64 0 ∨ (i = .int .i64 1 ∧ ¬ badReg fv a1 1) ∨ (i = .int .i64 2 ∧ ¬ badReg fv a1 1 ∧ ¬ badReg fv a2 2) ∨ (i = .int .i64 3 ∧ ¬ badReg fv a1 1 ∧ ¬ badReg fv a2 2 ∧ ¬ badReg fv a3 4)
def BadIns (fv a1 a2 a3 a4 : Int) : Prop := badReg fv a1 1 ∨ badReg fv a2 2 ∨ badReg fv a3 4 ∨ a4 < lowT fv ∨ a4 > highT fv
set_option maxHeartbeats 8000000 in
set_option maxRecDepth 100000 in
theorem isa_Encode.calls_in (a0 a1 a2 a3 a4 fv : Int) (r1 r2 : Int) (w : World) (h0 : 0 ≤ a0) (h22 : a0 < 22) (Hhas : Aside0 (isa_has.f a0 = some fv))
  (Hbad : Aside0 (BadIns fv a1 a2 a3 a4 → r1 = 0 ∧ r2 = 11)) (Hgood : Aside0 (¬ BadIns fv a1 a2 a3 a4 → r1 = encW a0 a1 a2 a3 a4 ∧ r2 = 0)) :
  Calls Try.prog 70 #[.agg #[.int .i8 a0, .int .i8 a1, .int .i8 a2, .int .i8 a3, .int .i64 a4]] w fun e w' => e = .returned (.tuple #[.int .u32 r1, .int .i64 r2]) ∧ Below w.heap.size w w' := by
 have i0 : ∀ W, (Instr.index 117 (.agg #[.int .i8 a1, .int .i8 a2, .int .i8 a3]) (.int .i64 0)).run Try.prog W = .ok (.int .i8 a1) W := fun _ => by kernel_rfl
 have i1 : ∀ W, (Instr.index 117 (.agg #[.int .i8 a1, .int .i8 a2, .int .i8 a3]) (.int .i64 1)).run Try.prog W = .ok (.int .i8 a2) W := fun _ => by kernel_rfl
 have i2 : ∀ W, (Instr.index 117 (.agg #[.int .i8 a1, .int .i8 a2, .int .i8 a3]) (.int .i64 2)).run Try.prog W = .ok (.int .i8 a3) W := fun _ => by kernel_rfl
 go_enter Try.func70, Try.ntmps70
 go_wp2_with (first | ((with_reducible refine gate_dst (N := 1) rfl ?_); refine box_event ?hg (N := 1) ?hd (cs := #[.int .i8 a0, .int .i8 a1, .int .i8 a2, .int .i8 a3, .int .i64 a4]) (t := 106) ?hr ?_; (case hd => rfl); (case hg => rfl); (case hr => first | (go_simp; done) | (go_simp; rfl)); intro g0 hge0 w1 BK1 hb1; have HB := Aside0.mk (below_then (Below.refl w.heap.size w) (Nat.le_refl _) hb1); have BK := Aside0.mk BK1; have GE0 := Aside0.mk (show w.heap.size ≤ g0 by omega); clear BK1 hb1 hge0; obtain ⟨q0, q1, q2, q3, q4⟩ := cells5 BK.out) | (go_at_call 65; refine (isa_has.calls a0 fv _ Hhas.out).mono ?_; rintro e w2 ⟨rfl, hb⟩; have HBn := Aside0.mk (below_then HB.out HB.out.size hb); have BKn := Aside0.mk (blk_below BK.out hb); clear HB BK hb q0 q1 q2 q3 q4; have HB := HBn; have BK := BKn; clear HBn BKn; obtain ⟨q0, q1, q2, q3, q4⟩ := cells5 BK.out) | ((with_reducible refine gate_dst (N := 5) rfl ?_); refine box_event ?hg (N := 5) ?hd (cs := #[.int .i8 0, .int .i8 0, .int .i8 0]) (t := 117) ?hr ?_; (case hd => rfl); (case hg => rfl); (case hr => first | (go_simp; done) | (go_simp; rfl)); intro g1 hge1 w3 BR1 hb; have HBn := Aside0.mk (below_then HB.out HB.out.size hb); have BKn := Aside0.mk (blk_below BK.out hb); have BR := Aside0.mk BR1; have NE := Aside0.mk (show g0 ≠ g1 by have := blk_lt BK.out; omega); have GE1 := Aside0.mk (show w.heap.size ≤ g1 by have := HB.out.size; omega); clear HB BK hb q0 q1 q2 q3 q4 BR1 hge1; have HB := HBn; have BK := BKn; clear HBn BKn; obtain ⟨q0, q1, q2, q3, q4⟩ := cells5 BK.out) | ((with_reducible refine gate_store (t := 117) rfl ?_); refine wpList_store_whole rfl rfl rfl g1 _ #[.int .i8 a1, .int .i8 a2, .int .i8 a3] _ rfl (by rfl) BR.out (by kernel_rfl) (by rfl) (arr3_one _ _ _) ?_; intro w4 hp; have HBn := Aside0.mk (hp.below HB.out GE1.out); have BKn := Aside0.mk ((hp.far g0 NE.out).trans BK.out); have BRn := Aside0.mk hp.blk; clear HB BK BR hp q0 q1 q2 q3 q4; have HB := HBn; have BK := BKn; have BR := BRn; clear HBn BKn BRn; obtain ⟨q0, q1, q2, q3, q4⟩ := cells5 BK.out) | ((with_reducible refine gate_dst (N := 28) rfl ?_); refine wpList_load_row rfl 117 _ rfl g1 rfl 117 _ (0, 0) _ BR.out Try.underlying117 rfl (by kernel_rfl) ?_))
 go_loop [29] (fun i => RegRel fv a1 a2 a3 i) (fun i => 3 - (intOf i).toNat)
 case atStart => exact .inl rfl
 case round =>
  rcases hrel with rfl | ⟨rfl, hg1⟩ | ⟨rfl, hg1, hg2⟩ | ⟨rfl, hg1, hg2, hg3⟩
  ·
   -- register 0
   by_cases c1 : a1 < 0
   ·
    have hbd : badReg fv a1 1 := .inl c1
    have Hbd := Aside0.mk (show BadIns fv a1 a2 a3 a4 from .inl hbd)
    clear hbd
    go_wp2
    go_ret2
    exact ⟨by obtain ⟨rfl, rfl⟩ := Hbad.out Hbd.out; rfl, HB.out⟩
   by_cases c2 : 16 ≤ a1
   ·
    have hbd : badReg fv a1 1 := .inr (.inl c2)
    have Hbd := Aside0.mk (show BadIns fv a1 a2 a3 a4 from .inl hbd)
    clear hbd
    go_wp2
    go_ret2
    exact ⟨by obtain ⟨rfl, rfl⟩ := Hbad.out Hbd.out; rfl, HB.out⟩
   by_cases c3 : a1 = 0
   ·
    have HG := Aside0.mk (show ¬ badReg fv a1 1 from fun h => by rcases h with h | h | h <;> omega)
    have e1 : (a1 != 0) = false := by simp [c3]
    clear c3
    go_wp2
    go_round
    case rel => exact .inr (.inl ⟨rfl, HG.out⟩)
    case measure => simp [intOf]
   have e1 : (a1 != 0) = true := by simp [c3]
   by_cases c4 : Go.bits .and .i64 fv 1 = 0
   ·
    have hbd : badReg fv a1 1 := .inr (.inr ⟨c3, c4⟩)
    have Hbd := Aside0.mk (show BadIns fv a1 a2 a3 a4 from .inl hbd)
    have e2 : (Go.bits .and .i64 fv 1 == 0) = true := by simp [c4]
    clear hbd c3 c4
    go_wp2
    go_ret2
    exact ⟨by obtain ⟨rfl, rfl⟩ := Hbad.out Hbd.out; rfl, HB.out⟩
   have HG := Aside0.mk (show ¬ badReg fv a1 1 from fun h => by rcases h with h | h | h <;> first | omega | exact c4 h.2)
   have e2 : (Go.bits .and .i64 fv 1 == 0) = false := by simp [c4]
   clear c3 c4
   go_wp2
   go_round
   case rel => exact .inr (.inl ⟨rfl, HG.out⟩)
   case measure => simp [intOf]
  ·
   -- register 1
   have H1 := Aside0.mk hg1
   clear hg1
   by_cases c1 : a2 < 0
   ·
    have hbd : badReg fv a2 2 := .inl c1
    have Hbd := Aside0.mk (show BadIns fv a1 a2 a3 a4 from .inr (.inl hbd))
    clear hbd
    go_wp2
    go_ret2
    exact ⟨by obtain ⟨rfl, rfl⟩ := Hbad.out Hbd.out; rfl, HB.out⟩
   by_cases c2 : 16 ≤ a2
   ·
    have hbd : badReg fv a2 2 := .inr (.inl c2)
    have Hbd := Aside0.mk (show BadIns fv a1 a2 a3 a4 from .inr (.inl hbd))
    clear hbd
    go_wp2
    go_ret2
    exact ⟨by obtain ⟨rfl, rfl⟩ := Hbad.out Hbd.out; rfl, HB.out⟩
   by_cases c3 : a2 = 0
   ·
    have HG := Aside0.mk (show ¬ badReg fv a2 2 from fun h => by rcases h with h | h | h <;> omega)
    have e1 : (a2 != 0) = false := by simp [c3]
    clear c3
    go_wp2
    go_round
    case rel => exact .inr (.inr (.inl ⟨rfl, H1.out, HG.out⟩))
    case measure => simp [intOf]
   have e1 : (a2 != 0) = true := by simp [c3]
   by_cases c4 : Go.bits .and .i64 fv 2 = 0
   ·
    have hbd : badReg fv a2 2 := .inr (.inr ⟨c3, c4⟩)
    have Hbd := Aside0.mk (show BadIns fv a1 a2 a3 a4 from .inr (.inl hbd))
    have e2 : (Go.bits .and .i64 fv 2 == 0) = true := by simp [c4]
    clear hbd c3 c4
    go_wp2
    go_ret2
    exact ⟨by obtain ⟨rfl, rfl⟩ := Hbad.out Hbd.out; rfl, HB.out⟩
   have HG := Aside0.mk (show ¬ badReg fv a2 2 from fun h => by rcases h with h | h | h <;> first | omega | exact c4 h.2)
   have e2 : (Go.bits .and .i64 fv 2 == 0) = false := by simp [c4]
   clear c3 c4
   go_wp2
   go_round
   case rel => exact .inr (.inr (.inl ⟨rfl, H1.out, HG.out⟩))
   case measure => simp [intOf]
  ·
   -- register 2
   have H1 := Aside0.mk hg1
   have H2 := Aside0.mk hg2
   clear hg1 hg2
   by_cases c1 : a3 < 0
   ·
    have hbd : badReg fv a3 4 := .inl c1
    have Hbd := Aside0.mk (show BadIns fv a1 a2 a3 a4 from .inr (.inr (.inl hbd)))
    clear hbd
    go_wp2
    go_ret2
    exact ⟨by obtain ⟨rfl, rfl⟩ := Hbad.out Hbd.out; rfl, HB.out⟩
   by_cases c2 : 16 ≤ a3
   ·
    have hbd : badReg fv a3 4 := .inr (.inl c2)
    have Hbd := Aside0.mk (show BadIns fv a1 a2 a3 a4 from .inr (.inr (.inl hbd)))
    clear hbd
    go_wp2
    go_ret2
    exact ⟨by obtain ⟨rfl, rfl⟩ := Hbad.out Hbd.out; rfl, HB.out⟩
   by_cases c3 : a3 = 0
   ·
    have HG := Aside0.mk (show ¬ badReg fv a3 4 from fun h => by rcases h with h | h | h <;> omega)
    have e1 : (a3 != 0) = false := by simp [c3]
    clear c3
    go_wp2
    go_round
    case rel => exact .inr (.inr (.inr ⟨rfl, H1.out, H2.out, HG.out⟩))
    case measure => simp [intOf]
   have e1 : (a3 != 0) = true := by simp [c3]
   by_cases c4 : Go.bits .and .i64 fv 4 = 0
   ·
    have hbd : badReg fv a3 4 := .inr (.inr ⟨c3, c4⟩)
    have Hbd := Aside0.mk (show BadIns fv a1 a2 a3 a4 from .inr (.inr (.inl hbd)))
    have e2 : (Go.bits .and .i64 fv 4 == 0) = true := by simp [c4]
    clear hbd c3 c4
    go_wp2
    go_ret2
    exact ⟨by obtain ⟨rfl, rfl⟩ := Hbad.out Hbd.out; rfl, HB.out⟩
   have HG := Aside0.mk (show ¬ badReg fv a3 4 from fun h => by rcases h with h | h | h <;> first | omega | exact c4 h.2)
   have e2 : (Go.bits .and .i64 fv 4 == 0) = false := by simp [c4]
   clear c3 c4
   go_wp2
   go_round
   case rel => exact .inr (.inr (.inr ⟨rfl, H1.out, H2.out, HG.out⟩))
   case measure => simp [intOf]
  ·
   have b1 : 0 ≤ a1 ∧ a1 < 16 := by unfold badReg at hg1; omega
   have b2 : 0 ≤ a2 ∧ a2 < 16 := by unfold badReg at hg2; omega
   have b3 : 0 ≤ a3 ∧ a3 < 16 := by unfold badReg at hg3; omega
   obtain ⟨b1l, b1h⟩ := b1
   obtain ⟨b2l, b2h⟩ := b2
   obtain ⟨b3l, b3h⟩ := b3
   have H1 := Aside0.mk hg1
   have H2 := Aside0.mk hg2
   have H3 := Aside0.mk hg3
   clear hg1 hg2 hg3 i0 i1 i2
   by_cases c5 : Go.bits .and .i64 fv 16 = 0
   ·
    have e5 : (Go.bits .and .i64 fv 16 != 0) = false := by simp [c5]
    by_cases c6 : Go.bits .and .i64 fv 8 = 0
    ·
     have e6 : (Go.bits .and .i64 fv 8 != 0) = false := by simp [c6]
     have HL := Aside0.mk (show lowT fv = 0 from by simp [lowT, *])
     have HH := Aside0.mk (show highT fv = 0 from by simp [highT, *])
     clear c5 c6
     by_cases c7 : a4 < 0
     ·
      have Hbd := Aside0.mk (show BadIns fv a1 a2 a3 a4 from .inr (.inr (.inr (.inl (by rw [HL.out]; exact c7)))))
      go_wp2
      go_ret2
      exact ⟨by obtain ⟨rfl, rfl⟩ := Hbad.out Hbd.out; rfl, HB.out⟩
     by_cases c8 : a4 > 0
     ·
      have Hbd := Aside0.mk (show BadIns fv a1 a2 a3 a4 from .inr (.inr (.inr (.inr (by rw [HH.out]; exact c8)))))
      go_wp2
      go_ret2
      exact ⟨by obtain ⟨rfl, rfl⟩ := Hbad.out Hbd.out; rfl, HB.out⟩
     have Hgd := Aside0.mk (show ¬ BadIns fv a1 a2 a3 a4 from fun h => by rcases h with h | h | h | h | h <;> first | exact H1.out h | exact H2.out h | exact H3.out h | (rw [HL.out] at h; omega) | (rw [HH.out] at h; omega))
     have c7' : 0 ≤ a4 := by omega
     have c8' : a4 ≤ 0 := by omega
     clear c7 c8
     go_wp2
     go_ret2
     obtain ⟨rfl, rfl⟩ := Hgood.out Hgd.out
     exact ⟨by unfold encW; first | rfl | (rw [show a4 % 4294967296 = a4 by omega]; rfl), HB.out⟩
    ·
     have e6 : (Go.bits .and .i64 fv 8 != 0) = true := by simp [c6]
     have HL := Aside0.mk (show lowT fv = (-16384) from by simp [lowT, *])
     have HH := Aside0.mk (show highT fv = 16383 from by simp [highT, *])
     clear c5 c6
     by_cases c7 : a4 < (-16384)
     ·
      have Hbd := Aside0.mk (show BadIns fv a1 a2 a3 a4 from .inr (.inr (.inr (.inl (by rw [HL.out]; exact c7)))))
      go_wp2
      go_ret2
      exact ⟨by obtain ⟨rfl, rfl⟩ := Hbad.out Hbd.out; rfl, HB.out⟩
     by_cases c8 : a4 > 16383
     ·
      have Hbd := Aside0.mk (show BadIns fv a1 a2 a3 a4 from .inr (.inr (.inr (.inr (by rw [HH.out]; exact c8)))))
      go_wp2
      go_ret2
      exact ⟨by obtain ⟨rfl, rfl⟩ := Hbad.out Hbd.out; rfl, HB.out⟩
     have Hgd := Aside0.mk (show ¬ BadIns fv a1 a2 a3 a4 from fun h => by rcases h with h | h | h | h | h <;> first | exact H1.out h | exact H2.out h | exact H3.out h | (rw [HL.out] at h; omega) | (rw [HH.out] at h; omega))
     have c7' : (-16384) ≤ a4 := by omega
     have c8' : a4 ≤ 16383 := by omega
     clear c7 c8
     go_wp2
     go_ret2
     obtain ⟨rfl, rfl⟩ := Hgood.out Hgd.out
     exact ⟨by unfold encW; first | rfl | (rw [show a4 % 4294967296 = a4 by omega]; rfl), HB.out⟩
   ·
    have e5 : (Go.bits .and .i64 fv 16 != 0) = true := by simp [c5]
    have HL := Aside0.mk (show lowT fv = 0 from by simp [lowT, *])
    have HH := Aside0.mk (show highT fv = 16383 from by simp [highT, *])
    clear c5
    by_cases c7 : a4 < 0
    ·
     have Hbd := Aside0.mk (show BadIns fv a1 a2 a3 a4 from .inr (.inr (.inr (.inl (by rw [HL.out]; exact c7)))))
     go_wp2
     go_ret2
     exact ⟨by obtain ⟨rfl, rfl⟩ := Hbad.out Hbd.out; rfl, HB.out⟩
    by_cases c8 : a4 > 16383
    ·
     have Hbd := Aside0.mk (show BadIns fv a1 a2 a3 a4 from .inr (.inr (.inr (.inr (by rw [HH.out]; exact c8)))))
     go_wp2
     go_ret2
     exact ⟨by obtain ⟨rfl, rfl⟩ := Hbad.out Hbd.out; rfl, HB.out⟩
    have Hgd := Aside0.mk (show ¬ BadIns fv a1 a2 a3 a4 from fun h => by rcases h with h | h | h | h | h <;> first | exact H1.out h | exact H2.out h | exact H3.out h | (rw [HL.out] at h; omega) | (rw [HH.out] at h; omega))
    have c7' : 0 ≤ a4 := by omega
    have c8' : a4 ≤ 16383 := by omega
    clear c7 c8
    go_wp2
    go_ret2
    obtain ⟨rfl, rfl⟩ := Hgood.out Hgd.out
    exact ⟨by unfold encW; first | rfl | (rw [show a4 % 4294967296 = a4 by omega]; rfl), HB.out⟩

instance (f r m : Int) : Decidable (badReg f r m) := by unfold badReg; infer_instance
instance (f a1 a2 a3 a4 : Int) : Decidable (BadIns f a1 a2 a3 a4) := by unfold BadIns; infer_instance
def isa_Encode.f (a0 a1 a2 a3 a4 : Int) : Option (Int × Int) :=
 if a0 < 0 then (some (0, 10)) else (if a0 ≥ 22 then (some (0, 10)) else (if BadIns (hasT a0) a1 a2 a3 a4 then (some (0, 11)) else (some (encW a0 a1 a2 a3 a4, 0))))
set_option maxHeartbeats 1000000 in
set_option maxRecDepth 100000 in
theorem isa_Encode.calls_out (a0 a1 a2 a3 a4 : Int) (w : World) (h : a0 < 0 ∨ 22 ≤ a0) :
  Calls Try.prog 70 #[.agg #[.int .i8 a0, .int .i8 a1, .int .i8 a2, .int .i8 a3, .int .i64 a4]] w fun e w' => e = .returned (.tuple #[.int .u32 0, .int .i64 10]) ∧ Below w.heap.size w w' := by
 rcases h with h | h
 ·
  go_enter Try.func70, Try.ntmps70
  go_wp2
  go_ret2
  exact ⟨rfl, (Below.refl _ _).alloc (Nat.le_refl _) _⟩
 ·
  have h2 : ¬ a0 < 0 := by omega
  go_enter Try.func70, Try.ntmps70
  go_wp2
  go_ret2
  exact ⟨rfl, (Below.refl _ _).alloc (Nat.le_refl _) _⟩
theorem isa_Encode.calls (a0 a1 a2 a3 a4 : Int) (r1 r2 : Int) (w : World) (h : isa_Encode.f a0 a1 a2 a3 a4 = some (r1, r2)) :
  Calls Try.prog 70 #[.agg #[.int .i8 a0, .int .i8 a1, .int .i8 a2, .int .i8 a3, .int .i64 a4]] w fun e w' => e = .returned (.tuple #[.int .u32 r1, .int .i64 r2]) ∧ Below w.heap.size w w' := by
 unfold isa_Encode.f at h
 by_cases c1 : a0 < 0
 ·
  rw [if_pos c1] at h
  injection h with h
  injection h with h1 h2
  subst h1 h2
  exact isa_Encode.calls_out a0 a1 a2 a3 a4 w (.inl c1)
 rw [if_neg c1] at h
 by_cases c2 : a0 ≥ 22
 ·
  rw [if_pos c2] at h
  injection h with h
  injection h with h1 h2
  subst h1 h2
  exact isa_Encode.calls_out a0 a1 a2 a3 a4 w (.inr c2)
 rw [if_neg c2] at h
 refine isa_Encode.calls_in a0 a1 a2 a3 a4 (hasT a0) r1 r2 w (by omega) (by omega) ⟨by unfold isa_has.f; rw [if_neg c1, if_neg c2]⟩ ⟨fun hb => ?_⟩ ⟨fun hb => ?_⟩
 ·
  rw [if_pos hb] at h
  injection h with h
  injection h with h1 h2
  exact ⟨h1.symm, h2.symm⟩
 ·
  rw [if_neg hb] at h
  injection h with h
  injection h with h1 h2
  exact ⟨h1.symm, h2.symm⟩

end Go.Proofs.Ytiaohbbafaaibab.P

/- OWN TEXT, written by mksq.py: short words for what the printed walks say again and again. -/
namespace Go.Proofs.Ytiaohbbafaaibab.P
open Go.RowKit Go.Proofs.YtiaohbbafaaibabW.PrintWords Go.Proofs.YtiaohbbafaaibabW.PrintLast Go.Proofs.YtiaohbbafaaibabW.PrintMore
set_option linter.unusedVariables false
/-- two worlds that differ in what was drawn alone. -/
abbrev SmQ (W W0 : World) : Prop := W.heap = W0.heap ∧ W.os = W0.os ∧ W.tape = W0.tape ∧ W.output = W0.output
theorem bwQ {B : Nat} {w W W0 : World} (h : Below B w W0) (e : SmQ W W0 := by exact ⟨rfl, rfl, rfl, rfl⟩) : Below B w W := by
 obtain ⟨e1, e2, e3, e4⟩ := e
 exact ⟨e2.trans h.os, e3.trans h.tape, e4.trans h.output, by rw [e1]; exact h.size, fun k hk => by rw [e1]; exact h.block k hk⟩
theorem bsQ {w W W0 W1 : World} (hb : Below W.heap.size W W1) (h : Below w.heap.size w W0) (e : SmQ W W0 := by exact ⟨rfl, rfl, rfl, rfl⟩) : Below w.heap.size w W1 :=
 below_then (bwQ h e) (by rw [e.1]; exact h.size) hb
theorem bbQ {W W1 : World} {g : Nat} {o : Obj} (hb : Below W.heap.size W W1) (h : W.heap[g]? = some o) : W1.heap[g]? = some o := blk_below h hb
theorem gwQ {w W W0 : World} {g : Nat} (hg : g = W.heap.size) (h : Below w.heap.size w W0) (e : W.heap = W0.heap := by rfl) : w.heap.size ≤ g := by rw [hg, e]; exact h.size
theorem bs1Q {w W W1 : World} (hb : Below W.heap.size W W1) (h : Below w.heap.size w W) : Below w.heap.size w W1 := below_then h h.size hb
theorem gw1Q {w W : World} {g : Nat} (hg : g = W.heap.size) (h : Below w.heap.size w W) : w.heap.size ≤ g := by rw [hg]; exact h.size
theorem cbQ {α : Type} {d : Kd α} {w W W0 : World} {A : Option Addr} {n : Nat} {l : List α} (h : Below w.heap.size w W0) (hC : d.C w A n l) (e : SmQ W W0 := by exact ⟨rfl, rfl, rfl, rfl⟩) : d.C W A n l := Kd.C_below hC (bwQ h e)
theorem bcQ2 {W : World} {g t : Nat} {a0 a1 : Value} (h : W.heap[g]? = some (.cells #[a0, a1] t (0, 0))) : W.cell? ⟨g, 0, none⟩ = some a0 ∧ W.cell? ⟨g, 1, none⟩ = some a1 := ⟨blk_cell h 0, blk_cell h 1⟩
theorem bcQ3 {W : World} {g t : Nat} {a0 a1 a2 : Value} (h : W.heap[g]? = some (.cells #[a0, a1, a2] t (0, 0))) : W.cell? ⟨g, 0, none⟩ = some a0 ∧ W.cell? ⟨g, 1, none⟩ = some a1 ∧ W.cell? ⟨g, 2, none⟩ = some a2 := ⟨blk_cell h 0, blk_cell h 1, blk_cell h 2⟩
theorem bcQ5 {W : World} {g t : Nat} {a0 a1 a2 a3 a4 : Value} (h : W.heap[g]? = some (.cells #[a0, a1, a2, a3, a4] t (0, 0))) : W.cell? ⟨g, 0, none⟩ = some a0 ∧ W.cell? ⟨g, 1, none⟩ = some a1 ∧ W.cell? ⟨g, 2, none⟩ = some a2 ∧ W.cell? ⟨g, 3, none⟩ = some a3 ∧ W.cell? ⟨g, 4, none⟩ = some a4 := ⟨blk_cell h 0, blk_cell h 1, blk_cell h 2, blk_cell h 3, blk_cell h 4⟩
theorem bcQ6 {W : World} {g t : Nat} {a0 a1 a2 a3 a4 a5 : Value} (h : W.heap[g]? = some (.cells #[a0, a1, a2, a3, a4, a5] t (0, 0))) : W.cell? ⟨g, 0, none⟩ = some a0 ∧ W.cell? ⟨g, 1, none⟩ = some a1 ∧ W.cell? ⟨g, 2, none⟩ = some a2 ∧ W.cell? ⟨g, 3, none⟩ = some a3 ∧ W.cell? ⟨g, 4, none⟩ = some a4 ∧ W.cell? ⟨g, 5, none⟩ = some a5 := ⟨blk_cell h 0, blk_cell h 1, blk_cell h 2, blk_cell h 3, blk_cell h 4, blk_cell h 5⟩
theorem fzQ2 {W : World} {g t : Nat} {cs : Array Value} (h : W.heap[g]? = some (.cells cs t (0, 0))) : W.frozen? ⟨g, 0, none⟩ = false ∧ W.frozen? ⟨g, 1, none⟩ = false := ⟨blk_frozen h 0, blk_frozen h 1⟩
theorem fzQ3 {W : World} {g t : Nat} {cs : Array Value} (h : W.heap[g]? = some (.cells cs t (0, 0))) : W.frozen? ⟨g, 0, none⟩ = false ∧ W.frozen? ⟨g, 1, none⟩ = false ∧ W.frozen? ⟨g, 2, none⟩ = false := ⟨blk_frozen h 0, blk_frozen h 1, blk_frozen h 2⟩
theorem fzQ5 {W : World} {g t : Nat} {cs : Array Value} (h : W.heap[g]? = some (.cells cs t (0, 0))) : W.frozen? ⟨g, 0, none⟩ = false ∧ W.frozen? ⟨g, 1, none⟩ = false ∧ W.frozen? ⟨g, 2, none⟩ = false ∧ W.frozen? ⟨g, 3, none⟩ = false ∧ W.frozen? ⟨g, 4, none⟩ = false := ⟨blk_frozen h 0, blk_frozen h 1, blk_frozen h 2, blk_frozen h 3, blk_frozen h 4⟩
theorem fzQ6 {W : World} {g t : Nat} {cs : Array Value} (h : W.heap[g]? = some (.cells cs t (0, 0))) : W.frozen? ⟨g, 0, none⟩ = false ∧ W.frozen? ⟨g, 1, none⟩ = false ∧ W.frozen? ⟨g, 2, none⟩ = false ∧ W.frozen? ⟨g, 3, none⟩ = false ∧ W.frozen? ⟨g, 4, none⟩ = false ∧ W.frozen? ⟨g, 5, none⟩ = false := ⟨blk_frozen h 0, blk_frozen h 1, blk_frozen h 2, blk_frozen h 3, blk_frozen h 4, blk_frozen h 5⟩
theorem atQ37 {w W : World} {A : Option Addr} {n : Nat} {xs : List S37} (h : Kd.C k37 w A n xs) (hb : Below w.heap.size w W) (i : Int) (h0 : 0 ≤ i) (h1 : i < n) : ∃ ad , A = some ad ∧ W.cell? (ad.add (i.toNat * 3)) = some (.string (rd_T37 xs i).f0) ∧ W.cell? ⟨(ad.add (i.toNat * 3)).block, (ad.add (i.toNat * 3)).off + 1, none⟩ = some (.int .i8 (rd_T37 xs i).f1) ∧ W.cell? ⟨(ad.add (i.toNat * 3)).block, (ad.add (i.toNat * 3)).off + 2, none⟩ = some (.int .i64 (rd_T37 xs i).f2) := by
 obtain ⟨ad, e, x0, x1, x2⟩ := at_T37 h i h0 h1
 exact ⟨ad, e, pw_cell_below hb x0, pw_cell_below hb x1, pw_cell_below hb x2⟩
theorem atQ41 {w W : World} {A : Option Addr} {n : Nat} {xs : List S41} (h : Kd.C k41 w A n xs) (hb : Below w.heap.size w W) (i : Int) (h0 : 0 ≤ i) (h1 : i < n) : ∃ ad , A = some ad ∧ W.cell? (ad.add (i.toNat * 2)) = some (.int .i64 (rd_T41 xs i).f0) ∧ W.cell? ⟨(ad.add (i.toNat * 2)).block, (ad.add (i.toNat * 2)).off + 1, none⟩ = some (.int .i64 (rd_T41 xs i).f1) := by
 obtain ⟨ad, e, x0, x1⟩ := at_T41 h i h0 h1
 exact ⟨ad, e, pw_cell_below hb x0, pw_cell_below hb x1⟩
theorem atQ27 {w W : World} {A : Option Addr} {n : Nat} {xs : List S27} (h : Kd.C k27 w A n xs) (hb : Below w.heap.size w W) (i : Int) (h0 : 0 ≤ i) (h1 : i < n) : ∃ ad A1 c1 A3 c3 A4 c4 A5 c5, A = some ad ∧ W.cell? (ad.add (i.toNat * 6)) = some (.string (rd_T27 xs i).f0) ∧ W.cell? ⟨(ad.add (i.toNat * 6)).block, (ad.add (i.toNat * 6)).off + 1, none⟩ = some (.slice A1 (rd_T27 xs i).f1.length c1) ∧ W.cell? ⟨(ad.add (i.toNat * 6)).block, (ad.add (i.toNat * 6)).off + 2, none⟩ = some (.int .i64 (rd_T27 xs i).f2) ∧ W.cell? ⟨(ad.add (i.toNat * 6)).block, (ad.add (i.toNat * 6)).off + 3, none⟩ = some (.slice A3 (rd_T27 xs i).f3.length c3) ∧ W.cell? ⟨(ad.add (i.toNat * 6)).block, (ad.add (i.toNat * 6)).off + 4, none⟩ = some (.slice A4 (rd_T27 xs i).f4.length c4) ∧ W.cell? ⟨(ad.add (i.toNat * 6)).block, (ad.add (i.toNat * 6)).off + 5, none⟩ = some (.slice A5 (rd_T27 xs i).f5.length c5) ∧ (rd_T27 xs i).f1.length ≤ c1 ∧ (Kd.int .u32).C w A1 (rd_T27 xs i).f1.length (rd_T27 xs i).f1 ∧ (rd_T27 xs i).f3.length ≤ c3 ∧ (Kd.int .i64).C w A3 (rd_T27 xs i).f3.length (rd_T27 xs i).f3 ∧ (rd_T27 xs i).f4.length ≤ c4 ∧ k37.C w A4 (rd_T27 xs i).f4.length (rd_T27 xs i).f4 ∧ (rd_T27 xs i).f5.length ≤ c5 ∧ k41.C w A5 (rd_T27 xs i).f5.length (rd_T27 xs i).f5 := by
 obtain ⟨ad, A1, c1, A3, c3, A4, c4, A5, c5, e, x0, x1, x2, x3, x4, x5, r⟩ := at_T27 h i h0 h1
 exact ⟨ad, A1, c1, A3, c3, A4, c4, A5, c5, e, pw_cell_below hb x0, pw_cell_below hb x1, pw_cell_below hb x2, pw_cell_below hb x3, pw_cell_below hb x4, pw_cell_below hb x5, r⟩
end Go.Proofs.Ytiaohbbafaaibab.P

/- What the Go functions named below come to, as plain functions, each with its proof; written by this session's prt.py over the kit's print. -/
namespace Go.Proofs.Ytiaohbbafaaibab.P
open Go.RowKit Go.Proofs.YtiaohbbafaaibabW.PrintWords Go.Proofs.YtiaohbbafaaibabW.PrintLast Go.Proofs.YtiaohbbafaaibabW.PrintMore
attribute [local go_sem] max2_int min2_int max_two min_two max_three min_three max_four min_four   -- for this text's walks alone
set_option linter.unusedVariables false
set_option linter.unusedSimpArgs false
/-! ### isa_Decode: function 64 -/
def isa_Decode.j0 : Nat → Int → Bool → Int → Int → Int → Int → Int → Option (Int × Int × Int × Int × Int)
 | 0, _, _, _, _, _, _, _ => none
 | k + 1, x0, x41, x108000, x108001, x108002, x108003, x108004 => if x41 = true then ((isa_Encode.f x108000 x108001 x108002 x108003 (wrap64 (x108004 - 32768))).bind fun bt109 => (if bt109.2 = 0 then (if bt109.1 = x0 then (some (x108000, x108001, x108002, x108003, wrap64 (x108004 - 32768))) else (some ((-1), 0, 0, 0, wrap64 (x0)))) else (some ((-1), 0, 0, 0, wrap64 (x0))))) else ((isa_Encode.f x108000 x108001 x108002 x108003 x108004).bind fun bt111 => (if bt111.2 = 0 then (if bt111.1 = x0 then (some (x108000, x108001, x108002, x108003, x108004)) else (some ((-1), 0, 0, 0, wrap64 (x0)))) else (some ((-1), 0, 0, 0, wrap64 (x0)))))
def isa_Decode.f (k : Nat) (a0 : Int) : Option (Int × Int × Int × Int × Int) := (isa_has.f (IntKind.i8.wrap (a0 / 134217728))).bind fun t108 => (if (Go.bits .and .i64 t108 8) = 0 then (isa_Decode.j0 k a0 false (IntKind.i8.wrap (a0 / 134217728)) (IntKind.i8.wrap (Go.bits .and .u32 (a0 / 8388608) 15)) (IntKind.i8.wrap (Go.bits .and .u32 (a0 / 524288) 15)) (IntKind.i8.wrap (Go.bits .and .u32 (a0 / 32768) 15)) (wrap64 (Go.bits .and .u32 a0 32767))) else (if (Go.bits .and .i64 t108 16) = 0 then (isa_Decode.j0 k a0 (decide ((wrap64 (Go.bits .and .u32 a0 32767)) ≥ 16384)) (IntKind.i8.wrap (a0 / 134217728)) (IntKind.i8.wrap (Go.bits .and .u32 (a0 / 8388608) 15)) (IntKind.i8.wrap (Go.bits .and .u32 (a0 / 524288) 15)) (IntKind.i8.wrap (Go.bits .and .u32 (a0 / 32768) 15)) (wrap64 (Go.bits .and .u32 a0 32767))) else (isa_Decode.j0 k a0 false (IntKind.i8.wrap (a0 / 134217728)) (IntKind.i8.wrap (Go.bits .and .u32 (a0 / 8388608) 15)) (IntKind.i8.wrap (Go.bits .and .u32 (a0 / 524288) 15)) (IntKind.i8.wrap (Go.bits .and .u32 (a0 / 32768) 15)) (wrap64 (Go.bits .and .u32 a0 32767)))))
theorem isa_Decode.mono_l : ∀ k, (∀ y0 y1 y2 y3 y4 y5 y6, LeO (isa_Decode.j0 k y0 y1 y2 y3 y4 y5 y6) (isa_Decode.j0 (k + 1) y0 y1 y2 y3 y4 y5 y6))
 | 0 => fun _ _ _ _ _ _ _ r h => by simp [isa_Decode.j0] at h
 | k + 1 => by
  have ih0 := isa_Decode.mono_l k
  ·
   intro y0 y1 y2 y3 y4 y5 y6
   unfold isa_Decode.j0
   repeat' first
   | (with_reducible first | exact ih0 _ _ _ _ _ _ _ | exact LeO.refl _ | exact LeO.none _ | refine LeO.ite ?_ ?_ | refine LeO.bind ?_ (fun _ => ?_))
theorem isa_Decode.mono : ∀ a0 k, LeO (isa_Decode.f k a0) (isa_Decode.f (k + 1) a0) := by
 intro a0 k
 have ih0 := isa_Decode.mono_l k
 unfold isa_Decode.f
 repeat' first
   | (with_reducible first | exact ih0 _ _ _ _ _ _ _ | exact LeO.refl _ | exact LeO.none _ | refine LeO.ite ?_ ?_ | refine LeO.bind ?_ (fun _ => ?_))
set_option maxHeartbeats 8000000 in
set_option maxRecDepth 100000 in
theorem isa_Decode.calls (k : Nat) (a0 : Int) (r1 : Int) (r2 : Int) (r3 : Int) (r4 : Int) (r5 : Int) (w : World) (h : isa_Decode.f k a0 = some (r1, r2, r3, r4, r5)) :
  Calls Try.prog 64 #[.int .u32 a0] w fun e w' => e = .returned (.agg #[.int .i8 r1, .int .i8 r2, .int .i8 r3, .int .i8 r4, .int .i64 r5]) ∧ Below w.heap.size w w' := by
 have hu106 := Try.underlying106
 have HB := Aside0.mk (Below.refl w.heap.size w)
 have H : ((isa_has.f (IntKind.i8.wrap (a0 / 134217728))).bind fun t108 => (if (Go.bits .and .i64 t108 8) = 0 then (isa_Decode.j0 k a0 false (IntKind.i8.wrap (a0 / 134217728)) (IntKind.i8.wrap (Go.bits .and .u32 (a0 / 8388608) 15)) (IntKind.i8.wrap (Go.bits .and .u32 (a0 / 524288) 15)) (IntKind.i8.wrap (Go.bits .and .u32 (a0 / 32768) 15)) (wrap64 (Go.bits .and .u32 a0 32767))) else (if (Go.bits .and .i64 t108 16) = 0 then (isa_Decode.j0 k a0 (decide ((wrap64 (Go.bits .and .u32 a0 32767)) ≥ 16384)) (IntKind.i8.wrap (a0 / 134217728)) (IntKind.i8.wrap (Go.bits .and .u32 (a0 / 8388608) 15)) (IntKind.i8.wrap (Go.bits .and .u32 (a0 / 524288) 15)) (IntKind.i8.wrap (Go.bits .and .u32 (a0 / 32768) 15)) (wrap64 (Go.bits .and .u32 a0 32767))) else (isa_Decode.j0 k a0 false (IntKind.i8.wrap (a0 / 134217728)) (IntKind.i8.wrap (Go.bits .and .u32 (a0 / 8388608) 15)) (IntKind.i8.wrap (Go.bits .and .u32 (a0 / 524288) 15)) (IntKind.i8.wrap (Go.bits .and .u32 (a0 / 32768) 15)) (wrap64 (Go.bits .and .u32 a0 32767)))))) = some (r1, r2, r3, r4, r5) := h
 clear h
 replace H := Option.bind_eq_some_iff.mp H
 obtain ⟨t108, A20, H⟩ := H
 try dsimp only at H
 have A2 := Aside0.mk A20
 clear A20
 have HC3 := Aside0.mk H
 clear H
 go_enter Try.func64, Try.ntmps64
 go_upto_region 3 with (first | ((with_reducible refine gate_dst (N := 2) rfl ?_); refine box_event ?hg (N := 2) ?hd (cs := #[.int .i8 0, .int .i8 0, .int .i8 0, .int .i8 0, .int .i64 0]) (t := 106) ?hr ?_; (case hd => rfl); (case hg => rfl); (case hr => go_simp; try rfl); intro gb106 hg w4 hbox hb; have BK106 := Aside0.mk (hbox); have GW106 := Aside0.mk (gwQ hg HB.out); have GE106 := Aside0.mk (gwQ hg HB.out); replace HB := Aside0.mk (bsQ hb HB.out); clear hb hbox hg) | ((with_reducible refine gate_dst (N := 3) rfl ?_); refine box_event ?hg (N := 3) ?hd (cs := #[.int .i8 0, .int .i8 0, .int .i8 0, .int .i8 0, .int .i64 0]) (t := 106) ?hr ?_; (case hd => rfl); (case hg => rfl); (case hr => go_simp; try rfl); intro gb107 hg w5 hbox hb; have n0_ := Aside0.mk (bbQ hb BK106.out); have n1_ := Aside0.mk (bs1Q hb (by repeat with_reducible first | exact HB.out | apply pw_below_drewN | apply below_drew1 | refine below_set ?_ GE106.out)); have n2_ := Aside0.mk (hbox); have n3_ := Aside0.mk (gw1Q hg (by repeat with_reducible first | exact HB.out | apply pw_below_drewN | apply below_drew1 | refine below_set ?_ GE106.out)); have n4_ := Aside0.mk (gw1Q hg (by repeat with_reducible first | exact HB.out | apply pw_below_drewN | apply below_drew1 | refine below_set ?_ GE106.out)); have n5_ := Aside0.mk ((by rw [hg]; exact Nat.ne_of_lt (blk_lt (g := gb106) (o := .cells #[.int .i8 0, .int .i8 0, .int .i8 0, .int .i8 0, .int .i64 0] 106 (0, 0)) (by exact BK106.out)) : gb106 ≠ gb107)); have n6_ := Aside0.mk ((by rw [hg]; exact Nat.ne_of_gt (blk_lt (g := gb106) (o := .cells #[.int .i8 0, .int .i8 0, .int .i8 0, .int .i8 0, .int .i64 0] 106 (0, 0)) (by exact BK106.out)) : gb107 ≠ gb106)); clear BK106; clear HB; have BK106 := n0_; have HB := n1_; have BK107 := n2_; have GW107 := n3_; have GE107 := n4_; have NB106_107 := n5_; have NB107_106 := n6_; clear n0_ n1_ n2_ n3_ n4_ n5_ n6_; clear hb hbox hg; have hnb6 := NB107_106.out; have hnc6 := NB106_107.out; obtain ⟨hcz7_0, hcz7_1, hcz7_2, hcz7_3, hcz7_4⟩ := bcQ5 BK107.out; obtain ⟨hfz7_0, hfz7_1, hfz7_2, hfz7_3, hfz7_4⟩ := fzQ5 BK107.out) | ((with_reducible refine gate_callee (f := 65) rfl ?_); refine goesL_ (some 28) rfl rfl Try.func65 (by kernel_rfl) rfl #[.int .i8 (IntKind.i8.wrap (a0 / 134217728))] rfl (by (try simp only [List.map_toArray, List.map_cons, List.map_nil]); try rfl) ?_; (with_reducible refine (isa_has.calls (IntKind.i8.wrap (a0 / 134217728)) t108 _ A2.out).mono ?_); rintro e w8 ⟨rfl, hb⟩; refine ⟨_, rfl, ?_⟩; have n0_ := Aside0.mk (blk_below (g := gb106) (o := .cells #[.int .i8 0, .int .i8 0, .int .i8 0, .int .i8 0, .int .i64 0] 106 (0, 0)) (by refine blk_far ?_ NB106_107.out _; refine blk_far ?_ NB106_107.out _; refine blk_far ?_ NB106_107.out _; refine blk_far ?_ NB106_107.out _; refine blk_far ?_ NB106_107.out _; exact BK106.out) hb); have n1_ := Aside0.mk (blk_below (g := gb107) (o := .cells #[.int .i8 (IntKind.i8.wrap (a0 / 134217728)), .int .i8 (IntKind.i8.wrap (Go.bits .and .u32 (a0 / 8388608) 15)), .int .i8 (IntKind.i8.wrap (Go.bits .and .u32 (a0 / 524288) 15)), .int .i8 (IntKind.i8.wrap (Go.bits .and .u32 (a0 / 32768) 15)), .int .i64 (wrap64 (Go.bits .and .u32 a0 32767))] 106 (0, 0)) (by refine blk_put (cs := #[.int .i8 (IntKind.i8.wrap (a0 / 134217728)), .int .i8 (IntKind.i8.wrap (Go.bits .and .u32 (a0 / 8388608) 15)), .int .i8 (IntKind.i8.wrap (Go.bits .and .u32 (a0 / 524288) 15)), .int .i8 (IntKind.i8.wrap (Go.bits .and .u32 (a0 / 32768) 15)), .int .i64 0]) ?_ 4 _ rfl; refine blk_put (cs := #[.int .i8 (IntKind.i8.wrap (a0 / 134217728)), .int .i8 (IntKind.i8.wrap (Go.bits .and .u32 (a0 / 8388608) 15)), .int .i8 (IntKind.i8.wrap (Go.bits .and .u32 (a0 / 524288) 15)), .int .i8 0, .int .i64 0]) ?_ 3 _ rfl; refine blk_put (cs := #[.int .i8 (IntKind.i8.wrap (a0 / 134217728)), .int .i8 (IntKind.i8.wrap (Go.bits .and .u32 (a0 / 8388608) 15)), .int .i8 0, .int .i8 0, .int .i64 0]) ?_ 2 _ rfl; refine blk_put (cs := #[.int .i8 (IntKind.i8.wrap (a0 / 134217728)), .int .i8 0, .int .i8 0, .int .i8 0, .int .i64 0]) ?_ 1 _ rfl; refine blk_put (cs := #[.int .i8 0, .int .i8 0, .int .i8 0, .int .i8 0, .int .i64 0]) ?_ 0 _ rfl; exact BK107.out) hb); have n2_ := Aside0.mk (bs1Q hb (by repeat with_reducible first | exact HB.out | apply pw_below_drewN | apply below_drew1 | refine below_set ?_ GE106.out | refine below_set ?_ GE107.out)); clear BK106; clear BK107; clear HB; have BK106 := n0_; have BK107 := n1_; have HB := n2_; clear n0_ n1_ n2_; (try clear hb); (try clear hb2); (try clear hk); (try clear hi)))
 (try simp only [Act.put, List.setIfInBounds_toArray, List.set_cons_zero, List.set_cons_succ])
 go_cut [41] (fun v41 wc => ∃ (kq : Nat) (x41_2 : Bool), v41 = .bool x41_2 ∧ Aside0 (isa_Decode.j0 kq a0 x41_2 (IntKind.i8.wrap (a0 / 134217728)) (IntKind.i8.wrap (Go.bits .and .u32 (a0 / 8388608) 15)) (IntKind.i8.wrap (Go.bits .and .u32 (a0 / 524288) 15)) (IntKind.i8.wrap (Go.bits .and .u32 (a0 / 32768) 15)) (wrap64 (Go.bits .and .u32 a0 32767)) = some (r1, r2, r3, r4, r5)) ∧ Aside0 (kq ≤ k) ∧ Aside0 (wc.heap[gb106]? = some (.cells #[.int .i8 0, .int .i8 0, .int .i8 0, .int .i8 0, .int .i64 0] 106 (0, 0))) ∧ Aside0 (wc.heap[gb107]? = some (.cells #[.int .i8 (IntKind.i8.wrap (a0 / 134217728)), .int .i8 (IntKind.i8.wrap (Go.bits .and .u32 (a0 / 8388608) 15)), .int .i8 (IntKind.i8.wrap (Go.bits .and .u32 (a0 / 524288) 15)), .int .i8 (IntKind.i8.wrap (Go.bits .and .u32 (a0 / 32768) 15)), .int .i64 (wrap64 (Go.bits .and .u32 a0 32767))] 106 (0, 0))) ∧ Aside0 (Below w.heap.size w wc))
 case first =>
  have H := HC3.out
  clear HC3
  by_cases c9 : (Go.bits .and .i64 t108 8) = 0
  ·
   rw [if_pos c9] at H
   have c9b0 : ((Go.bits .and .i64 t108 8) == 0) = true := beq_iff_eq.mpr c9
   have c9b1 : ((Go.bits .and .i64 t108 8) != 0) = false := bne_eq_false_iff_eq.mpr c9
   clear c9
   (first | rw [c9b0] | (simp only [i64_w, i32_w]; rw [c9b0]) | skip)
   have H' := Aside0.mk H
   clear H
   go_wp2
   go_meet
   case rel => exact ⟨_, (false), (by first | rfl | (simp; done) | (simp [*]; done)), H', ⟨by first | omega | exact Nat.le_refl _⟩, ⟨by exact BK106.out⟩, ⟨by exact BK107.out⟩, ⟨by repeat with_reducible first | exact HB.out | apply pw_below_drewN | apply below_drew1 | refine below_set ?_ GE106.out | refine below_set ?_ GE107.out⟩⟩
  ·
   rw [if_neg c9] at H
   have c9b0 : ((Go.bits .and .i64 t108 8) == 0) = false := beq_eq_false_iff_ne.mpr c9
   have c9b1 : ((Go.bits .and .i64 t108 8) != 0) = true := bne_iff_ne.mpr c9
   (first | rw [c9b0] | (simp only [i64_w, i32_w]; rw [c9b0]) | skip)
   by_cases c10 : (Go.bits .and .i64 t108 16) = 0
   ·
    rw [if_pos c10] at H
    have c10b0 : ((Go.bits .and .i64 t108 16) == 0) = true := beq_iff_eq.mpr c10
    have c10b1 : ((Go.bits .and .i64 t108 16) != 0) = false := bne_eq_false_iff_eq.mpr c10
    clear c10
    have H' := Aside0.mk H
    clear H
    have hnb11 := NB107_106.out
    have hnc11 := NB106_107.out
    obtain ⟨hcz12_0, hcz12_1, hcz12_2, hcz12_3, hcz12_4⟩ := bcQ5 BK107.out
    obtain ⟨hfz12_0, hfz12_1, hfz12_2, hfz12_3, hfz12_4⟩ := fzQ5 BK107.out
    go_wp2
    go_meet
    case rel => exact ⟨_, (decide ((wrap64 (Go.bits .and .u32 a0 32767)) ≥ 16384)), (by first | rfl | (simp; done) | (simp [*]; done)), H', ⟨by first | omega | exact Nat.le_refl _⟩, ⟨by exact BK106.out⟩, ⟨by exact BK107.out⟩, ⟨by repeat with_reducible first | exact HB.out | apply pw_below_drewN | apply below_drew1 | refine below_set ?_ GE106.out | refine below_set ?_ GE107.out⟩⟩
   ·
    rw [if_neg c10] at H
    have c10b0 : ((Go.bits .and .i64 t108 16) == 0) = false := beq_eq_false_iff_ne.mpr c10
    have c10b1 : ((Go.bits .and .i64 t108 16) != 0) = true := bne_iff_ne.mpr c10
    have H' := Aside0.mk H
    clear H
    go_wp2
    go_meet
    case rel => exact ⟨_, (false), (by first | rfl | (simp; done) | (simp [*]; done)), H', ⟨by first | omega | exact Nat.le_refl _⟩, ⟨by exact BK106.out⟩, ⟨by exact BK107.out⟩, ⟨by repeat with_reducible first | exact HB.out | apply pw_below_drewN | apply below_drew1 | refine below_set ?_ GE106.out | refine below_set ?_ GE107.out⟩⟩
 case rest =>
  clear HC3
  try clear c1
  try clear p2
  try clear c6
  try clear p6
  try clear c9
  try clear c9b0
  try clear c9b1
  try clear c10
  try clear c10b0
  try clear c10b1
  try clear c11
  try clear hcz12_0 hcz12_1 hcz12_2 hcz12_3 hcz12_4
  try clear hcz7_0 hcz7_1 hcz7_2 hcz7_3 hcz7_4
  try clear hfz12_0 hfz12_1 hfz12_2 hfz12_3 hfz12_4
  try clear hfz7_0 hfz7_1 hfz7_2 hfz7_3 hfz7_4
  obtain ⟨kq, x41_2, rfl, HA, HJ2, BK106, BK107, HB⟩ := hcut
  cases kq with
  | zero => exact absurd HA.out (by simp [isa_Decode.j0])
  | succ kj2 =>
   have H := HA.out
   clear HA
   simp only [isa_Decode.j0] at H
   by_cases c13 : x41_2 = true
   ·
    subst c13
    rw [if_pos rfl] at H
    replace H := Option.bind_eq_some_iff.mp H
    obtain ⟨⟨t109, t110⟩, A140, H⟩ := H
    try dsimp only at H
    have A14 := Aside0.mk A140
    clear A140
    by_cases c15 : t110 = 0
    ·
     rw [if_pos c15] at H
     have c15b0 : (t110 == 0) = true := beq_iff_eq.mpr c15
     have c15b1 : (t110 != 0) = false := bne_eq_false_iff_eq.mpr c15
     clear c15
     by_cases c16 : t109 = a0
     ·
      rw [if_pos c16] at H
      have c16b0 : (t109 == a0) = true := beq_iff_eq.mpr c16
      have c16b1 : (t109 != a0) = false := bne_eq_false_iff_eq.mpr c16
      clear c16
      simp only [Option.some.injEq, Prod.mk.injEq] at H
      obtain ⟨rfl, rfl, rfl, rfl, rfl⟩ := H
      have hnb17 := NB107_106.out
      have hnc17 := NB106_107.out
      obtain ⟨hcz18_0, hcz18_1, hcz18_2, hcz18_3, hcz18_4⟩ := bcQ5 BK107.out
      obtain ⟨hfz18_0, hfz18_1, hfz18_2, hfz18_3, hfz18_4⟩ := fzQ5 BK107.out
      go_wp2_with (first | ((with_reducible refine gate_callee (f := 70) rfl ?_); refine goesL_ (some 48) rfl rfl Try.func70 (by kernel_rfl) rfl #[.agg #[.int .i8 (IntKind.i8.wrap (a0 / 134217728)), .int .i8 (IntKind.i8.wrap (Go.bits .and .u32 (a0 / 8388608) 15)), .int .i8 (IntKind.i8.wrap (Go.bits .and .u32 (a0 / 524288) 15)), .int .i8 (IntKind.i8.wrap (Go.bits .and .u32 (a0 / 32768) 15)), .int .i64 (wrap64 ((wrap64 (Go.bits .and .u32 a0 32767)) - 32768))]] rfl (by (try simp only [List.map_toArray, List.map_cons, List.map_nil]); try rfl) ?_; (with_reducible refine (isa_Encode.calls (IntKind.i8.wrap (a0 / 134217728)) (IntKind.i8.wrap (Go.bits .and .u32 (a0 / 8388608) 15)) (IntKind.i8.wrap (Go.bits .and .u32 (a0 / 524288) 15)) (IntKind.i8.wrap (Go.bits .and .u32 (a0 / 32768) 15)) (wrap64 ((wrap64 (Go.bits .and .u32 a0 32767)) - 32768)) t109 t110 _ A14.out).mono ?_); rintro e w19 ⟨rfl, hb⟩; refine ⟨_, rfl, ?_⟩; have n0_ := Aside0.mk (blk_below (g := gb106) (o := .cells #[.int .i8 0, .int .i8 0, .int .i8 0, .int .i8 0, .int .i64 0] 106 (0, 0)) (by refine blk_far ?_ NB106_107.out _; exact BK106.out) hb); have n1_ := Aside0.mk (blk_below (g := gb107) (o := .cells #[.int .i8 (IntKind.i8.wrap (a0 / 134217728)), .int .i8 (IntKind.i8.wrap (Go.bits .and .u32 (a0 / 8388608) 15)), .int .i8 (IntKind.i8.wrap (Go.bits .and .u32 (a0 / 524288) 15)), .int .i8 (IntKind.i8.wrap (Go.bits .and .u32 (a0 / 32768) 15)), .int .i64 (wrap64 ((wrap64 (Go.bits .and .u32 a0 32767)) - 32768))] 106 (0, 0)) (by refine blk_put (cs := #[.int .i8 (IntKind.i8.wrap (a0 / 134217728)), .int .i8 (IntKind.i8.wrap (Go.bits .and .u32 (a0 / 8388608) 15)), .int .i8 (IntKind.i8.wrap (Go.bits .and .u32 (a0 / 524288) 15)), .int .i8 (IntKind.i8.wrap (Go.bits .and .u32 (a0 / 32768) 15)), .int .i64 (wrap64 (Go.bits .and .u32 a0 32767))]) ?_ 4 _ rfl; exact BK107.out) hb); have n2_ := Aside0.mk (bs1Q hb (by repeat with_reducible first | exact HB.out | apply pw_below_drewN | apply below_drew1 | refine below_set ?_ GE106.out | refine below_set ?_ GE107.out)); clear BK106; clear BK107; clear HB; have BK106 := n0_; have BK107 := n1_; have HB := n2_; clear n0_ n1_ n2_; (try clear hb); (try clear hb2); (try clear hk); (try clear hi); obtain ⟨hcz20_0, hcz20_1, hcz20_2, hcz20_3, hcz20_4⟩ := bcQ5 BK107.out; obtain ⟨hfz20_0, hfz20_1, hfz20_2, hfz20_3, hfz20_4⟩ := fzQ5 BK107.out; obtain ⟨hcz21_0, hcz21_1, hcz21_2, hcz21_3, hcz21_4⟩ := bcQ5 BK106.out; obtain ⟨hfz21_0, hfz21_1, hfz21_2, hfz21_3, hfz21_4⟩ := fzQ5 BK106.out))
      refine bodyPost_ret (results_cell_row rfl _ _ gb106 106 #[.int .i8 (IntKind.i8.wrap (a0 / 134217728)), .int .i8 (IntKind.i8.wrap (Go.bits .and .u32 (a0 / 8388608) 15)), .int .i8 (IntKind.i8.wrap (Go.bits .and .u32 (a0 / 524288) 15)), .int .i8 (IntKind.i8.wrap (Go.bits .and .u32 (a0 / 32768) 15)), .int .i64 (wrap64 ((wrap64 (Go.bits .and .u32 a0 32767)) - 32768))] (0, 0) _ rfl (by refine blk_put (cs := #[.int .i8 (IntKind.i8.wrap (a0 / 134217728)), .int .i8 (IntKind.i8.wrap (Go.bits .and .u32 (a0 / 8388608) 15)), .int .i8 (IntKind.i8.wrap (Go.bits .and .u32 (a0 / 524288) 15)), .int .i8 (IntKind.i8.wrap (Go.bits .and .u32 (a0 / 32768) 15)), .int .i64 0]) ?_ 4 _ rfl; refine blk_put (cs := #[.int .i8 (IntKind.i8.wrap (a0 / 134217728)), .int .i8 (IntKind.i8.wrap (Go.bits .and .u32 (a0 / 8388608) 15)), .int .i8 (IntKind.i8.wrap (Go.bits .and .u32 (a0 / 524288) 15)), .int .i8 0, .int .i64 0]) ?_ 3 _ rfl; refine blk_put (cs := #[.int .i8 (IntKind.i8.wrap (a0 / 134217728)), .int .i8 (IntKind.i8.wrap (Go.bits .and .u32 (a0 / 8388608) 15)), .int .i8 0, .int .i8 0, .int .i64 0]) ?_ 2 _ rfl; refine blk_put (cs := #[.int .i8 (IntKind.i8.wrap (a0 / 134217728)), .int .i8 0, .int .i8 0, .int .i8 0, .int .i64 0]) ?_ 1 _ rfl; refine blk_put (cs := #[.int .i8 0, .int .i8 0, .int .i8 0, .int .i8 0, .int .i64 0]) ?_ 0 _ rfl; exact BK106.out) Try.underlying106 rfl (by kernel_rfl)) rfl ?_
      exact ⟨by first | rfl | (simp [errW_none, errW_some] <;> rfl) | (simp [*, errW_none, errW_some] <;> rfl), by repeat with_reducible first | exact HB.out | apply pw_below_drewN | apply below_drew1 | refine below_set ?_ GE106.out | refine below_set ?_ GE107.out⟩
     ·
      rw [if_neg c16] at H
      have c16b0 : (t109 == a0) = false := beq_eq_false_iff_ne.mpr c16
      have c16b1 : (t109 != a0) = true := bne_iff_ne.mpr c16
      simp only [Option.some.injEq, Prod.mk.injEq] at H
      obtain ⟨rfl, rfl, rfl, rfl, rfl⟩ := H
      have hnb22 := NB107_106.out
      have hnc22 := NB106_107.out
      obtain ⟨hcz23_0, hcz23_1, hcz23_2, hcz23_3, hcz23_4⟩ := bcQ5 BK107.out
      obtain ⟨hfz23_0, hfz23_1, hfz23_2, hfz23_3, hfz23_4⟩ := fzQ5 BK107.out
      go_wp2_with (first | ((with_reducible refine gate_callee (f := 70) rfl ?_); refine goesL_ (some 48) rfl rfl Try.func70 (by kernel_rfl) rfl #[.agg #[.int .i8 (IntKind.i8.wrap (a0 / 134217728)), .int .i8 (IntKind.i8.wrap (Go.bits .and .u32 (a0 / 8388608) 15)), .int .i8 (IntKind.i8.wrap (Go.bits .and .u32 (a0 / 524288) 15)), .int .i8 (IntKind.i8.wrap (Go.bits .and .u32 (a0 / 32768) 15)), .int .i64 (wrap64 ((wrap64 (Go.bits .and .u32 a0 32767)) - 32768))]] rfl (by (try simp only [List.map_toArray, List.map_cons, List.map_nil]); try rfl) ?_; (with_reducible refine (isa_Encode.calls (IntKind.i8.wrap (a0 / 134217728)) (IntKind.i8.wrap (Go.bits .and .u32 (a0 / 8388608) 15)) (IntKind.i8.wrap (Go.bits .and .u32 (a0 / 524288) 15)) (IntKind.i8.wrap (Go.bits .and .u32 (a0 / 32768) 15)) (wrap64 ((wrap64 (Go.bits .and .u32 a0 32767)) - 32768)) t109 t110 _ A14.out).mono ?_); rintro e w24 ⟨rfl, hb⟩; refine ⟨_, rfl, ?_⟩; have n0_ := Aside0.mk (blk_below (g := gb106) (o := .cells #[.int .i8 0, .int .i8 0, .int .i8 0, .int .i8 0, .int .i64 0] 106 (0, 0)) (by refine blk_far ?_ NB106_107.out _; exact BK106.out) hb); have n1_ := Aside0.mk (blk_below (g := gb107) (o := .cells #[.int .i8 (IntKind.i8.wrap (a0 / 134217728)), .int .i8 (IntKind.i8.wrap (Go.bits .and .u32 (a0 / 8388608) 15)), .int .i8 (IntKind.i8.wrap (Go.bits .and .u32 (a0 / 524288) 15)), .int .i8 (IntKind.i8.wrap (Go.bits .and .u32 (a0 / 32768) 15)), .int .i64 (wrap64 ((wrap64 (Go.bits .and .u32 a0 32767)) - 32768))] 106 (0, 0)) (by refine blk_put (cs := #[.int .i8 (IntKind.i8.wrap (a0 / 134217728)), .int .i8 (IntKind.i8.wrap (Go.bits .and .u32 (a0 / 8388608) 15)), .int .i8 (IntKind.i8.wrap (Go.bits .and .u32 (a0 / 524288) 15)), .int .i8 (IntKind.i8.wrap (Go.bits .and .u32 (a0 / 32768) 15)), .int .i64 (wrap64 (Go.bits .and .u32 a0 32767))]) ?_ 4 _ rfl; exact BK107.out) hb); have n2_ := Aside0.mk (bs1Q hb (by repeat with_reducible first | exact HB.out | apply pw_below_drewN | apply below_drew1 | refine below_set ?_ GE106.out | refine below_set ?_ GE107.out)); clear BK106; clear BK107; clear HB; have BK106 := n0_; have BK107 := n1_; have HB := n2_; clear n0_ n1_ n2_; (try clear hb); (try clear hb2); (try clear hk); (try clear hi); obtain ⟨hcz25_0, hcz25_1, hcz25_2, hcz25_3, hcz25_4⟩ := bcQ5 BK106.out; obtain ⟨hfz25_0, hfz25_1, hfz25_2, hfz25_3, hfz25_4⟩ := fzQ5 BK106.out))
      refine bodyPost_ret (results_cell_row rfl _ _ gb106 106 #[.int .i8 (-1), .int .i8 0, .int .i8 0, .int .i8 0, .int .i64 (wrap64 (a0))] (0, 0) _ rfl (by refine blk_put (cs := #[.int .i8 (-1), .int .i8 0, .int .i8 0, .int .i8 0, .int .i64 0]) ?_ 4 _ rfl; refine blk_put (cs := #[.int .i8 (-1), .int .i8 0, .int .i8 0, .int .i8 0, .int .i64 0]) ?_ 3 _ rfl; refine blk_put (cs := #[.int .i8 (-1), .int .i8 0, .int .i8 0, .int .i8 0, .int .i64 0]) ?_ 2 _ rfl; refine blk_put (cs := #[.int .i8 (-1), .int .i8 0, .int .i8 0, .int .i8 0, .int .i64 0]) ?_ 1 _ rfl; refine blk_put (cs := #[.int .i8 0, .int .i8 0, .int .i8 0, .int .i8 0, .int .i64 0]) ?_ 0 _ rfl; exact BK106.out) Try.underlying106 rfl (by kernel_rfl)) rfl ?_
      exact ⟨by first | rfl | (simp [errW_none, errW_some] <;> rfl) | (simp [*, errW_none, errW_some] <;> rfl), by repeat with_reducible first | exact HB.out | apply pw_below_drewN | apply below_drew1 | refine below_set ?_ GE106.out | refine below_set ?_ GE107.out⟩
    ·
     rw [if_neg c15] at H
     have c15b0 : (t110 == 0) = false := beq_eq_false_iff_ne.mpr c15
     have c15b1 : (t110 != 0) = true := bne_iff_ne.mpr c15
     simp only [Option.some.injEq, Prod.mk.injEq] at H
     obtain ⟨rfl, rfl, rfl, rfl, rfl⟩ := H
     have hnb26 := NB107_106.out
     have hnc26 := NB106_107.out
     obtain ⟨hcz27_0, hcz27_1, hcz27_2, hcz27_3, hcz27_4⟩ := bcQ5 BK107.out
     obtain ⟨hfz27_0, hfz27_1, hfz27_2, hfz27_3, hfz27_4⟩ := fzQ5 BK107.out
     go_wp2_with (first | ((with_reducible refine gate_callee (f := 70) rfl ?_); refine goesL_ (some 48) rfl rfl Try.func70 (by kernel_rfl) rfl #[.agg #[.int .i8 (IntKind.i8.wrap (a0 / 134217728)), .int .i8 (IntKind.i8.wrap (Go.bits .and .u32 (a0 / 8388608) 15)), .int .i8 (IntKind.i8.wrap (Go.bits .and .u32 (a0 / 524288) 15)), .int .i8 (IntKind.i8.wrap (Go.bits .and .u32 (a0 / 32768) 15)), .int .i64 (wrap64 ((wrap64 (Go.bits .and .u32 a0 32767)) - 32768))]] rfl (by (try simp only [List.map_toArray, List.map_cons, List.map_nil]); try rfl) ?_; (with_reducible refine (isa_Encode.calls (IntKind.i8.wrap (a0 / 134217728)) (IntKind.i8.wrap (Go.bits .and .u32 (a0 / 8388608) 15)) (IntKind.i8.wrap (Go.bits .and .u32 (a0 / 524288) 15)) (IntKind.i8.wrap (Go.bits .and .u32 (a0 / 32768) 15)) (wrap64 ((wrap64 (Go.bits .and .u32 a0 32767)) - 32768)) t109 t110 _ A14.out).mono ?_); rintro e w28 ⟨rfl, hb⟩; refine ⟨_, rfl, ?_⟩; have n0_ := Aside0.mk (blk_below (g := gb106) (o := .cells #[.int .i8 0, .int .i8 0, .int .i8 0, .int .i8 0, .int .i64 0] 106 (0, 0)) (by refine blk_far ?_ NB106_107.out _; exact BK106.out) hb); have n1_ := Aside0.mk (blk_below (g := gb107) (o := .cells #[.int .i8 (IntKind.i8.wrap (a0 / 134217728)), .int .i8 (IntKind.i8.wrap (Go.bits .and .u32 (a0 / 8388608) 15)), .int .i8 (IntKind.i8.wrap (Go.bits .and .u32 (a0 / 524288) 15)), .int .i8 (IntKind.i8.wrap (Go.bits .and .u32 (a0 / 32768) 15)), .int .i64 (wrap64 ((wrap64 (Go.bits .and .u32 a0 32767)) - 32768))] 106 (0, 0)) (by refine blk_put (cs := #[.int .i8 (IntKind.i8.wrap (a0 / 134217728)), .int .i8 (IntKind.i8.wrap (Go.bits .and .u32 (a0 / 8388608) 15)), .int .i8 (IntKind.i8.wrap (Go.bits .and .u32 (a0 / 524288) 15)), .int .i8 (IntKind.i8.wrap (Go.bits .and .u32 (a0 / 32768) 15)), .int .i64 (wrap64 (Go.bits .and .u32 a0 32767))]) ?_ 4 _ rfl; exact BK107.out) hb); have n2_ := Aside0.mk (bs1Q hb (by repeat with_reducible first | exact HB.out | apply pw_below_drewN | apply below_drew1 | refine below_set ?_ GE106.out | refine below_set ?_ GE107.out)); clear BK106; clear BK107; clear HB; have BK106 := n0_; have BK107 := n1_; have HB := n2_; clear n0_ n1_ n2_; (try clear hb); (try clear hb2); (try clear hk); (try clear hi); obtain ⟨hcz29_0, hcz29_1, hcz29_2, hcz29_3, hcz29_4⟩ := bcQ5 BK106.out; obtain ⟨hfz29_0, hfz29_1, hfz29_2, hfz29_3, hfz29_4⟩ := fzQ5 BK106.out))
     refine bodyPost_ret (results_cell_row rfl _ _ gb106 106 #[.int .i8 (-1), .int .i8 0, .int .i8 0, .int .i8 0, .int .i64 (wrap64 (a0))] (0, 0) _ rfl (by refine blk_put (cs := #[.int .i8 (-1), .int .i8 0, .int .i8 0, .int .i8 0, .int .i64 0]) ?_ 4 _ rfl; refine blk_put (cs := #[.int .i8 (-1), .int .i8 0, .int .i8 0, .int .i8 0, .int .i64 0]) ?_ 3 _ rfl; refine blk_put (cs := #[.int .i8 (-1), .int .i8 0, .int .i8 0, .int .i8 0, .int .i64 0]) ?_ 2 _ rfl; refine blk_put (cs := #[.int .i8 (-1), .int .i8 0, .int .i8 0, .int .i8 0, .int .i64 0]) ?_ 1 _ rfl; refine blk_put (cs := #[.int .i8 0, .int .i8 0, .int .i8 0, .int .i8 0, .int .i64 0]) ?_ 0 _ rfl; exact BK106.out) Try.underlying106 rfl (by kernel_rfl)) rfl ?_
     exact ⟨by first | rfl | (simp [errW_none, errW_some] <;> rfl) | (simp [*, errW_none, errW_some] <;> rfl), by repeat with_reducible first | exact HB.out | apply pw_below_drewN | apply below_drew1 | refine below_set ?_ GE106.out | refine below_set ?_ GE107.out⟩
   ·
    replace c13 := Bool.eq_false_iff.mpr c13
    subst c13
    rw [if_neg Bool.false_ne_true] at H
    replace H := Option.bind_eq_some_iff.mp H
    obtain ⟨⟨t111, t112⟩, A300, H⟩ := H
    try dsimp only at H
    have A30 := Aside0.mk A300
    clear A300
    by_cases c31 : t112 = 0
    ·
     rw [if_pos c31] at H
     have c31b0 : (t112 == 0) = true := beq_iff_eq.mpr c31
     have c31b1 : (t112 != 0) = false := bne_eq_false_iff_eq.mpr c31
     clear c31
     by_cases c32 : t111 = a0
     ·
      rw [if_pos c32] at H
      have c32b0 : (t111 == a0) = true := beq_iff_eq.mpr c32
      have c32b1 : (t111 != a0) = false := bne_eq_false_iff_eq.mpr c32
      clear c32
      simp only [Option.some.injEq, Prod.mk.injEq] at H
      obtain ⟨rfl, rfl, rfl, rfl, rfl⟩ := H
      have hnb33 := NB107_106.out
      have hnc33 := NB106_107.out
      obtain ⟨hcz34_0, hcz34_1, hcz34_2, hcz34_3, hcz34_4⟩ := bcQ5 BK107.out
      obtain ⟨hfz34_0, hfz34_1, hfz34_2, hfz34_3, hfz34_4⟩ := fzQ5 BK107.out
      go_wp2_with (first | ((with_reducible refine gate_callee (f := 70) rfl ?_); refine goesL_ (some 48) rfl rfl Try.func70 (by kernel_rfl) rfl #[.agg #[.int .i8 (IntKind.i8.wrap (a0 / 134217728)), .int .i8 (IntKind.i8.wrap (Go.bits .and .u32 (a0 / 8388608) 15)), .int .i8 (IntKind.i8.wrap (Go.bits .and .u32 (a0 / 524288) 15)), .int .i8 (IntKind.i8.wrap (Go.bits .and .u32 (a0 / 32768) 15)), .int .i64 (wrap64 (Go.bits .and .u32 a0 32767))]] rfl (by (try simp only [List.map_toArray, List.map_cons, List.map_nil]); try rfl) ?_; (with_reducible refine (isa_Encode.calls (IntKind.i8.wrap (a0 / 134217728)) (IntKind.i8.wrap (Go.bits .and .u32 (a0 / 8388608) 15)) (IntKind.i8.wrap (Go.bits .and .u32 (a0 / 524288) 15)) (IntKind.i8.wrap (Go.bits .and .u32 (a0 / 32768) 15)) (wrap64 (Go.bits .and .u32 a0 32767)) t111 t112 _ A30.out).mono ?_); rintro e w35 ⟨rfl, hb⟩; refine ⟨_, rfl, ?_⟩; replace BK106 := Aside0.mk (bbQ hb BK106.out); replace BK107 := Aside0.mk (bbQ hb BK107.out); replace HB := Aside0.mk (bs1Q hb (by repeat with_reducible first | exact HB.out | apply pw_below_drewN | apply below_drew1 | refine below_set ?_ GE106.out | refine below_set ?_ GE107.out)); (try clear hb); (try clear hb2); (try clear hk); (try clear hi); obtain ⟨hcz36_0, hcz36_1, hcz36_2, hcz36_3, hcz36_4⟩ := bcQ5 BK107.out; obtain ⟨hfz36_0, hfz36_1, hfz36_2, hfz36_3, hfz36_4⟩ := fzQ5 BK107.out; obtain ⟨hcz37_0, hcz37_1, hcz37_2, hcz37_3, hcz37_4⟩ := bcQ5 BK106.out; obtain ⟨hfz37_0, hfz37_1, hfz37_2, hfz37_3, hfz37_4⟩ := fzQ5 BK106.out))
      refine bodyPost_ret (results_cell_row rfl _ _ gb106 106 #[.int .i8 (IntKind.i8.wrap (a0 / 134217728)), .int .i8 (IntKind.i8.wrap (Go.bits .and .u32 (a0 / 8388608) 15)), .int .i8 (IntKind.i8.wrap (Go.bits .and .u32 (a0 / 524288) 15)), .int .i8 (IntKind.i8.wrap (Go.bits .and .u32 (a0 / 32768) 15)), .int .i64 (wrap64 (Go.bits .and .u32 a0 32767))] (0, 0) _ rfl (by refine blk_put (cs := #[.int .i8 (IntKind.i8.wrap (a0 / 134217728)), .int .i8 (IntKind.i8.wrap (Go.bits .and .u32 (a0 / 8388608) 15)), .int .i8 (IntKind.i8.wrap (Go.bits .and .u32 (a0 / 524288) 15)), .int .i8 (IntKind.i8.wrap (Go.bits .and .u32 (a0 / 32768) 15)), .int .i64 0]) ?_ 4 _ rfl; refine blk_put (cs := #[.int .i8 (IntKind.i8.wrap (a0 / 134217728)), .int .i8 (IntKind.i8.wrap (Go.bits .and .u32 (a0 / 8388608) 15)), .int .i8 (IntKind.i8.wrap (Go.bits .and .u32 (a0 / 524288) 15)), .int .i8 0, .int .i64 0]) ?_ 3 _ rfl; refine blk_put (cs := #[.int .i8 (IntKind.i8.wrap (a0 / 134217728)), .int .i8 (IntKind.i8.wrap (Go.bits .and .u32 (a0 / 8388608) 15)), .int .i8 0, .int .i8 0, .int .i64 0]) ?_ 2 _ rfl; refine blk_put (cs := #[.int .i8 (IntKind.i8.wrap (a0 / 134217728)), .int .i8 0, .int .i8 0, .int .i8 0, .int .i64 0]) ?_ 1 _ rfl; refine blk_put (cs := #[.int .i8 0, .int .i8 0, .int .i8 0, .int .i8 0, .int .i64 0]) ?_ 0 _ rfl; exact BK106.out) Try.underlying106 rfl (by kernel_rfl)) rfl ?_
      exact ⟨by first | rfl | (simp [errW_none, errW_some] <;> rfl) | (simp [*, errW_none, errW_some] <;> rfl), by repeat with_reducible first | exact HB.out | apply pw_below_drewN | apply below_drew1 | refine below_set ?_ GE106.out | refine below_set ?_ GE107.out⟩
     ·
      rw [if_neg c32] at H
      have c32b0 : (t111 == a0) = false := beq_eq_false_iff_ne.mpr c32
      have c32b1 : (t111 != a0) = true := bne_iff_ne.mpr c32
      simp only [Option.some.injEq, Prod.mk.injEq] at H
      obtain ⟨rfl, rfl, rfl, rfl, rfl⟩ := H
      have hnb38 := NB107_106.out
      have hnc38 := NB106_107.out
      obtain ⟨hcz39_0, hcz39_1, hcz39_2, hcz39_3, hcz39_4⟩ := bcQ5 BK107.out
      obtain ⟨hfz39_0, hfz39_1, hfz39_2, hfz39_3, hfz39_4⟩ := fzQ5 BK107.out
      go_wp2_with (first | ((with_reducible refine gate_callee (f := 70) rfl ?_); refine goesL_ (some 48) rfl rfl Try.func70 (by kernel_rfl) rfl #[.agg #[.int .i8 (IntKind.i8.wrap (a0 / 134217728)), .int .i8 (IntKind.i8.wrap (Go.bits .and .u32 (a0 / 8388608) 15)), .int .i8 (IntKind.i8.wrap (Go.bits .and .u32 (a0 / 524288) 15)), .int .i8 (IntKind.i8.wrap (Go.bits .and .u32 (a0 / 32768) 15)), .int .i64 (wrap64 (Go.bits .and .u32 a0 32767))]] rfl (by (try simp only [List.map_toArray, List.map_cons, List.map_nil]); try rfl) ?_; (with_reducible refine (isa_Encode.calls (IntKind.i8.wrap (a0 / 134217728)) (IntKind.i8.wrap (Go.bits .and .u32 (a0 / 8388608) 15)) (IntKind.i8.wrap (Go.bits .and .u32 (a0 / 524288) 15)) (IntKind.i8.wrap (Go.bits .and .u32 (a0 / 32768) 15)) (wrap64 (Go.bits .and .u32 a0 32767)) t111 t112 _ A30.out).mono ?_); rintro e w40 ⟨rfl, hb⟩; refine ⟨_, rfl, ?_⟩; replace BK106 := Aside0.mk (bbQ hb BK106.out); replace BK107 := Aside0.mk (bbQ hb BK107.out); replace HB := Aside0.mk (bs1Q hb (by repeat with_reducible first | exact HB.out | apply pw_below_drewN | apply below_drew1 | refine below_set ?_ GE106.out | refine below_set ?_ GE107.out)); (try clear hb); (try clear hb2); (try clear hk); (try clear hi); obtain ⟨hcz41_0, hcz41_1, hcz41_2, hcz41_3, hcz41_4⟩ := bcQ5 BK106.out; obtain ⟨hfz41_0, hfz41_1, hfz41_2, hfz41_3, hfz41_4⟩ := fzQ5 BK106.out))
      refine bodyPost_ret (results_cell_row rfl _ _ gb106 106 #[.int .i8 (-1), .int .i8 0, .int .i8 0, .int .i8 0, .int .i64 (wrap64 (a0))] (0, 0) _ rfl (by refine blk_put (cs := #[.int .i8 (-1), .int .i8 0, .int .i8 0, .int .i8 0, .int .i64 0]) ?_ 4 _ rfl; refine blk_put (cs := #[.int .i8 (-1), .int .i8 0, .int .i8 0, .int .i8 0, .int .i64 0]) ?_ 3 _ rfl; refine blk_put (cs := #[.int .i8 (-1), .int .i8 0, .int .i8 0, .int .i8 0, .int .i64 0]) ?_ 2 _ rfl; refine blk_put (cs := #[.int .i8 (-1), .int .i8 0, .int .i8 0, .int .i8 0, .int .i64 0]) ?_ 1 _ rfl; refine blk_put (cs := #[.int .i8 0, .int .i8 0, .int .i8 0, .int .i8 0, .int .i64 0]) ?_ 0 _ rfl; exact BK106.out) Try.underlying106 rfl (by kernel_rfl)) rfl ?_
      exact ⟨by first | rfl | (simp [errW_none, errW_some] <;> rfl) | (simp [*, errW_none, errW_some] <;> rfl), by repeat with_reducible first | exact HB.out | apply pw_below_drewN | apply below_drew1 | refine below_set ?_ GE106.out | refine below_set ?_ GE107.out⟩
    ·
     rw [if_neg c31] at H
     have c31b0 : (t112 == 0) = false := beq_eq_false_iff_ne.mpr c31
     have c31b1 : (t112 != 0) = true := bne_iff_ne.mpr c31
     simp only [Option.some.injEq, Prod.mk.injEq] at H
     obtain ⟨rfl, rfl, rfl, rfl, rfl⟩ := H
     have hnb42 := NB107_106.out
     have hnc42 := NB106_107.out
     obtain ⟨hcz43_0, hcz43_1, hcz43_2, hcz43_3, hcz43_4⟩ := bcQ5 BK107.out
     obtain ⟨hfz43_0, hfz43_1, hfz43_2, hfz43_3, hfz43_4⟩ := fzQ5 BK107.out
     go_wp2_with (first | ((with_reducible refine gate_callee (f := 70) rfl ?_); refine goesL_ (some 48) rfl rfl Try.func70 (by kernel_rfl) rfl #[.agg #[.int .i8 (IntKind.i8.wrap (a0 / 134217728)), .int .i8 (IntKind.i8.wrap (Go.bits .and .u32 (a0 / 8388608) 15)), .int .i8 (IntKind.i8.wrap (Go.bits .and .u32 (a0 / 524288) 15)), .int .i8 (IntKind.i8.wrap (Go.bits .and .u32 (a0 / 32768) 15)), .int .i64 (wrap64 (Go.bits .and .u32 a0 32767))]] rfl (by (try simp only [List.map_toArray, List.map_cons, List.map_nil]); try rfl) ?_; (with_reducible refine (isa_Encode.calls (IntKind.i8.wrap (a0 / 134217728)) (IntKind.i8.wrap (Go.bits .and .u32 (a0 / 8388608) 15)) (IntKind.i8.wrap (Go.bits .and .u32 (a0 / 524288) 15)) (IntKind.i8.wrap (Go.bits .and .u32 (a0 / 32768) 15)) (wrap64 (Go.bits .and .u32 a0 32767)) t111 t112 _ A30.out).mono ?_); rintro e w44 ⟨rfl, hb⟩; refine ⟨_, rfl, ?_⟩; replace BK106 := Aside0.mk (bbQ hb BK106.out); replace BK107 := Aside0.mk (bbQ hb BK107.out); replace HB := Aside0.mk (bs1Q hb (by repeat with_reducible first | exact HB.out | apply pw_below_drewN | apply below_drew1 | refine below_set ?_ GE106.out | refine below_set ?_ GE107.out)); (try clear hb); (try clear hb2); (try clear hk); (try clear hi); obtain ⟨hcz45_0, hcz45_1, hcz45_2, hcz45_3, hcz45_4⟩ := bcQ5 BK106.out; obtain ⟨hfz45_0, hfz45_1, hfz45_2, hfz45_3, hfz45_4⟩ := fzQ5 BK106.out))
     refine bodyPost_ret (results_cell_row rfl _ _ gb106 106 #[.int .i8 (-1), .int .i8 0, .int .i8 0, .int .i8 0, .int .i64 (wrap64 (a0))] (0, 0) _ rfl (by refine blk_put (cs := #[.int .i8 (-1), .int .i8 0, .int .i8 0, .int .i8 0, .int .i64 0]) ?_ 4 _ rfl; refine blk_put (cs := #[.int .i8 (-1), .int .i8 0, .int .i8 0, .int .i8 0, .int .i64 0]) ?_ 3 _ rfl; refine blk_put (cs := #[.int .i8 (-1), .int .i8 0, .int .i8 0, .int .i8 0, .int .i64 0]) ?_ 2 _ rfl; refine blk_put (cs := #[.int .i8 (-1), .int .i8 0, .int .i8 0, .int .i8 0, .int .i64 0]) ?_ 1 _ rfl; refine blk_put (cs := #[.int .i8 0, .int .i8 0, .int .i8 0, .int .i8 0, .int .i64 0]) ?_ 0 _ rfl; exact BK106.out) Try.underlying106 rfl (by kernel_rfl)) rfl ?_
     exact ⟨by first | rfl | (simp [errW_none, errW_some] <;> rfl) | (simp [*, errW_none, errW_some] <;> rfl), by repeat with_reducible first | exact HB.out | apply pw_below_drewN | apply below_drew1 | refine below_set ?_ GE106.out | refine below_set ?_ GE107.out⟩


/-! ### isa_Target: function 49 -/
def isa_Target.f (k : Nat) (a0 : Int) : Option (Int × Bool) := (isa_Decode.f k a0).bind fun bt113 => ((isa_has.f bt113.1).bind fun t119 => (if (Go.bits .and .i64 t119 16) = 0 then (some (0, false)) else (some (bt113.2.2.2.2, true))))
theorem isa_Target.mono : ∀ a0 k, LeO (isa_Target.f k a0) (isa_Target.f (k + 1) a0) := by
 intro a0 k
 unfold isa_Target.f
 repeat' first
   | (with_reducible first | exact isa_Decode.mono _ _ | exact LeO.refl _ | exact LeO.none _ | refine LeO.ite ?_ ?_ | refine LeO.bind ?_ (fun _ => ?_))
set_option maxHeartbeats 8000000 in
set_option maxRecDepth 100000 in
theorem isa_Target.calls (k : Nat) (a0 : Int) (r1 : Int) (r2 : Bool) (w : World) (h : isa_Target.f k a0 = some (r1, r2)) :
  Calls Try.prog 49 #[.int .u32 a0] w fun e w' => e = .returned (.tuple #[.int .i64 r1, .bool r2]) ∧ Below w.heap.size w w' := by
 have hu106 := Try.underlying106
 have HB := Aside0.mk (Below.refl w.heap.size w)
 have H : ((isa_Decode.f k a0).bind fun bt113 => ((isa_has.f bt113.1).bind fun t119 => (if (Go.bits .and .i64 t119 16) = 0 then (some (0, false)) else (some (bt113.2.2.2.2, true))))) = some (r1, r2) := h
 clear h
 replace H := Option.bind_eq_some_iff.mp H
 obtain ⟨⟨t113, t114, t115, t116, t117⟩, A20, H⟩ := H
 try dsimp only at H
 have A2 := Aside0.mk A20
 clear A20
 replace H := Option.bind_eq_some_iff.mp H
 obtain ⟨t119, A30, H⟩ := H
 try dsimp only at H
 have A3 := Aside0.mk A30
 clear A30
 by_cases c4 : (Go.bits .and .i64 t119 16) = 0
 ·
  rw [if_pos c4] at H
  have c4b0 : ((Go.bits .and .i64 t119 16) == 0) = true := beq_iff_eq.mpr c4
  have c4b1 : ((Go.bits .and .i64 t119 16) != 0) = false := bne_eq_false_iff_eq.mpr c4
  clear c4
  simp only [Option.some.injEq, Prod.mk.injEq] at H
  obtain ⟨rfl, rfl⟩ := H
  go_enter Try.func49, Try.ntmps49
  go_wp2_with (first | ((with_reducible refine gate_callee (f := 64) rfl ?_); refine goesL_ (some 6) rfl rfl Try.func64 (by kernel_rfl) rfl #[.int .u32 a0] rfl (by (try simp only [List.map_toArray, List.map_cons, List.map_nil]); try rfl) ?_; (with_reducible refine (isa_Decode.calls k a0 t113 t114 t115 t116 t117 _ A2.out).mono ?_); rintro e w5 ⟨rfl, hb⟩; refine ⟨_, rfl, ?_⟩; replace HB := Aside0.mk (bsQ hb HB.out); (try clear hb); (try clear hb2); (try clear hk); (try clear hi)) | ((with_reducible refine gate_dst (N := 4) rfl ?_); refine box_event ?hg (N := 4) ?hd (cs := #[.int .i8 0, .int .i8 0, .int .i8 0, .int .i8 0, .int .i64 0]) (t := 106) ?hr ?_; (case hd => rfl); (case hg => rfl); (case hr => go_simp; try rfl); intro gb118 hg w6 hbox hb; have BK118 := Aside0.mk (hbox); have GW118 := Aside0.mk (gwQ hg HB.out); have GE118 := Aside0.mk (gwQ hg HB.out); replace HB := Aside0.mk (bsQ hb HB.out); clear hb hbox hg; obtain ⟨hcz7_0, hcz7_1, hcz7_2, hcz7_3, hcz7_4⟩ := bcQ5 BK118.out; obtain ⟨hfz7_0, hfz7_1, hfz7_2, hfz7_3, hfz7_4⟩ := fzQ5 BK118.out) | ((with_reducible refine gate_callee (f := 65) rfl ?_); refine goesL_ (some 9) rfl rfl Try.func65 (by kernel_rfl) rfl #[.int .i8 t113] rfl (by (try simp only [List.map_toArray, List.map_cons, List.map_nil]); try rfl) ?_; (with_reducible refine (isa_has.calls t113 t119 _ A3.out).mono ?_); rintro e w8 ⟨rfl, hb⟩; refine ⟨_, rfl, ?_⟩; have n0_ := Aside0.mk (blk_below (g := gb118) (o := .cells #[.int .i8 t113, .int .i8 t114, .int .i8 t115, .int .i8 t116, .int .i64 t117] 106 (0, 0)) (by refine blk_put (cs := #[.int .i8 t113, .int .i8 t114, .int .i8 t115, .int .i8 t116, .int .i64 0]) ?_ 4 _ rfl; refine blk_put (cs := #[.int .i8 t113, .int .i8 t114, .int .i8 t115, .int .i8 0, .int .i64 0]) ?_ 3 _ rfl; refine blk_put (cs := #[.int .i8 t113, .int .i8 t114, .int .i8 0, .int .i8 0, .int .i64 0]) ?_ 2 _ rfl; refine blk_put (cs := #[.int .i8 t113, .int .i8 0, .int .i8 0, .int .i8 0, .int .i64 0]) ?_ 1 _ rfl; refine blk_put (cs := #[.int .i8 0, .int .i8 0, .int .i8 0, .int .i8 0, .int .i64 0]) ?_ 0 _ rfl; exact BK118.out) hb); have n1_ := Aside0.mk (bs1Q hb (by repeat with_reducible first | exact HB.out | apply pw_below_drewN | apply below_drew1 | refine below_set ?_ GE118.out)); clear BK118; clear HB; have BK118 := n0_; have HB := n1_; clear n0_ n1_; (try clear hb); (try clear hb2); (try clear hk); (try clear hi)))
  go_ret2
  exact ⟨by first | rfl | (simp [errW_none, errW_some] <;> rfl) | (simp [*, errW_none, errW_some] <;> rfl), by repeat with_reducible first | exact HB.out | apply pw_below_drewN | apply below_drew1 | refine below_set ?_ GE118.out⟩
 ·
  rw [if_neg c4] at H
  have c4b0 : ((Go.bits .and .i64 t119 16) == 0) = false := beq_eq_false_iff_ne.mpr c4
  have c4b1 : ((Go.bits .and .i64 t119 16) != 0) = true := bne_iff_ne.mpr c4
  simp only [Option.some.injEq, Prod.mk.injEq] at H
  obtain ⟨rfl, rfl⟩ := H
  go_enter Try.func49, Try.ntmps49
  go_wp2_with (first | ((with_reducible refine gate_callee (f := 64) rfl ?_); refine goesL_ (some 6) rfl rfl Try.func64 (by kernel_rfl) rfl #[.int .u32 a0] rfl (by (try simp only [List.map_toArray, List.map_cons, List.map_nil]); try rfl) ?_; (with_reducible refine (isa_Decode.calls k a0 t113 t114 t115 t116 t117 _ A2.out).mono ?_); rintro e w9 ⟨rfl, hb⟩; refine ⟨_, rfl, ?_⟩; replace HB := Aside0.mk (bsQ hb HB.out); (try clear hb); (try clear hb2); (try clear hk); (try clear hi)) | ((with_reducible refine gate_dst (N := 4) rfl ?_); refine box_event ?hg (N := 4) ?hd (cs := #[.int .i8 0, .int .i8 0, .int .i8 0, .int .i8 0, .int .i64 0]) (t := 106) ?hr ?_; (case hd => rfl); (case hg => rfl); (case hr => go_simp; try rfl); intro gb118 hg w10 hbox hb; have BK118 := Aside0.mk (hbox); have GW118 := Aside0.mk (gwQ hg HB.out); have GE118 := Aside0.mk (gwQ hg HB.out); replace HB := Aside0.mk (bsQ hb HB.out); clear hb hbox hg; obtain ⟨hcz11_0, hcz11_1, hcz11_2, hcz11_3, hcz11_4⟩ := bcQ5 BK118.out; obtain ⟨hfz11_0, hfz11_1, hfz11_2, hfz11_3, hfz11_4⟩ := fzQ5 BK118.out) | ((with_reducible refine gate_callee (f := 65) rfl ?_); refine goesL_ (some 9) rfl rfl Try.func65 (by kernel_rfl) rfl #[.int .i8 t113] rfl (by (try simp only [List.map_toArray, List.map_cons, List.map_nil]); try rfl) ?_; (with_reducible refine (isa_has.calls t113 t119 _ A3.out).mono ?_); rintro e w12 ⟨rfl, hb⟩; refine ⟨_, rfl, ?_⟩; have n0_ := Aside0.mk (blk_below (g := gb118) (o := .cells #[.int .i8 t113, .int .i8 t114, .int .i8 t115, .int .i8 t116, .int .i64 t117] 106 (0, 0)) (by refine blk_put (cs := #[.int .i8 t113, .int .i8 t114, .int .i8 t115, .int .i8 t116, .int .i64 0]) ?_ 4 _ rfl; refine blk_put (cs := #[.int .i8 t113, .int .i8 t114, .int .i8 t115, .int .i8 0, .int .i64 0]) ?_ 3 _ rfl; refine blk_put (cs := #[.int .i8 t113, .int .i8 t114, .int .i8 0, .int .i8 0, .int .i64 0]) ?_ 2 _ rfl; refine blk_put (cs := #[.int .i8 t113, .int .i8 0, .int .i8 0, .int .i8 0, .int .i64 0]) ?_ 1 _ rfl; refine blk_put (cs := #[.int .i8 0, .int .i8 0, .int .i8 0, .int .i8 0, .int .i64 0]) ?_ 0 _ rfl; exact BK118.out) hb); have n1_ := Aside0.mk (bs1Q hb (by repeat with_reducible first | exact HB.out | apply pw_below_drewN | apply below_drew1 | refine below_set ?_ GE118.out)); clear BK118; clear HB; have BK118 := n0_; have HB := n1_; clear n0_ n1_; (try clear hb); (try clear hb2); (try clear hk); (try clear hi); obtain ⟨hcz13_0, hcz13_1, hcz13_2, hcz13_3, hcz13_4⟩ := bcQ5 BK118.out; obtain ⟨hfz13_0, hfz13_1, hfz13_2, hfz13_3, hfz13_4⟩ := fzQ5 BK118.out))
  go_ret2
  exact ⟨by first | rfl | (simp [errW_none, errW_some] <;> rfl) | (simp [*, errW_none, errW_some] <;> rfl), by repeat with_reducible first | exact HB.out | apply pw_below_drewN | apply below_drew1 | refine below_set ?_ GE118.out⟩
end Go.Proofs.Ytiaohbbafaaibab.P
