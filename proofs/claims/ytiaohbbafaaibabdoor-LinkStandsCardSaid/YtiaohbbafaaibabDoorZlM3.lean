/- OWN TEXT and printed parts of this claim, laid together: HFill, HAim, HPat, HSymF, HSymR, SymL, HSymV. -/
import Derived.Test.YtiaohbbafaaibabDoorZlM1
import Derived.Test.YtiaohbbafaaibabDoorZlM2
import Derived.Test.YtiaohbbafaaibabDoorZlM0
import Derived.OrdersIn
import Derived.RangeFuncCalls
/- OWN TEXT: link.fill, walked: the objects' data laid in memory. -/
namespace Go.Proofs.YtiaohbbafaaibabDoor.P
open Go.RowKit Go.Maps Go.Proofs.YtiaohbbafaaibabDoorW.PrintWords Go.Proofs.YtiaohbbafaaibabDoorW.PrintLast Go.Proofs.YtiaohbbafaaibabDoorW.PrintMore Go.Proofs.YtiaohbbafaaibabDoor.Arr Go.Proofs.YtiaohbbafaaibabDoor.MapB
set_option linter.unusedVariables false
set_option linter.unusedSimpArgs false
structure FS where
  tk : Nat → Bool
  ms : List Int
def stepN (dat : Nat) (data : List Int) (k : Nat) : Except Nat FS → Except Nat FS
 | .error a => .error a
 | .ok t => if t.tk (dat + k) = true then .error (dat + k) else .ok ⟨fun j => decide (j = dat + k) || t.tk j, t.ms.set (dat + k) (rd data (k : Int))⟩
def fillN (dat : Nat) (data : List Int) (s : FS) : Nat → Except Nat FS
 | 0 => .ok s
 | k + 1 => stepN dat data k (fillN dat data s k)
def endO (i : Nat) : Except Nat FS → Except (Int × Int × Int) FS
 | .error a => .error (43, (i : Int), (a : Int))
 | .ok t => .ok t
def fillO (mem : Int) (x : ObjT) (i : Nat) : Except (Int × Int × Int) FS → Except (Int × Int × Int) FS
 | .error e => .error e
 | .ok s => if x.f2 + (x.f3.length : Int) > mem then .error (25, (i : Int), 0) else endO i (fillN x.f2.toNat x.f3 s x.f3.length)
def fillL (l : List ObjT) (mem : Int) : Nat → Except (Int × Int × Int) FS
 | 0 => .ok ⟨fun _ => false, List.replicate mem.toNat 0⟩
 | i + 1 => fillO mem (ob l i) i (fillL l mem i)
def endR : Except (Int × Int × Int) FS → List Int × Int × Int × Int
 | .error e => ([], e.1, e.2.1, e.2.2)
 | .ok s => (s.ms, 0, 0, 0)
def fillR (l : List ObjT) (mem : Int) : List Int × Int × Int × Int := endR (fillL l mem l.length)
theorem fillN_err {dat : Nat} {data : List Int} {s : FS} {k a : Nat} (h : fillN dat data s k = .error a) : ∀ d, fillN dat data s (k + d) = .error a
  | 0 => h
  | d + 1 => by
    show stepN dat data (k + d) (fillN dat data s (k + d)) = _
    rw [fillN_err h d]
    rfl
theorem fillL_err {l : List ObjT} {mem : Int} {k : Nat} {e : Int × Int × Int} (h : fillL l mem k = .error e) : ∀ d, fillL l mem (k + d) = .error e
  | 0 => h
  | d + 1 => by
    show fillO mem (ob l (k + d)) (k + d) (fillL l mem (k + d)) = _
    rw [fillL_err h d]
    rfl
theorem fillR_err {l : List ObjT} {mem : Int} {k : Nat} {e : Int × Int × Int} (hk : k ≤ l.length) (h : fillL l mem k = .error e) : fillR l mem = ([], e.1, e.2.1, e.2.2) := by
 have := fillL_err h (l.length - k)
 rw [show k + (l.length - k) = l.length by omega] at this
 unfold fillR
 rw [this]
 rfl
theorem results_tmp4 {fn : Func} {t u v x : Tmp} (h : fn.results = #[.tmp t, .tmp u, .tmp v, .tmp x]) (tmps : Array Value) (P : Program) (w : World) :
  (results fn tmps).run P w = .ok (.tuple #[tmps.getD t undef, tmps.getD u undef, tmps.getD v undef, tmps.getD x undef]) w := by
 simp [results, h]
theorem zTaken_all : allF (aggOf Tryd.t153.zero).toList 4096 = true := by kernel_rfl
theorem run_taken (w : World) : (Instr.alloc 153 true (.tuple #[])).run Tryd.prog w = .ok (.pointer (some ⟨w.heap.size, 0, none⟩)) (w.alloc (.cells (aggOf Tryd.t153.zero) 153)) := by kernel_rfl
theorem taken_zero : ∃ Z : Array Value, allF Z.toList 4096 = true ∧ ∀ w : World, (Instr.alloc 153 true (.tuple #[])).run Tryd.prog w = .ok (.pointer (some ⟨w.heap.size, 0, none⟩)) (w.alloc (.cells Z 153)) := ⟨_, zTaken_all, run_taken⟩
theorem exec_taken {Z : Array Value} (hrun : ∀ w : World, (Instr.alloc 153 true (.tuple #[])).run Tryd.prog w = .ok (.pointer (some ⟨w.heap.size, 0, none⟩)) (w.alloc (.cells Z 153))) {ev : Operand → Value} {o : Oper} (ho : o.op = .alloc 153) (W : World) :
  (execOp ev o).run Tryd.prog W = .ok (.value (.pointer (some ⟨W.heap.size, 0, none⟩))) (W.alloc (.cells Z 153)) := by
 unfold execOp
 rw [ho]
 simp only [Sem.run_bind, hrun, Result.andThen_ok, Sem.run_pure]
def Taken (W : World) (g : Nat) (N : Nat → Bool) : Prop := ∃ Z : Array Value, W.heap[g]? = some (.cells Z 153 (0, 0)) ∧ Z.size = 4096 ∧ ∀ k, k < 4096 → Z[k]? = some (.bool (N k))
structure FW (w0 W : World) (g : Nat) (v : Value) (s : FS) : Prop where
  low : Below w0.heap.size w0 W
  tk : Taken W g s.tk
  gb : w0.heap.size ≤ g
  row : Kd.R (Kd.int .i64) 2 W w0.heap.size (fun _ => True) v s.ms
section
variable {w0 W W1 : World} {g : Nat} {v : Value} {s : FS}
theorem FW.below (h : FW w0 W g v s) (k : Below W.heap.size W W1) : FW w0 W1 g v s := by
 obtain ⟨Z, h1, h2, h3⟩ := h.tk
 exact ⟨below_then h.low h.low.size k, ⟨Z, blk_below h1 k, h2, h3⟩, h.gb, Kd.R_below h.row k⟩
theorem FW.cell (h : FW w0 W g v s) {j : Nat} (hj : j < 4096) {b : Bool} (e : s.tk j = b) : W.cell? ⟨g, j, none⟩ = some (.bool b) ∧ W.frozen? ⟨g, j, none⟩ = false := by
 obtain ⟨Z, h1, h2, h3⟩ := h.tk
 exact ⟨(blk_cell h1 j).trans (by rw [h3 j hj, e]), blk_frozen h1 j⟩
theorem FW.other (h : FW w0 W g v s) {k : Nat} {cs cs' : Array Value} {e : TypeId} (hb : W.heap[k]? = some (.cells cs e (0, 0))) (h1 : e ≠ 153) (h2 : 2 ≠ e) (hp : Put W W1 k cs' e) (hk : w0.heap.size ≤ k) : FW w0 W1 g v s := by
 obtain ⟨Z, q1, q2, q3⟩ := h.tk
 have G := put_grownN hp
 exact ⟨hp.below h.low hk, ⟨Z, blk_grown q1 G (fun z => by
  obtain rfl := Option.some.inj z
  rw [q1] at hb
  injection hb with hb
  injection hb with _ hb
  exact h1 hb.symm), q2, q3⟩, h.gb, Kd.R_grown1 h.row rfl G (Kd.R_ne h.row hb h2)⟩
theorem FW.ne {gm n cap : Nat} (h : FW w0 W g (.slice (some ⟨gm, 0, none⟩) n cap) s) : g ≠ gm := fun z => by
 obtain ⟨Z, q1, q2, q3⟩ := h.tk
 obtain ⟨_, _, _, q, hq, cells, hc⟩ := (Kd.R_bound h.row).1 gm rfl
 obtain rfl : q = 2 := by
  rcases List.mem_cons.1 hq with h | h
  ·
   exact h
  ·
   cases h
 subst z
 rw [q1] at hc
 injection hc with hc
 injection hc with _ hc
 exact absurd hc (by decide)
theorem FW.put {gm n cap : Nat} (h : FW w0 W g (.slice (some ⟨gm, 0, none⟩) n cap) s) {j : Nat} (hj : j < 4096) (x : Int) :
  FW w0 ((W.setCell ⟨g, j, none⟩ (.bool true)).setCell ⟨gm, j, none⟩ (.int .i64 x)) g (.slice (some ⟨gm, 0, none⟩) n cap) ⟨fun q => decide (q = j) || s.tk q, s.ms.set j x⟩ := by
 obtain ⟨Z, q1, q2, q3⟩ := h.tk
 have hp := put_set (j := j) (x := .bool true) q1
 have hr := Kd.R_grown1 h.row rfl (put_grownN hp) (Kd.R_ne h.row q1 (by decide))
 have hs := Kd.R_putg hr (j : Int) x
 rw [Int.toNat_natCast] at hs
 have hb := h.row
 have hm : w0.heap.size ≤ gm := Kd.R_base h.row gm rfl
 obtain ⟨_, _, _, q, hq, cells, hc⟩ := (Kd.R_bound hr).1 gm rfl
 obtain rfl : q = 2 := by
  rcases List.mem_cons.1 hq with h | h
  ·
   exact h
  ·
   cases h
 have hne := h.ne
 refine ⟨below_set (hp.below h.low h.gb) hm, ⟨_, blk_grown hp.blk hs.2 (fun z => hne (Option.some.inj z)), by rw [Array.size_setIfInBounds]; exact q2, fun k hk => ?_⟩, h.gb, hs.1⟩
 by_cases he : k = j
 ·
  subst he
  rw [Array.getElem?_setIfInBounds_self_of_lt (by omega)]
  show _ = some (Value.bool (decide (k = k) || s.tk k))
  rw [decide_eq_true rfl, Bool.true_or]
 ·
  rw [Array.getElem?_setIfInBounds_ne (fun z => he z.symm), q3 k hk]
  show _ = some (Value.bool (decide (k = j) || s.tk k))
  rw [decide_eq_false he, Bool.false_or]
theorem FW.keep {gm n cap go : Nat} {cs : Array Value} (h : FW w0 W g (.slice (some ⟨gm, 0, none⟩) n cap) s) (hb : W.heap[go]? = some (.cells cs 27 (0, 0))) (j : Nat) (x : Int) :
  ((W.setCell ⟨g, j, none⟩ (.bool true)).setCell ⟨gm, j, none⟩ (.int .i64 x)).heap[go]? = some (.cells cs 27 (0, 0)) := by
 obtain ⟨Z, q1, q2, q3⟩ := h.tk
 obtain ⟨_, _, _, q, hq, cells, hc⟩ := (Kd.R_bound h.row).1 gm rfl
 obtain rfl : q = 2 := by
  rcases List.mem_cons.1 hq with h | h
  ·
   exact h
  ·
   cases h
 have n1 : go ≠ g := fun z => by
  subst z
  rw [hb] at q1
  injection q1 with q1
  injection q1 with _ q1
  exact absurd q1 (by decide)
 have n2 : go ≠ gm := fun z => by
  subst z
  rw [hb] at hc
  injection hc with hc
  injection hc with _ hc
  exact absurd hc (by decide)
 exact (Below.heap_setCell _ _ _ go n2).trans ((Below.heap_setCell _ _ _ go n1).trans hb)
end
set_option maxHeartbeats 60000000 in
set_option maxRecDepth 100000 in
theorem fill.calls (A0 : Option Addr) (c0 : Nat) (l0 : List ObjT) (mem : Int) (w : World) (hr0 : Kd.C k27 w A0 l0.length l0) (hlen : l0.length ≤ 1000000) (hm0 : 0 ≤ mem) (hm1 : mem ≤ 4096) (hdt : ∀ i, i < l0.length → 0 ≤ (ob l0 i).f2 ∧ (ob l0 i).f2 ≤ 4096 ∧ (ob l0 i).f3.length ≤ 4096) :
  Calls Tryd.prog 62 #[.slice A0 l0.length c0, .int .i64 mem] w fun e w' => ∃ v, e = .returned (.tuple #[v, .int .i64 (fillR l0 mem).2.1, .int .i64 (fillR l0 mem).2.2.1, .int .i64 (fillR l0 mem).2.2.2]) ∧ Kd.R (Kd.int .i64) 2 w' w.heap.size (fun _ => True) v (fillR l0 mem).1 ∧ Below w.heap.size w w' := by
 obtain ⟨Z0, hZ0, hrz⟩ := taken_zero
 have HZ := Aside0.mk (And.intro hZ0 hrz)
 have hu1 := Tryd.underlying27
 have hu4 := Tryd.underlying153
 have HR := Aside0.mk hr0
 have HDT := Aside0.mk hdt
 have HLN := Aside0.mk hlen
 have HM := Aside0.mk (And.intro hm0 hm1)
 clear hr0 hdt hlen hZ0 hrz
 have hmt : decide (0 ≤ mem) = true := decide_eq_true hm0
 have hmn : mem.toNat ≤ 4096 := by omega
 have HMN := Aside0.mk hmn
 clear hmn
 go_enter Tryd.func62, Tryd.ntmps62
 go_wp2_with (first | ((with_reducible refine gate_dst (N := 8) rfl ?_); refine box_event ?hg (N := 8) ?hd (cs := Z0) (t := 153) ?hr ?_; (case hd => rfl); (case hg => rfl); (case hr => exact exec_taken HZ.out.2 rfl _); intro g hgn w1 BK hb; have BN := Aside0.mk (show Taken w1 g (fun _ => false) from by obtain ⟨h1, h2⟩ := allF_len HZ.out.1; exact ⟨_, BK, by rw [← h1]; simp, fun k hk => by rw [← h2 k hk]; simp⟩); have HG := Aside0.mk (show w.heap.size ≤ g by rw [hgn]; exact Nat.le_refl _); have HB := Aside0.mk hb; clear BK hb hgn) | ((with_reducible refine gate_dst (N := 16) rfl ?_); refine Kd.R_make (Kd.int .i64) _ 2 rfl (N := 16) rfl 23 _ _ rfl mem rfl rfl Tryd.underlying23 (.int .i64 0) 8 info2 rfl (by decide) (by omega) 0 (ok := fun _ => True) (okp := fun _ => True) rfl (fun _ hk => hk) trivial HM.out.1 (Nat.le_trans (Nat.mul_le_mul_right _ HMN.out) (by decide)) (Below.refl _ _) (Nat.le_refl _) ?_; intro vm w2 ho6 hb hg_ hnew_; have HF := Aside0.mk (show FW w w2 g vm ⟨fun _ => false, List.replicate mem.toNat 0⟩ from by obtain ⟨Z, q1, q2, q3⟩ := BN.out; exact ⟨below_then HB.out HB.out.size hb, ⟨Z, blk_below q1 hb, q2, q3⟩, HG.out, Kd.R_lower ho6 HB.out.size⟩); clear hg_ hnew_ ho6 hb HB BN))
 obtain ⟨A2, c2, ev⟩ := Kd.R_slice HF.out.row
 subst ev
 simp only [List.length_replicate] at HF ⊢
 obtain ⟨M, hM⟩ : ∃ M, mem.toNat = M := ⟨_, rfl⟩
 rw [hM] at HF ⊢
 have HMM := Aside0.mk hM
 clear hM
 go_loopw [19] (fun u19 wr => ∃ (i : Nat) (s : FS), u19 = .int .i64 (i : Int) ∧ i ≤ l0.length ∧ Aside0 (fillL l0 mem i = .ok s) ∧ Aside0 (FW w wr g (.slice A2 M c2) s)) (fun u19 _ => l0.length - (intOf u19).toNat)
 case atStart => exact ⟨0, _, rfl, Nat.zero_le _, ⟨by rw [← HMM.out]; rfl⟩, HF⟩
 case round =>
  clear HF
  obtain ⟨i, s, rfl, hile, HS, HF⟩ := hrel
  by_cases hlt : i < l0.length
  ·
   have hfo : fillL l0 mem (i + 1) = fillO mem (ob l0 i) i (.ok s) := by
    show fillO mem (ob l0 i) i (fillL l0 mem i) = _
    rw [HS.out]
   have p0 : (0 : Int) ≤ (i : Int) := by omega
   have q0 : (i : Int) < (l0.length : Int) := by omega
   obtain ⟨ad, A1, c1, A3, c3, A4, c4, A5, c5, eA, hx0, hx1, hx2, hx3, hx4, hx5, _, _, _, hC3, _, _, _, _⟩ := at_T27 HR.out (i : Int) p0 q0
   subst eA
   rw [show ((i : Int)).toNat = i by omega] at hx0 hx1 hx2 hx3 hx4 hx5
   rw [show rd_T27 l0 (i : Int) = ob l0 i from rfl] at hx0 hx1 hx2 hx3 hx4 hx5 hC3
   have hy0 := pw_cell_below HF.out.low hx0
   have hy1 := pw_cell_below HF.out.low hx1
   have hy2 := pw_cell_below HF.out.low hx2
   have hy3 := pw_cell_below HF.out.low hx3
   have hy4 := pw_cell_below HF.out.low hx4
   have hy5 := pw_cell_below HF.out.low hx5
   clear hx0 hx1 hx2 hx3 hx4 hx5
   have hdx := HDT.out i hlt
   have HLT := Aside0.mk hlt
   have HOB : Aside0 (∃ x, ob l0 i = x) := ⟨⟨_, rfl⟩⟩
   obtain ⟨x, hx⟩ := HOB.out
   clear HOB
   rw [hx] at hy0 hy1 hy2 hy3 hy4 hy5 hC3 hfo hdx
   obtain ⟨x0, x1, x2, x3, x4, x5⟩ := x
   simp only at hy0 hy1 hy2 hy3 hy4 hy5 hC3 hdx
   clear hx
   have HFO := Aside0.mk hfo
   have HC3 := Aside0.mk hC3
   have HDX := Aside0.mk hdx
   clear hfo hC3 hdx
   have hltb : decide ((i : Int) < (l0.length : Int)) = true := decide_eq_true (by omega)
   have HWR := Aside0.mk (show wrap64 ((i : Int) + 1) = ((i + 1 : Nat) : Int) by rw [wrap64_id (by have := HLN.out; omega) (by have := HLN.out; omega)]; rfl)
   replace p0 := eq_true p0
   replace q0 := eq_true q0
   have HWD := Aside0.mk (show wrap64 (x2 + (x3.length : Int)) = x2 + (x3.length : Int) from wrap64_id (by have := HDX.out; omega) (by have := HDX.out; omega))
   clear hlt hile
   by_cases hgt : x2 + (x3.length : Int) > mem
   ·
    have hd : decide (wrap64 (x2 + (x3.length : Int)) > mem) = true := by rw [HWD.out]; exact decide_eq_true hgt
    have hd2 : (mem < wrap64 (x2 + (x3.length : Int))) = True := by rw [HWD.out]; exact eq_true hgt
    have HGT := Aside0.mk hgt
    clear hgt
    go_wp2_with (first | ((with_reducible refine gate_dst (N := 11) rfl ?_); refine box_event ?hg (N := 11) ?hd (cs := #[.string (⟨#[]⟩ : ByteArray), .slice none 0 0, .int .i64 0, .slice none 0 0, .slice none 0 0, .slice none 0 0]) (t := 27) ?hr ?_; (case hd => rfl); (case hg => rfl); (case hr => first | (go_simp; done) | (go_simp; rfl)); intro go hgo w3 BK3 hb3; have BO := Aside0.mk BK3; have GO := Aside0.mk (show w.heap.size ≤ go by rw [hgo]; exact HF.out.low.size); replace HF := Aside0.mk (HF.out.below hb3); clear BK3 hb3 hgo) | ((with_reducible refine gate_store (t := 27) rfl ?_); refine wpList_store_whole rfl rfl rfl go _ #[.string x0, .slice A1 x1.length c1, .int .i64 x2, .slice A3 x3.length c3, .slice A4 x4.length c4, .slice A5 x5.length c5] _ rfl rfl BO.out (by kernel_rfl) rfl (obj_oneS _ _ _ _ _ _ _ _ _ _ _ _ _ _) ?_; intro w4 hp; replace HF := Aside0.mk (HF.out.other BO.out (by decide) (by decide) hp GO.out); replace BO := Aside0.mk hp.blk; clear hp; have ho2 := blk_cell BO.out 2; have ho3 := blk_cell BO.out 3))
    refine bodyPost_ret (results_tmp4 rfl _ _ _) rfl ?_
    have hE : fillL l0 mem (i + 1) = .error (25, (i : Int), 0) := by
     rw [HFO.out]
     show (if x2 + (x3.length : Int) > mem then _ else _) = _
     rw [if_pos HGT.out]
    have hR := fillR_err HLT.out hE
    rw [hR]
    exact ⟨_, rfl, Kd.R_nil _ _ _ _ _, HF.out.low⟩
   ·
    have hd : decide (wrap64 (x2 + (x3.length : Int)) > mem) = false := by rw [HWD.out]; exact decide_eq_false hgt
    have hd2 : (mem < wrap64 (x2 + (x3.length : Int))) = False := by rw [HWD.out]; exact eq_false hgt
    have HGT := Aside0.mk hgt
    clear hgt
    go_wp2_with (first | ((with_reducible refine gate_dst (N := 11) rfl ?_); refine box_event ?hg (N := 11) ?hd (cs := #[.string (⟨#[]⟩ : ByteArray), .slice none 0 0, .int .i64 0, .slice none 0 0, .slice none 0 0, .slice none 0 0]) (t := 27) ?hr ?_; (case hd => rfl); (case hg => rfl); (case hr => first | (go_simp; done) | (go_simp; rfl)); intro go hgo w3 BK3 hb3; have BO := Aside0.mk BK3; have GO := Aside0.mk (show w.heap.size ≤ go by rw [hgo]; exact HF.out.low.size); replace HF := Aside0.mk (HF.out.below hb3); clear BK3 hb3 hgo) | ((with_reducible refine gate_store (t := 27) rfl ?_); refine wpList_store_whole rfl rfl rfl go _ #[.string x0, .slice A1 x1.length c1, .int .i64 x2, .slice A3 x3.length c3, .slice A4 x4.length c4, .slice A5 x5.length c5] _ rfl rfl BO.out (by kernel_rfl) rfl (obj_oneS _ _ _ _ _ _ _ _ _ _ _ _ _ _) ?_; intro w4 hp; replace HF := Aside0.mk (HF.out.other BO.out (by decide) (by decide) hp GO.out); replace BO := Aside0.mk hp.blk; clear hp; have ho2 := blk_cell BO.out 2; have ho3 := blk_cell BO.out 3))
    go_loopw [36] (fun u36 wr => ∃ (k : Nat) (t : FS), u36 = .int .i64 (k : Int) ∧ k ≤ x3.length ∧ Aside0 (fillN x2.toNat x3 s k = .ok t) ∧ Aside0 (FW w wr g (.slice A2 M c2) t) ∧ Aside0 (wr.heap[go]? = some (.cells #[.string x0, .slice A1 x1.length c1, .int .i64 x2, .slice A3 x3.length c3, .slice A4 x4.length c4, .slice A5 x5.length c5] 27 (0, 0)))) (fun u36 _ => x3.length - (intOf u36).toNat)
    case atStart => exact ⟨0, _, rfl, Nat.zero_le _, ⟨rfl⟩, HF, BO⟩
    case round =>
     clear HF BO ho2 ho3 hy0 hy1 hy2 hy3 hy4 hy5
     obtain ⟨k, t, rfl, hkle, HT, HF, BO⟩ := hrel
     have ho2 := blk_cell BO.out 2
     have ho3 := blk_cell BO.out 3
     by_cases hlt2 : k < x3.length
     ·
      have hfn : fillN x2.toNat x3 s (k + 1) = stepN x2.toNat x3 k (.ok t) := by
       show stepN x2.toNat x3 k (fillN x2.toNat x3 s k) = _
       rw [HT.out]
      have p1 : (0 : Int) ≤ (k : Int) := by omega
      have q1 : (k : Int) < (x3.length : Int) := by omega
      obtain ⟨a3, e3, hz⟩ := Kd.at_int HC3.out (k : Int) p1 q1
      subst e3
      replace hz := pw_cell_below HF.out.low hz
      rw [show ((k : Int)).toNat = k by omega] at hz
      obtain ⟨dv, hdv⟩ : ∃ dv, rd x3 (k : Int) = dv := ⟨_, rfl⟩
      rw [hdv] at hz
      have hJ : wrap64 (x2 + (k : Int)) = ((x2.toNat + k : Nat) : Int) := by rw [wrap64_id (by have := HDX.out; omega) (by have := HDX.out; omega)]; have := HDX.out; omega
      obtain ⟨J, hJe⟩ : ∃ J, wrap64 (x2 + (k : Int)) = J := ⟨_, rfl⟩
      have hlm : (x2.toNat + k : Nat) < M := by have := HDX.out; have := HGT.out; have := HMM.out; omega
      have p2 : (0 : Int) ≤ wrap64 (x2 + (k : Int)) := by rw [hJ]; omega
      have q2 : wrap64 (x2 + (k : Int)) < 4096 := by rw [hJ]; have := HMN.out; have := HMM.out; omega
      have q3 : wrap64 (x2 + (k : Int)) < (M : Int) := by rw [hJ]; omega
      have tj : (wrap64 (x2 + (k : Int))).toNat = x2.toNat + k := by rw [hJ]; omega
      have HTJ := Aside0.mk tj
      have HJJ := Aside0.mk hJ
      have hrl := Kd.R_reads' HF.out.row
      obtain ⟨am, eM, hm⟩ := Kd.at_int hrl.2.2 (wrap64 (x2 + (k : Int))) p2 (by rw [← hrl.1]; exact q3)
      subst eM
      obtain ⟨gm, eg⟩ := Kd.R_head HF.out.row
      subst eg
      obtain ⟨hmc, hmf⟩ := Kd.R_celln (0 : Int) HF.out.row (wrap64 (x2 + (k : Int))) p2 q3
      have hmc' : (wr.setCell ⟨g, (wrap64 (x2 + (k : Int))).toNat, none⟩ (.bool true)).cell? ⟨gm, (wrap64 (x2 + (k : Int))).toNat, none⟩ = some (.int .i64 (rdOf (0 : Int) t.ms (wrap64 (x2 + (k : Int))))) := (World.cell?_of_block (Below.heap_setCell wr ⟨g, (wrap64 (x2 + (k : Int))).toNat, none⟩ (.bool true) gm (fun z => HF.out.ne z.symm))).trans hmc
      have hmf' : (wr.setCell ⟨g, (wrap64 (x2 + (k : Int))).toNat, none⟩ (.bool true)).frozen? ⟨gm, (wrap64 (x2 + (k : Int))).toNat, none⟩ = false := by rw [World.frozen?_setCell]; exact hmf
      have hlt2b : decide ((k : Int) < (x3.length : Int)) = true := decide_eq_true (by omega)
      have HWR2 := Aside0.mk (show wrap64 ((k : Int) + 1) = ((k + 1 : Nat) : Int) by rw [wrap64_id (by have := HDX.out; omega) (by have := HDX.out; omega)]; rfl)
      have HL2 := Aside0.mk hlt2
      have HFN := Aside0.mk hfn
      have HDV := Aside0.mk hdv
      clear hlt2 hkle hfn hdv hJ hlm tj hm hrl hJe
      by_cases htk : t.tk (wrap64 (x2 + (k : Int))).toNat = true
      ·
       obtain ⟨hb1, hb2⟩ := HF.out.cell (j := (wrap64 (x2 + (k : Int))).toNat) (by have := q2; omega) htk
       replace p1 := eq_true p1
       replace q1 := eq_true q1
       replace p2 := eq_true p2
       replace q2 := eq_true q2
       replace q3 := eq_true q3
       have HTK := Aside0.mk htk
       clear htk
       go_wp2
       refine bodyPost_ret (results_tmp4 rfl _ _ _) rfl ?_
       have hE : fillL l0 mem (i + 1) = .error (43, (i : Int), ((x2.toNat + k : Nat) : Int)) := by
        rw [HFO.out]
        show (if x2 + (x3.length : Int) > mem then _ else endO i (fillN x2.toNat x3 s x3.length)) = _
        have h1 : fillN x2.toNat x3 s (k + 1) = .error (x2.toNat + k) := by
         rw [HFN.out]
         show (if t.tk (x2.toNat + k) = true then _ else _) = _
         rw [if_pos (by rw [← HTJ.out]; exact HTK.out)]
        have h2 := fillN_err h1 (x3.length - (k + 1))
        rw [show k + 1 + (x3.length - (k + 1)) = x3.length by have := HL2.out; omega] at h2
        rw [if_neg (show ¬ (x2 + (x3.length : Int) > mem) by have := HGT.out; omega), h2]
        rfl
       have hR := fillR_err HLT.out hE
       rw [hR]
       exact ⟨_, by rw [HJJ.out]; rfl, Kd.R_nil _ _ _ _ _, HF.out.low⟩
      ·
       replace htk : t.tk (wrap64 (x2 + (k : Int))).toNat = false := by simpa using htk
       obtain ⟨hb1, hb2⟩ := HF.out.cell (j := (wrap64 (x2 + (k : Int))).toNat) (by have := q2; omega) htk
       replace p1 := eq_true p1
       replace q1 := eq_true q1
       replace p2 := eq_true p2
       replace q2 := eq_true q2
       replace q3 := eq_true q3
       have HTK := Aside0.mk htk
       clear htk
       go_wp2
       go_roundw
       case measure => have hq := HL2.out; (try rw [HWR2.out]); simp only [intOf]; omega
       case rel =>
        refine ⟨k + 1, _, by first | rfl | (rw [HWR2.out]; done), by have := HL2.out; omega, ⟨?_⟩, ⟨HF.out.put (j := (wrap64 (x2 + (k : Int))).toNat) (by rw [HTJ.out]; have := HMN.out; have := HMM.out; have := HDX.out; have := HGT.out; have := HL2.out; omega) dv⟩, ⟨HF.out.keep BO.out _ _⟩⟩
        rw [HFN.out]
        show (if t.tk (x2.toNat + k) = true then _ else _) = _
        rw [if_neg (by rw [← HTJ.out, HTK.out]; decide), HDV.out, HTJ.out]
     ·
      obtain rfl : k = x3.length := by omega
      have hlt2b : decide ((x3.length : Int) < (x3.length : Int)) = false := by simp
      have HK2 := Aside0.mk hkle
      clear hlt2 hkle
      go_wp2
      refine ⟨?_, ?_⟩
      ·
       refine ⟨i + 1, t, by first | rfl | (rw [HWR.out]; done), by have := HLT.out; omega, ⟨?_⟩, HF⟩
       rw [HFO.out]
       show (if x2 + (x3.length : Int) > mem then _ else endO i (fillN x2.toNat x3 s x3.length)) = _
       rw [if_neg (show ¬ (x2 + (x3.length : Int) > mem) by have := HGT.out; omega), HT.out]
       rfl
      ·
       show l0.length - (intOf (Value.int .i64 (wrap64 ((i : Int) + 1)))).toNat < l0.length - (intOf (Value.int .i64 (i : Int))).toNat
       have hq := HLT.out
       rw [HWR.out]
       simp only [intOf]
       omega
  ·
   obtain rfl : i = l0.length := by omega
   have hltb : decide ((l0.length : Int) < (l0.length : Int)) = false := by simp
   clear hlt hile
   go_wp2
   refine bodyPost_ret (results_tmp4 rfl _ _ _) rfl ?_
   have hR : fillR l0 mem = (s.ms, 0, 0, 0) := by
    unfold fillR
    rw [HS.out]
    rfl
   rw [hR]
   exact ⟨_, rfl, HF.out.row, HF.out.low⟩
end Go.Proofs.YtiaohbbafaaibabDoor.P

/- OWN TEXT: what isa.Aim and the reference's Aim come to, in the print's own form. -/
namespace Go.Proofs.YtiaohbbafaaibabDoor.P
open Go.RowKit Go.Proofs.YtiaohbbafaaibabDoorW.PrintWords Go.Proofs.YtiaohbbafaaibabDoorW.PrintLast Go.Proofs.YtiaohbbafaaibabDoorW.PrintMore Go.Proofs.YtiaohbbafaaibabDoor.Arr
set_option linter.unusedVariables false
set_option linter.unusedSimpArgs false

theorem arr5_one (a b c d e : Int) : ((#[.int .i8 a, .int .i8 b, .int .i8 c, .int .i8 d, .int .i64 e] : Array Value).all fun v => v.oneCell') = true := by kernel_rfl
theorem aim_size2 (W : World) : (sizeOf 2).run Tryd.prog W = .ok 1 W := by kernel_rfl
def aimS (w p : Int) : Int × Int := if (tgtS w).2 = true then (if p < 0 then (0, 11) else if p ≥ 16384 then (0, 11) else encS (decS w).1 (decS w).2.1 (decS w).2.2.1 (decS w).2.2.2.1 p) else (0, 10)

def isa_Aim.f (a0 a1 : Int) : Option (Int × Int) := if 0 ≤ a0 then (if a0 < 4294967296 then (some (aimS a0 a1)) else (none)) else (none)
set_option maxHeartbeats 4000000 in
set_option maxRecDepth 100000 in
theorem isa_Aim.calls (a0 a1 : Int) (r1 r2 : Int) (w : World) (h : isa_Aim.f a0 a1 = some (r1, r2)) :
  Calls Tryd.prog 25 #[.int .u32 a0, .int .i64 a1] w fun e w' => e = .returned (.tuple #[.int .u32 r1, .int .i64 r2]) ∧ Below w.heap.size w w' := by
 unfold isa_Aim.f at h
 by_cases w0 : 0 ≤ a0
 ·
  rw [if_pos w0] at h
  by_cases w1 : a0 < 4294967296
  ·
   rw [if_pos w1] at h
   have h := Option.some.inj h
   obtain ⟨k1, HT⟩ := Ev.rounds (tgt1 w0 w1)
   obtain ⟨k2, HD⟩ := Ev.rounds (dec1 w0 w1)
   replace HT := Aside0.mk HT
   replace HD := Aside0.mk HD
   generalize ht : tgtS a0 = t at HT
   generalize hd : decS a0 = i at HD
   obtain ⟨t1, t2⟩ := t
   obtain ⟨i0, i1, i2, i3, i4⟩ := i
   have HBx := Aside0.mk (Below.refl w.heap.size w)
   unfold aimS at h
   rw [ht, hd] at h
   clear ht hd
   by_cases c1 : t2 = true
   ·
    subst c1
    have h2 : (if a1 < 0 then ((0 : Int), (11 : Int)) else if a1 ≥ 16384 then (0, 11) else encS i0 i1 i2 i3 a1) = (r1, r2) := by rw [if_pos rfl] at h; exact h
    clear h
    by_cases c2 : a1 < 0
    ·
     rw [if_pos c2] at h2
     injection h2 with e1 e2
     subst e1 e2
     have HB := HBx
     clear HBx
     go_enter Tryd.func25, Tryd.ntmps25
     go_wp2_with (first | (go_at_call 23; refine (isa_Target.calls k1 a0 t1 _ _ HT.out).mono ?_; rintro e w1 ⟨rfl, hb⟩; replace HB := Aside0.mk (below_then HB.out HB.out.size hb); clear hb) | (go_at_call 64; refine (isa_Decode.calls k2 a0 i0 i1 i2 i3 i4 _ HD.out).mono ?_; rintro e w2 ⟨rfl, hb⟩; replace HB := Aside0.mk (below_then HB.out HB.out.size hb); clear hb) | ((with_reducible refine gate_dst (N := 8) rfl ?_); refine box_event ?hg (N := 8) ?hd (cs := #[.int .i8 0, .int .i8 0, .int .i8 0, .int .i8 0, .int .i64 0]) (t := 127) ?hr ?_; (case hd => rfl); (case hg => rfl); (case hr => first | (go_simp; done) | (go_simp; rfl)); intro g0 hge0 w3 BK0 hb; have GE0 := Aside0.mk (show w.heap.size ≤ g0 by have := HB.out.size; omega); have BK := Aside0.mk BK0; clear BK0 hge0; replace HB := Aside0.mk (below_then HB.out HB.out.size hb); clear hb) | ((with_reducible refine gate_store (t := 127) rfl ?_); refine wpList_store_whole rfl rfl rfl g0 _ #[.int .i8 i0, .int .i8 i1, .int .i8 i2, .int .i8 i3, .int .i64 i4] _ rfl (by rfl) BK.out (by kernel_rfl) (by rfl) (arr5_one _ _ _ _ _) ?_; intro w4 hp; have hb := hp.below HB.out GE0.out; have BKn := Aside0.mk hp.blk; clear HB BK hp; have HB := Aside0.mk hb; have BK := BKn; clear hb BKn) | ((with_reducible refine gate_store (t := 2) rfl ?_); refine wpList_store_arr rfl rfl rfl g0 4 _ _ (.int .i64 a1) (by rfl) (by rfl) rfl rfl (aim_size2 _) BK.out (show 4 < 5 by decide) ?_; intro w5 hp; have hb := hp.below HB.out GE0.out; have BKn := Aside0.mk (show w5.heap[g0]? = some (.cells #[.int .i8 i0, .int .i8 i1, .int .i8 i2, .int .i8 i3, .int .i64 a1] 127 (0, 0)) from hp.blk); clear HB BK hp; have HB := Aside0.mk hb; have BK := BKn; clear hb BKn) | ((with_reducible refine gate_dst (N := 26) rfl ?_); refine wpList_load_row rfl 127 _ rfl g0 rfl 127 #[.int .i8 i0, .int .i8 i1, .int .i8 i2, .int .i8 i3, .int .i64 a1] (0, 0) _ BK.out Tryd.underlying127 rfl (by kernel_rfl) ?_) | (go_at_call 70; refine (isa_Encode.calls i0 i1 i2 i3 a1 r1 r2 _ HE2.out).mono ?_; rintro e w6 ⟨rfl, hb⟩; replace HB := Aside0.mk (below_then HB.out HB.out.size hb); clear hb))
     go_ret2
     exact ⟨rfl, HB.out⟩
    rw [if_neg c2] at h2
    by_cases c3 : a1 ≥ 16384
    ·
     rw [if_pos c3] at h2
     injection h2 with e1 e2
     subst e1 e2
     have HB := HBx
     clear HBx
     go_enter Tryd.func25, Tryd.ntmps25
     go_wp2_with (first | (go_at_call 23; refine (isa_Target.calls k1 a0 t1 _ _ HT.out).mono ?_; rintro e w1 ⟨rfl, hb⟩; replace HB := Aside0.mk (below_then HB.out HB.out.size hb); clear hb) | (go_at_call 64; refine (isa_Decode.calls k2 a0 i0 i1 i2 i3 i4 _ HD.out).mono ?_; rintro e w2 ⟨rfl, hb⟩; replace HB := Aside0.mk (below_then HB.out HB.out.size hb); clear hb) | ((with_reducible refine gate_dst (N := 8) rfl ?_); refine box_event ?hg (N := 8) ?hd (cs := #[.int .i8 0, .int .i8 0, .int .i8 0, .int .i8 0, .int .i64 0]) (t := 127) ?hr ?_; (case hd => rfl); (case hg => rfl); (case hr => first | (go_simp; done) | (go_simp; rfl)); intro g0 hge0 w3 BK0 hb; have GE0 := Aside0.mk (show w.heap.size ≤ g0 by have := HB.out.size; omega); have BK := Aside0.mk BK0; clear BK0 hge0; replace HB := Aside0.mk (below_then HB.out HB.out.size hb); clear hb) | ((with_reducible refine gate_store (t := 127) rfl ?_); refine wpList_store_whole rfl rfl rfl g0 _ #[.int .i8 i0, .int .i8 i1, .int .i8 i2, .int .i8 i3, .int .i64 i4] _ rfl (by rfl) BK.out (by kernel_rfl) (by rfl) (arr5_one _ _ _ _ _) ?_; intro w4 hp; have hb := hp.below HB.out GE0.out; have BKn := Aside0.mk hp.blk; clear HB BK hp; have HB := Aside0.mk hb; have BK := BKn; clear hb BKn) | ((with_reducible refine gate_store (t := 2) rfl ?_); refine wpList_store_arr rfl rfl rfl g0 4 _ _ (.int .i64 a1) (by rfl) (by rfl) rfl rfl (aim_size2 _) BK.out (show 4 < 5 by decide) ?_; intro w5 hp; have hb := hp.below HB.out GE0.out; have BKn := Aside0.mk (show w5.heap[g0]? = some (.cells #[.int .i8 i0, .int .i8 i1, .int .i8 i2, .int .i8 i3, .int .i64 a1] 127 (0, 0)) from hp.blk); clear HB BK hp; have HB := Aside0.mk hb; have BK := BKn; clear hb BKn) | ((with_reducible refine gate_dst (N := 26) rfl ?_); refine wpList_load_row rfl 127 _ rfl g0 rfl 127 #[.int .i8 i0, .int .i8 i1, .int .i8 i2, .int .i8 i3, .int .i64 a1] (0, 0) _ BK.out Tryd.underlying127 rfl (by kernel_rfl) ?_) | (go_at_call 70; refine (isa_Encode.calls i0 i1 i2 i3 a1 r1 r2 _ HE2.out).mono ?_; rintro e w6 ⟨rfl, hb⟩; replace HB := Aside0.mk (below_then HB.out HB.out.size hb); clear hb))
     go_ret2
     exact ⟨rfl, HB.out⟩
    rw [if_neg c3] at h2
    have HE := Aside0.mk h2
    clear h2
    have HE2 := Aside0.mk (show isa_Encode.f i0 i1 i2 i3 a1 = some (r1, r2) by rw [enc1, HE.out])
    have HB := HBx
    clear HBx
    go_enter Tryd.func25, Tryd.ntmps25
    go_wp2_with (first | (go_at_call 23; refine (isa_Target.calls k1 a0 t1 _ _ HT.out).mono ?_; rintro e w1 ⟨rfl, hb⟩; replace HB := Aside0.mk (below_then HB.out HB.out.size hb); clear hb) | (go_at_call 64; refine (isa_Decode.calls k2 a0 i0 i1 i2 i3 i4 _ HD.out).mono ?_; rintro e w2 ⟨rfl, hb⟩; replace HB := Aside0.mk (below_then HB.out HB.out.size hb); clear hb) | ((with_reducible refine gate_dst (N := 8) rfl ?_); refine box_event ?hg (N := 8) ?hd (cs := #[.int .i8 0, .int .i8 0, .int .i8 0, .int .i8 0, .int .i64 0]) (t := 127) ?hr ?_; (case hd => rfl); (case hg => rfl); (case hr => first | (go_simp; done) | (go_simp; rfl)); intro g0 hge0 w3 BK0 hb; have GE0 := Aside0.mk (show w.heap.size ≤ g0 by have := HB.out.size; omega); have BK := Aside0.mk BK0; clear BK0 hge0; replace HB := Aside0.mk (below_then HB.out HB.out.size hb); clear hb) | ((with_reducible refine gate_store (t := 127) rfl ?_); refine wpList_store_whole rfl rfl rfl g0 _ #[.int .i8 i0, .int .i8 i1, .int .i8 i2, .int .i8 i3, .int .i64 i4] _ rfl (by rfl) BK.out (by kernel_rfl) (by rfl) (arr5_one _ _ _ _ _) ?_; intro w4 hp; have hb := hp.below HB.out GE0.out; have BKn := Aside0.mk hp.blk; clear HB BK hp; have HB := Aside0.mk hb; have BK := BKn; clear hb BKn) | ((with_reducible refine gate_store (t := 2) rfl ?_); refine wpList_store_arr rfl rfl rfl g0 4 _ _ (.int .i64 a1) (by rfl) (by rfl) rfl rfl (aim_size2 _) BK.out (show 4 < 5 by decide) ?_; intro w5 hp; have hb := hp.below HB.out GE0.out; have BKn := Aside0.mk (show w5.heap[g0]? = some (.cells #[.int .i8 i0, .int .i8 i1, .int .i8 i2, .int .i8 i3, .int .i64 a1] 127 (0, 0)) from hp.blk); clear HB BK hp; have HB := Aside0.mk hb; have BK := BKn; clear hb BKn) | ((with_reducible refine gate_dst (N := 26) rfl ?_); refine wpList_load_row rfl 127 _ rfl g0 rfl 127 #[.int .i8 i0, .int .i8 i1, .int .i8 i2, .int .i8 i3, .int .i64 a1] (0, 0) _ BK.out Tryd.underlying127 rfl (by kernel_rfl) ?_) | (go_at_call 70; refine (isa_Encode.calls i0 i1 i2 i3 a1 r1 r2 _ HE2.out).mono ?_; rintro e w6 ⟨rfl, hb⟩; replace HB := Aside0.mk (below_then HB.out HB.out.size hb); clear hb))
    go_ret2
    exact ⟨rfl, HB.out⟩
   ·
    have c1 : t2 = false := by simpa using c1
    subst c1
    have h2 : ((0 : Int), (10 : Int)) = (r1, r2) := by rw [if_neg (show ¬ ((t1, false).2 = true) from Bool.false_ne_true)] at h; exact h
    injection h2 with e1 e2
    subst e1 e2
    clear h
    have HB := HBx
    clear HBx
    go_enter Tryd.func25, Tryd.ntmps25
    go_wp2_with (first | (go_at_call 23; refine (isa_Target.calls k1 a0 t1 _ _ HT.out).mono ?_; rintro e w1 ⟨rfl, hb⟩; replace HB := Aside0.mk (below_then HB.out HB.out.size hb); clear hb) | (go_at_call 64; refine (isa_Decode.calls k2 a0 i0 i1 i2 i3 i4 _ HD.out).mono ?_; rintro e w2 ⟨rfl, hb⟩; replace HB := Aside0.mk (below_then HB.out HB.out.size hb); clear hb) | ((with_reducible refine gate_dst (N := 8) rfl ?_); refine box_event ?hg (N := 8) ?hd (cs := #[.int .i8 0, .int .i8 0, .int .i8 0, .int .i8 0, .int .i64 0]) (t := 127) ?hr ?_; (case hd => rfl); (case hg => rfl); (case hr => first | (go_simp; done) | (go_simp; rfl)); intro g0 hge0 w3 BK0 hb; have GE0 := Aside0.mk (show w.heap.size ≤ g0 by have := HB.out.size; omega); have BK := Aside0.mk BK0; clear BK0 hge0; replace HB := Aside0.mk (below_then HB.out HB.out.size hb); clear hb) | ((with_reducible refine gate_store (t := 127) rfl ?_); refine wpList_store_whole rfl rfl rfl g0 _ #[.int .i8 i0, .int .i8 i1, .int .i8 i2, .int .i8 i3, .int .i64 i4] _ rfl (by rfl) BK.out (by kernel_rfl) (by rfl) (arr5_one _ _ _ _ _) ?_; intro w4 hp; have hb := hp.below HB.out GE0.out; have BKn := Aside0.mk hp.blk; clear HB BK hp; have HB := Aside0.mk hb; have BK := BKn; clear hb BKn) | ((with_reducible refine gate_store (t := 2) rfl ?_); refine wpList_store_arr rfl rfl rfl g0 4 _ _ (.int .i64 a1) (by rfl) (by rfl) rfl rfl (aim_size2 _) BK.out (show 4 < 5 by decide) ?_; intro w5 hp; have hb := hp.below HB.out GE0.out; have BKn := Aside0.mk (show w5.heap[g0]? = some (.cells #[.int .i8 i0, .int .i8 i1, .int .i8 i2, .int .i8 i3, .int .i64 a1] 127 (0, 0)) from hp.blk); clear HB BK hp; have HB := Aside0.mk hb; have BK := BKn; clear hb BKn) | ((with_reducible refine gate_dst (N := 26) rfl ?_); refine wpList_load_row rfl 127 _ rfl g0 rfl 127 #[.int .i8 i0, .int .i8 i1, .int .i8 i2, .int .i8 i3, .int .i64 a1] (0, 0) _ BK.out Tryd.underlying127 rfl (by kernel_rfl) ?_) | (go_at_call 70; refine (isa_Encode.calls i0 i1 i2 i3 a1 r1 r2 _ HE2.out).mono ?_; rintro e w6 ⟨rfl, hb⟩; replace HB := Aside0.mk (below_then HB.out HB.out.size hb); clear hb))
    go_ret2
    exact ⟨rfl, HB.out⟩
  ·
   rw [if_neg w1] at h; cases h
 ·
  rw [if_neg w0] at h; cases h

end Go.Proofs.YtiaohbbafaaibabDoor.P

/- OWN TEXT: a word of an image that is being made is aimed; and: regions that draw, inside a round. -/
namespace Go.Proofs.YtiaohbbafaaibabDoor.P
open Go.RowKit Go.Maps Go.Proofs.YtiaohbbafaaibabDoorW.PrintWords Go.Proofs.YtiaohbbafaaibabDoorW.PrintLast Go.Proofs.YtiaohbbafaaibabDoorW.PrintMore Go.Proofs.YtiaohbbafaaibabDoor.Arr Go.Proofs.YtiaohbbafaaibabDoor.MapB
set_option linter.unusedVariables false
set_option linter.unusedSimpArgs false
section
variable {P : Program} {ops : Array Oper} {Q : Exit → Act → World → Prop} {md : Region.Mode} {l n : Nat}
def noDefB (o : Oper) : Bool := match o.op with
 | .defer _ => false
 | _ => true
theorem noDef_of {o : Oper} (h : noDefB o = true) : ∀ c, o.op ≠ .defer c := fun c e => by
 unfold noDefB at h
 rw [e] at h
 cases h
theorem calls_round {f : FuncId} {args : Array Value} {w : World} {R : Ending → World → Prop} (h : Calls P f args w R) : CallsIn (Fence.wide.inRound l) n P f args w R := CallsIn.inRound l (callsIn_wide.2 h)
theorem rows_round {r : String} {args : Array Value} {w : World} {R : Value → World → Prop} (h : Rows P r args w R) : RowsIn (Fence.wide.inRound l) n P r args w R := fun c cs _ => by
 obtain ⟨v, w', hr, hs⟩ := h c cs
 refine ⟨v, w', hr, ?_⟩
 rw [fenced_inRound]
 exact stepsIn_wide.2 hs
theorem oper_in {o : Oper} {a : Act} {w : World} {K : Act → World → Prop} (hd : noDefB o = true) (h : Oper.wp P o a w K Q) : Oper.wpIn (Fence.wide.inRound l) n P o a w K Q := by
 refine ⟨fun _ _ => trivial, ?_⟩
 unfold Oper.wp at h
 rw [Oper.semAt_eq _ _ _ (noDef_of hd)]
 generalize (execOp a.eval o).run P w = r at h
 cases r with
 | ok x w' =>
  cases x <;> first | exact h | exact ⟨fun z => absurd z Bool.false_ne_true, calls_round h⟩ | exact ⟨fun z => absurd z Bool.false_ne_true, rows_round h⟩ | exact h.elim
 | halt x w' => cases x <;> exact h
theorem op_in {i : Nat} {a : Act} {w : World} {K : Act → World → Prop} (hq : ¬ LetsOut Q) (hd : ∀ (j : Nat) (o : Oper), ops[j]? = some o → noDefB o = true) (h : wpOp P ops Q i K a w) : wpOpIn (Fence.wide.inRound l) n P ops Q i K a w := by
 unfold wpOp at h
 unfold wpOpIn
 cases ho : ops[i]? with
 | none => rw [ho] at h; exact h
 | some o =>
  rw [ho] at h
  simp only at h ⊢
  split
  ·
   next hw => rw [if_pos hw] at h; exact oper_in (hd i o ho) (h.resolve_right fun z => hq z.2)
  ·
   next hw => rw [if_neg hw] at h; exact ⟨fun _ _ => trivial, h⟩
theorem any_in (hq : ¬ LetsOut Q) (hd : ∀ (j : Nat) (o : Oper), ops[j]? = some o → noDefB o = true) : ∀ (fuel : Nat) (listed : Array Bool) (a : Act) (w : World), wpAny P md ops Q fuel listed a w → wpAnyIn (Fence.wide.inRound l) n P md ops Q fuel listed a w
 | 0, _, _, _, h => h
 | fuel + 1, listed, a, w, h => ⟨h.1, fun i hi => wpOpIn_mono (fun a w h' => any_in hq hd fuel _ a w h') (op_in hq hd (h.2 i hi))⟩
theorem allDef (h : ops.toList.all noDefB = true) : ∀ (j : Nat) (o : Oper), ops[j]? = some o → noDefB o = true := fun j o ho =>
 List.all_eq_true.1 h o (by rw [← Array.getElem?_toList] at ho; exact List.mem_of_getElem? ho)
theorem startIn_ {S : World → Prop} {ds : List Nat} {id m : Nat} {a : Act} {w : World} (l' : Array Bool) (hm : P.follows .mixedOrders = true) (hn : ops.size = m) (hl : Array.replicate m false = l') (hS : S w.drew) (hd : ops.toList.all noDefB = true) (hq : ¬ LetsOut Q)
  (h : S w.drew → wpAnyLast P .any ops Q S ds m l' a w.drew) : (Code.region id ops true).wpIn (Fence.wide.inRound l) n P Q a w := by
 subst hn
 subst hl
 exact wpIn_region_any hm (any_in hq (allDef hd) _ _ _ _ (wpAny_of_last _ _ _ _ (h hS)))
end
set_option maxHeartbeats 8000000 in
set_option maxRecDepth 100000 in
theorem paim.calls (gp gt n c : Nat) (X1 X2 : Value) (at_ to_ x : Int) (W : World) (hp : W.heap[gp]? = some (.cells #[.slice (some ⟨gt, 0, none⟩) n c, X1, X2] 123 (0, 0))) (hx : W.cell? ⟨gt, at_.toNat, none⟩ = some (.int .u32 x)) (hf : W.frozen? ⟨gt, at_.toNat, none⟩ = false) (h0 : 0 ≤ at_) (h1 : at_ < n) (hw0 : 0 ≤ x) (hw1 : x < 4294967296) :
  Calls Tryd.prog 63 #[.pointer (some ⟨gp, 0, none⟩), .int .i64 at_, .int .i64 to_] W fun e w' => e = .returned (.tuple #[]) ∧ ∃ W2, Below W.heap.size W W2 ∧ w' = W2.setCell ⟨gt, at_.toNat, none⟩ (.int .u32 (aimS x to_).1) := by
 have hu1 := Tryd.underlying123
 have hu2 := Tryd.underlying46
 have p0 := eq_true h0
 have q0 := eq_true h1
 have HX := Aside0.mk (And.intro hw0 hw1)
 have HF := Aside0.mk hf
 have hc0 : W.cell? ⟨gp, 0, none⟩ = some (.slice (some ⟨gt, 0, none⟩) n c) := (blk_cell hp 0).trans rfl
 clear hw0 hw1 hp h0 h1 hf
 go_enter Tryd.func63, Tryd.ntmps63
 go_wp2
 refine start_ (n := 21) (S := fun w' => w'.cell? ⟨gp, 0, none⟩ = some (.slice (some ⟨gt, 0, none⟩) n c) ∧ w'.cell? ⟨gt, at_.toNat, none⟩ = some (.int .u32 x)) (ds := [20]) #[false, false, false, false, false, false, false, false, false, false, false, false, false, false, false, false, false, false, false, false, false] (by kernel_rfl) rfl rfl ⟨hc0, hx⟩ (fun hHeld => ?_)
 have HB := Aside0.mk (show Below W.heap.size W W.drew from below_drew (Below.refl _ _))
 refine pure_ (i := 0) (N := some 7) (v := ?_) (a' := ?_) #[true, false, false, false, false, false, false, false, false, false, false, false, false, false, false, false, false, false, false, false, false] rfl rfl (by kernel_rfl) (fun _ _ _ h => h) (Or.inl ⟨by rfl, ?_⟩) ?_ ?_
 rotate_left
 ·
  intro w'
  go_simp
  with_reducible rfl
 rotate_left
 ·
  simp only [Act.put, List.setIfInBounds_toArray, List.set_cons_zero, List.set_cons_succ, i64_w, i32_w]
  rfl
 refine pure_ (i := 1) (N := some 8) (v := ?_) (a' := ?_) #[true, true, false, false, false, false, false, false, false, false, false, false, false, false, false, false, false, false, false, false, false] rfl rfl (by kernel_rfl) (fun _ _ _ h => h) (Or.inl ⟨by rfl, ?_⟩) ?_ ?_
 rotate_left
 ·
  intro w'
  go_simp
  with_reducible rfl
 rotate_left
 ·
  simp only [Act.put, List.setIfInBounds_toArray, List.set_cons_zero, List.set_cons_succ, i64_w, i32_w]
  rfl
 refine pure_ (i := 2) (N := some 9) (v := ?_) (a' := ?_) #[true, true, true, false, false, false, false, false, false, false, false, false, false, false, false, false, false, false, false, false, false] rfl rfl (by kernel_rfl) (fun _ _ _ h => h) (Or.inl ⟨by rfl, ?_⟩) ?_ ?_
 rotate_left
 ·
  intro w'
  go_simp
  with_reducible rfl
 rotate_left
 ·
  simp only [Act.put, List.setIfInBounds_toArray, List.set_cons_zero, List.set_cons_succ, i64_w, i32_w]
  rfl
 refine pure_ (i := 3) (N := some 10) (v := ?_) (a' := ?_) #[true, true, true, true, false, false, false, false, false, false, false, false, false, false, false, false, false, false, false, false, false] rfl rfl (by kernel_rfl) (fun _ _ _ h => h) (Or.inl ⟨by rfl, ?_⟩) ?_ ?_
 rotate_left
 ·
  intro w'
  go_simp
  with_reducible rfl
 rotate_left
 ·
  simp only [Act.put, List.setIfInBounds_toArray, List.set_cons_zero, List.set_cons_succ, i64_w, i32_w]
  rfl
 refine take_ (i := 4) (N := some 11) (v := ?_) (a' := ?_) #[true, true, true, true, true, false, false, false, false, false, false, false, false, false, false, false, false, false, false, false, false] rfl rfl (by kernel_rfl) (fun _ _ _ h => h) (Or.inl ⟨by rfl, ?_⟩) hHeld ?_ ?_
 rotate_left
 ·
  rintro w' ⟨s0, s1⟩
  go_simp
  with_reducible rfl
 rotate_left
 ·
  simp only [Act.put, List.setIfInBounds_toArray, List.set_cons_zero, List.set_cons_succ, i64_w, i32_w]
  rfl
 refine pure_ (i := 5) (N := some 12) (v := ?_) (a' := ?_) #[true, true, true, true, true, true, false, false, false, false, false, false, false, false, false, false, false, false, false, false, false] rfl rfl (by kernel_rfl) (fun _ _ _ h => h) (Or.inl ⟨by rfl, ?_⟩) ?_ ?_
 rotate_left
 ·
  intro w'
  go_simp
  with_reducible rfl
 rotate_left
 ·
  simp only [Act.put, List.setIfInBounds_toArray, List.set_cons_zero, List.set_cons_succ, i64_w, i32_w]
  rfl
 refine pure_ (i := 6) (N := some 13) (v := ?_) (a' := ?_) #[true, true, true, true, true, true, true, false, false, false, false, false, false, false, false, false, false, false, false, false, false] rfl rfl (by kernel_rfl) (fun _ _ _ h => h) (Or.inl ⟨by rfl, ?_⟩) ?_ ?_
 rotate_left
 ·
  intro w'
  go_simp
  with_reducible rfl
 rotate_left
 ·
  simp only [Act.put, List.setIfInBounds_toArray, List.set_cons_zero, List.set_cons_succ, i64_w, i32_w]
  rfl
 refine pure_ (i := 7) (N := some 14) (v := ?_) (a' := ?_) #[true, true, true, true, true, true, true, true, false, false, false, false, false, false, false, false, false, false, false, false, false] rfl rfl (by kernel_rfl) (fun _ _ _ h => h) (Or.inl ⟨by rfl, ?_⟩) ?_ ?_
 rotate_left
 ·
  intro w'
  go_simp
  with_reducible rfl
 rotate_left
 ·
  simp only [Act.put, List.setIfInBounds_toArray, List.set_cons_zero, List.set_cons_succ, i64_w, i32_w]
  rfl
 refine pure_ (i := 8) (N := some 15) (v := ?_) (a' := ?_) #[true, true, true, true, true, true, true, true, true, false, false, false, false, false, false, false, false, false, false, false, false] rfl rfl (by kernel_rfl) (fun _ _ _ h => h) (Or.inl ⟨by rfl, ?_⟩) ?_ ?_
 rotate_left
 ·
  intro w'
  go_simp
  with_reducible rfl
 rotate_left
 ·
  simp only [Act.put, List.setIfInBounds_toArray, List.set_cons_zero, List.set_cons_succ, i64_w, i32_w]
  rfl
 refine pure_ (i := 9) (N := some 16) (v := ?_) (a' := ?_) #[true, true, true, true, true, true, true, true, true, true, false, false, false, false, false, false, false, false, false, false, false] rfl rfl (by kernel_rfl) (fun _ _ _ h => h) (Or.inl ⟨by rfl, ?_⟩) ?_ ?_
 rotate_left
 ·
  intro w'
  go_simp
  with_reducible rfl
 rotate_left
 ·
  simp only [Act.put, List.setIfInBounds_toArray, List.set_cons_zero, List.set_cons_succ, i64_w, i32_w]
  rfl
 refine take_ (i := 10) (N := some 17) (v := ?_) (a' := ?_) #[true, true, true, true, true, true, true, true, true, true, true, false, false, false, false, false, false, false, false, false, false] rfl rfl (by kernel_rfl) (fun _ _ _ h => h) (Or.inl ⟨by rfl, ?_⟩) hHeld ?_ ?_
 rotate_left
 ·
  rintro w' ⟨s0, s1⟩
  go_simp
  with_reducible rfl
 rotate_left
 ·
  simp only [Act.put, List.setIfInBounds_toArray, List.set_cons_zero, List.set_cons_succ, i64_w, i32_w]
  rfl
 refine pure_ (i := 11) (N := some 18) (v := ?_) (a' := ?_) #[true, true, true, true, true, true, true, true, true, true, true, true, false, false, false, false, false, false, false, false, false] rfl rfl (by kernel_rfl) (fun _ _ _ h => h) (Or.inl ⟨by rfl, ?_⟩) ?_ ?_
 rotate_left
 ·
  intro w'
  go_simp
  with_reducible rfl
 rotate_left
 ·
  simp only [Act.put, List.setIfInBounds_toArray, List.set_cons_zero, List.set_cons_succ, i64_w, i32_w]
  rfl
 refine pure_ (i := 12) (N := some 19) (v := ?_) (a' := ?_) #[true, true, true, true, true, true, true, true, true, true, true, true, true, false, false, false, false, false, false, false, false] rfl rfl (by kernel_rfl) (fun _ _ _ h => h) (Or.inl ⟨by rfl, ?_⟩) ?_ ?_
 rotate_left
 ·
  intro w'
  go_simp
  with_reducible rfl
 rotate_left
 ·
  simp only [Act.put, List.setIfInBounds_toArray, List.set_cons_zero, List.set_cons_succ, i64_w, i32_w]
  rfl
 refine take_ (i := 13) (N := some 20) (v := ?_) (a' := ?_) #[true, true, true, true, true, true, true, true, true, true, true, true, true, true, false, false, false, false, false, false, false] rfl rfl (by kernel_rfl) (fun _ _ _ h => h) (Or.inl ⟨by rfl, ?_⟩) hHeld ?_ ?_
 rotate_left
 ·
  rintro w' ⟨s0, s1⟩
  go_simp
  with_reducible rfl
 rotate_left
 ·
  simp only [Act.put, List.setIfInBounds_toArray, List.set_cons_zero, List.set_cons_succ, i64_w, i32_w]
  rfl
 refine pure_ (i := 14) (N := some 21) (v := ?_) (a' := ?_) #[true, true, true, true, true, true, true, true, true, true, true, true, true, true, true, false, false, false, false, false, false] rfl rfl (by kernel_rfl) (fun _ _ _ h => h) (Or.inl ⟨by rfl, ?_⟩) ?_ ?_
 rotate_left
 ·
  intro w'
  go_simp
  with_reducible rfl
 rotate_left
 ·
  simp only [Act.put, List.setIfInBounds_toArray, List.set_cons_zero, List.set_cons_succ, i64_w, i32_w]
  rfl
 refine one_ (i := 15) (N := some 22) #[true, true, true, true, true, true, true, true, true, true, true, true, true, true, true, true, false, false, false, false, false] rfl rfl (by kernel_rfl) (by decide) (fun K hK => ?_)
 refine call_ 25 #[.int .u32 x, .int .i64 to_] rfl rfl (by first | rfl | (go_simp; done) | (go_simp; rfl)) ?_
 refine (isa_Aim.calls x to_ (aimS x to_).1 (aimS x to_).2 _ (by unfold isa_Aim.f; rw [if_pos HX.out.1, if_pos HX.out.2])).mono ?_
 rintro e_ w2 ⟨rfl, hb_⟩
 refine ⟨_, rfl, ?_⟩
 have HB2 := Aside0.mk (below_then HB.out HB.out.size hb_)
 have hc2 := pw_cell_below HB2.out hc0
 have hx2 := pw_cell_below HB2.out hx
 have hf2 : w2.frozen? ⟨gt, at_.toNat, none⟩ = false := (HB2.out.frozen (World.block_lt_of_cell? _ _ hx)).trans HF.out
 refine hK.out _ _ ⟨hc2, hx2⟩ (fun hHeld => ?_)
 clear hb_
 clear hK K
 refine norm_ (a' := ?_) ?_ ?_
 rotate_left
 ·
  show Act.put _ (some 22) _ = _
  simp only [Act.put, List.setIfInBounds_toArray, List.set_cons_zero, List.set_cons_succ, i64_w, i32_w]
  rfl
 refine pure_ (i := 16) (N := some 6) (v := ?_) (a' := ?_) #[true, true, true, true, true, true, true, true, true, true, true, true, true, true, true, true, true, false, false, false, false] rfl rfl (by kernel_rfl) (fun _ _ _ h => h) (Or.inl ⟨by rfl, ?_⟩) ?_ ?_
 rotate_left
 ·
  intro w'
  go_simp
  with_reducible rfl
 rotate_left
 ·
  simp only [Act.put, List.setIfInBounds_toArray, List.set_cons_zero, List.set_cons_succ, i64_w, i32_w]
  rfl
 refine pure_ (i := 17) (N := some 23) (v := ?_) (a' := ?_) #[true, true, true, true, true, true, true, true, true, true, true, true, true, true, true, true, true, true, false, false, false] rfl rfl (by kernel_rfl) (fun _ _ _ h => h) (Or.inl ⟨by rfl, ?_⟩) ?_ ?_
 rotate_left
 ·
  intro w'
  go_simp
  with_reducible rfl
 rotate_left
 ·
  simp only [Act.put, List.setIfInBounds_toArray, List.set_cons_zero, List.set_cons_succ, i64_w, i32_w]
  rfl
 refine pure_ (i := 18) (N := some 24) (v := ?_) (a' := ?_) #[true, true, true, true, true, true, true, true, true, true, true, true, true, true, true, true, true, true, true, false, false] rfl rfl (by kernel_rfl) (fun _ _ _ h => h) (Or.inl ⟨by rfl, ?_⟩) ?_ ?_
 rotate_left
 ·
  intro w'
  go_simp
  with_reducible rfl
 rotate_left
 ·
  simp only [Act.put, List.setIfInBounds_toArray, List.set_cons_zero, List.set_cons_succ, i64_w, i32_w]
  rfl
 refine pure_ (i := 19) (N := some 25) (v := ?_) (a' := ?_) #[true, true, true, true, true, true, true, true, true, true, true, true, true, true, true, true, true, true, true, true, false] rfl rfl (by kernel_rfl) (fun _ _ _ h => h) (Or.inl ⟨by rfl, ?_⟩) ?_ ?_
 rotate_left
 ·
  intro w'
  go_simp
  with_reducible rfl
 rotate_left
 ·
  simp only [Act.put, List.setIfInBounds_toArray, List.set_cons_zero, List.set_cons_succ, i64_w, i32_w]
  rfl
 refine last_ (i := 20) (N := none) #[true, true, true, true, true, true, true, true, true, true, true, true, true, true, true, true, true, true, true, true, true] rfl rfl (by kernel_rfl) (by decide) (fun K hK => ?_)
 refine skip_ (w1 := ?_) (by rfl) rfl ?_ ?_
 rotate_left
 ·
  go_simp
  rfl
 refine hK.out _ _ ?_
 clear hK K
 refine done_ (by kernel_rfl) ?_
 refine Go.Great.bodyPost_end0 rfl rfl ?_
 exact ⟨rfl, w2, HB2.out, rfl⟩
end Go.Proofs.YtiaohbbafaaibabDoor.P

/- OWN TEXT: symbol.Find, walked: the names of all objects, gathered, and one of them looked for. -/
namespace Go.Proofs.YtiaohbbafaaibabDoor.P
open Go.RowKit Go.Maps Go.Proofs.YtiaohbbafaaibabDoorW.PrintWords Go.Proofs.YtiaohbbafaaibabDoorW.PrintLast Go.Proofs.YtiaohbbafaaibabDoorW.PrintMore Go.Proofs.YtiaohbbafaaibabDoor.Arr Go.Proofs.YtiaohbbafaaibabDoor.SymM
set_option linter.unusedVariables false
set_option linter.unusedSimpArgs false
set_option maxHeartbeats 4000000 in
set_option maxRecDepth 100000 in
theorem symFind.calls (A0 : Option Addr) (c0 : Nat) (l0 : List ObjT) (sn : ByteArray) (w : World) (hr0 : Kd.C k27 w A0 l0.length l0) (hlen : l0.length ≤ 1000000) (hsy : ∀ i, i < l0.length → (ob l0 i).f4.length ≤ 1000000000) :
  Calls Tryd.prog 22 #[.slice A0 l0.length c0, .string sn] w fun e w' => e = .returned (.tuple #[.agg #[.int .i64 (findR (gObj l0 l0.length) sn).1, .int .i64 (findR (gObj l0 l0.length) sn).2.1], .bool (findR (gObj l0 l0.length) sn).2.2]) ∧ Below w.heap.size w w' := by
 have hu3 := Tryd.underlying59
 have HR := Aside0.mk hr0
 have HSY := Aside0.mk hsy
 have HLE := Aside0.mk hlen
 clear hr0 hsy hlen
 generalize hL : findR (gObj l0 l0.length) sn = r
 have HRR := Aside0.mk hL
 clear hL
 obtain ⟨r0, r1, r2⟩ := r
 go_enter Tryd.func22, Tryd.ntmps22
 go_wp2_with (first | ((with_reducible refine gate_dst (N := 4) rfl ?_); refine box_event ?hg (N := 4) ?hd (cs := #[.int .i64 0, .int .i64 0]) (t := 59) ?hr ?_; (case hd => rfl); (case hg => rfl); (case hr => first | (go_simp; done) | (go_simp; rfl)); intro gr hgr w1 BK1 hb1; have BR := Aside0.mk BK1; have GR := Aside0.mk (show w.heap.size ≤ gr by rw [hgr]; exact Nat.le_refl _); have HB := Aside0.mk hb1; clear BK1 hb1 hgr) | (go_at_call 65; refine (gatherA.calls _ _ l0 _ (Kd.C_below HR.out HB.out) HLE.out HSY.out).mono ?_; rintro e w2 ⟨bm, rfl, hn2, hb2⟩; have HN := Aside0.mk hn2; replace HB := Aside0.mk (below_then HB.out HB.out.size hb2); replace BR := Aside0.mk (blk_below BR.out hb2); clear hn2 hb2) | (go_at_call 67; refine (find.calls sn _ bm _ HN.out).mono ?_; rw [HRR.out]; rintro e w3 ⟨rfl, hb3⟩; replace HB := Aside0.mk (below_then HB.out HB.out.size hb3); replace BR := Aside0.mk (blk_below BR.out hb3); clear hb3 HN) | ((with_reducible refine gate_store (t := 59) rfl ?_); refine wpList_store_whole rfl rfl rfl gr _ #[.int .i64 r0, .int .i64 r1] _ rfl rfl BR.out (by kernel_rfl) rfl (def_one _ _) ?_; intro w4 hp; have HE := Aside0.mk (hp.below HB.out GR.out); have HPf := Aside0.mk hp.blk; clear hp))
 refine bodyPost_ret (results_ct rfl _ _ gr 59 #[.int .i64 r0, .int .i64 r1] (0, 0) _ rfl HPf.out Tryd.underlying59 rfl (by kernel_rfl)) rfl ?_
 exact ⟨rfl, HE.out⟩
def symbol_Find.f (l0 : List ObjT) (a1 : ByteArray) : Option (Int × Int × Bool) := if (decide (l0.length ≤ 1000000) && (List.range l0.length).all fun i => decide ((ob l0 i).f4.length ≤ 1000000000)) = true then some (findR (gObj l0 l0.length) a1) else none
theorem symbol_Find.calls (A0 : Option Addr) (c0 : Nat) (l0 : List ObjT) (a1 : ByteArray) (r1 : Int) (r2 : Int) (r3 : Bool) (w : World) (hr0 : Kd.C k27 w A0 l0.length l0) (hc0 : l0.length ≤ c0) (h : symbol_Find.f l0 a1 = some (r1, r2, r3)) :
  Calls Tryd.prog 22 #[.slice A0 l0.length c0, .string a1] w fun e w' => e = .returned (.tuple #[.agg #[.int .i64 r1, .int .i64 r2], .bool r3]) ∧ Below w.heap.size w w' := by
 unfold symbol_Find.f at h
 split at h
 ·
  next hb =>
  rw [Bool.and_eq_true, decide_eq_true_eq, List.all_eq_true] at hb
  have hq := symFind.calls A0 c0 l0 a1 w hr0 hb.1 (fun i hi => of_decide_eq_true (hb.2 i (List.mem_range.mpr hi)))
  rw [Option.some.inj h] at hq
  exact hq
 ·
  exact absurd h (by simp)
end Go.Proofs.YtiaohbbafaaibabDoor.P

/- OWN TEXT: symbol.Resolve: what it answers, as a plain function. -/
namespace Go.Proofs.YtiaohbbafaaibabDoor.P
open Go.RowKit Go.Maps Go.Proofs.YtiaohbbafaaibabDoorW.PrintWords Go.Proofs.YtiaohbbafaaibabDoorW.PrintLast Go.Proofs.YtiaohbbafaaibabDoorW.PrintMore Go.Proofs.YtiaohbbafaaibabDoor.Arr Go.Proofs.YtiaohbbafaaibabDoor.MapB Go.Proofs.YtiaohbbafaaibabDoor.SymM
set_option linter.unusedVariables false
set_option linter.unusedSimpArgs false
abbrev DefT := S59
def objSeen (l : List ObjT) : Nat → Lit → Bool
 | 0 => fun _ => false
 | i + 1 => addS (objSeen l i) (keyN (ob l i).f0)
def chkSy (l : List ObjT) : Nat → Option (Option (Int × Int × Int))
  | 0 => some none
  | i + 1 => match chkSy l i with
    | none => none
    | some (some x) => some (some x)
    | some none => match object_Check.f (ob l i).f0 (ob l i).f1 (ob l i).f2 (ob l i).f3 (ob l i).f4 (ob l i).f5 with
      | none => none
      | some (e, n) => if e ≠ 0 then some (some (e, (i : Int), n)) else if objSeen l i (keyN (ob l i).f0) = true then some (some (26, (i : Int), -1)) else some none
def symX (L : List Ent) (i : Int) (s : Sym) : Option DefT := if s.f1 = 0 then some ⟨i, s.f2⟩ else if (findR L s.f0).2.2 = true then some ⟨(findR L s.f0).1, (findR L s.f0).2.1⟩ else none
def rowX (L : List Ent) (syms : List Sym) (i : Int) : Nat → List DefT × Option Nat
  | 0 => ([], none)
  | j + 1 => match rowX L syms i j with
    | (d, some k) => (d, some k)
    | (d, none) => match symX L i (sy syms j) with
      | some x => (d ++ [x], none)
      | none => (d, some j)
def rowsX (L : List Ent) (l : List ObjT) : Nat → List (List DefT) × Option (Nat × Nat)
  | 0 => ([], none)
  | i + 1 => match rowsX L l i with
    | (d, some k) => (d, some k)
    | (d, none) => match rowX L (ob l i).f4 (i : Int) (ob l i).f4.length with
      | (x, none) => (d ++ [x], none)
      | (_, some j) => (d, some (i, j))
def resolveR (l : List ObjT) : Option (List (List DefT) × Int × Int × Int) :=
 if (l.length : Int) > 32 then some ([], 21, 32, 0) else
 match chkSy l l.length with
 | none => none
 | some (some (e, i, n)) => some ([], e, i, n)
 | some none =>
  if 0 ≤ (aObj l l.length).1 then some ([], 26, (aObj l l.length).1, (aObj l l.length).2) else
  match rowsX (gObj l l.length) l l.length with
  | (_, some (i, k)) => some ([], 40, (i : Int), (k : Int))
  | (d, none) => some (d, 0, 0, 0)
def symbol_Resolve.f (l0 : List ObjT) : Option (List (List DefT) × Int × Int × Int) := if (decide (l0.length ≤ 1000000) && (List.range l0.length).all fun i => decide ((ob l0 i).f4.length ≤ 1000000000)) = true then resolveR l0 else none
theorem chkR_step (l : List ObjT) (i : Nat) (h : chkSy l i = some none) : chkSy l (i + 1) = match object_Check.f (ob l i).f0 (ob l i).f1 (ob l i).f2 (ob l i).f3 (ob l i).f4 (ob l i).f5 with
   | none => none
   | some (e, n) => if e ≠ 0 then some (some (e, (i : Int), n)) else if objSeen l i (keyN (ob l i).f0) = true then some (some (26, (i : Int), -1)) else some none := by
 simp only [chkSy, h]
theorem chkR_none (l : List ObjT) (i d : Nat) (h : chkSy l i = none) : chkSy l (i + d) = none := by
 induction d with
 | zero => exact h
 | succ d ih => rw [show i + (d + 1) = (i + d) + 1 by omega]; simp only [chkSy, ih]
theorem chkR_some (l : List ObjT) (i d : Nat) (x : Int × Int × Int) (h : chkSy l i = some (some x)) : chkSy l (i + d) = some (some x) := by
 induction d with
 | zero => exact h
 | succ d ih => rw [show i + (d + 1) = (i + d) + 1 by omega]; simp only [chkSy, ih]
theorem chkR_round (l : List ObjT) (i : Nat) (hi : i < l.length) (h : chkSy l i = some none) (hn : chkSy l l.length ≠ none) : ∃ e n, object_Check.f (ob l i).f0 (ob l i).f1 (ob l i).f2 (ob l i).f3 (ob l i).f4 (ob l i).f5 = some (e, n) ∧ ((e ≠ 0 ∧ chkSy l l.length = some (some (e, (i : Int), n))) ∨ (e = 0 ∧ objSeen l i (keyN (ob l i).f0) = true ∧ chkSy l l.length = some (some (26, (i : Int), -1))) ∨ (e = 0 ∧ objSeen l i (keyN (ob l i).f0) = false ∧ chkSy l (i + 1) = some none)) := by
 have hs := chkR_step l i h
 have hl : l.length = (i + 1) + (l.length - (i + 1)) := by omega
 cases hc : object_Check.f (ob l i).f0 (ob l i).f1 (ob l i).f2 (ob l i).f3 (ob l i).f4 (ob l i).f5 with
 | none => rw [hc] at hs; exact absurd (by rw [hl]; exact chkR_none l (i + 1) _ hs) hn
 | some x =>
  obtain ⟨e, n⟩ := x
  rw [hc] at hs
  refine ⟨e, n, rfl, ?_⟩
  by_cases he : e = 0
  ·
   subst he
   simp only [ne_eq, not_true, if_false] at hs
   cases hb : objSeen l i (keyN (ob l i).f0) with
   | true => rw [hb, if_pos rfl] at hs; exact Or.inr (Or.inl ⟨rfl, rfl, by rw [hl]; exact chkR_some l (i + 1) _ _ hs⟩)
   | false => rw [hb, if_neg (by decide)] at hs; exact Or.inr (Or.inr ⟨rfl, rfl, hs⟩)
  ·
   simp only [ne_eq, he, not_false_eq_true, if_true] at hs
   exact Or.inl ⟨he, by rw [hl]; exact chkR_some l (i + 1) _ _ hs⟩
structure R1 (w W : World) (gl b n : Nat) (ol : Obj) (S : Lit → Bool) : Prop where
  low : Below w.heap.size w W
  hl : W.heap[gl]? = some ol
  seen : SeenN W b n S
  n1 : gl ≠ b
  g1 : w.heap.size ≤ gl
  g2 : w.heap.size ≤ b
theorem R1.below {w W W1 : World} {gl b n : Nat} {ol : Obj} {S : Lit → Bool} (h : R1 w W gl b n ol S) (hb : Below W.heap.size W W1) : R1 w W1 gl b n ol S :=
 ⟨below_then h.low h.low.size hb, blk_below h.hl hb, h.seen.below hb, h.n1, h.g1, h.g2⟩
theorem R1.put {w W W1 : World} {gl b n g : Nat} {ol : Obj} {S : Lit → Bool} {cs : Array Value} {e : TypeId} (h : R1 w W gl b n ol S) (hp : Put W W1 g cs e) (hg : w.heap.size ≤ g) (h1 : gl ≠ g) (h2 : b ≠ g) : R1 w W1 gl b n ol S :=
 ⟨hp.below h.low hg, blk_grown h.hl (put_grownN hp) (fun e => h1 (Option.some.inj e)), h.seen.kept (put_grownN hp) (fun e => h2 (Option.some.inj e)), h.n1, h.g1, h.g2⟩
theorem R1.add {w W W1 : World} {gl b n n' : Nat} {ol : Obj} {S S' : Lit → Bool} (h : R1 w W gl b n ol S) (hg : W.grownBy W1 (some b)) (hs : SeenN W1 b n' S') : R1 w W1 gl b n' ol S' :=
 ⟨pw_below_grown h.low (some b) h.low.size hg (fun k hk => by have := Option.some.inj hk; have := h.g2; omega), blk_grown h.hl hg (fun e => h.n1 (Option.some.inj e)), hs, h.n1, h.g1, h.g2⟩
end Go.Proofs.YtiaohbbafaaibabDoor.P

/- OWN TEXT: what the names gathered stand for, over plain lists: the first of a kind and name; the first symbol that is wrong. -/
namespace Go.Proofs.YtiaohbbafaaibabDoor.P
open Go.RowKit Go.Maps Go.Proofs.YtiaohbbafaaibabDoorW.PrintWords Go.Proofs.YtiaohbbafaaibabDoorW.PrintLast Go.Proofs.YtiaohbbafaaibabDoorW.PrintMore Go.Proofs.YtiaohbbafaaibabDoor.Arr Go.Proofs.YtiaohbbafaaibabDoor.MapB Go.Proofs.YtiaohbbafaaibabDoor.SymM
set_option linter.unusedVariables false
set_option linter.unusedSimpArgs false

def symF (syms : List Sym) (s : ByteArray) (kind : Int) : Nat → Option Int
  | 0 => none
  | j + 1 => match symF syms s kind j with
    | some a => some a
    | none => if (sy syms j).f0 = s ∧ (sy syms j).f1 = kind then some (sy syms j).f2 else none
def rowF (l : List ObjT) (s : ByteArray) (kind : Int) : Nat → Option (Int × Int)
  | 0 => none
  | i + 1 => match rowF l s kind i with
    | some x => some x
    | none => (symF (ob l i).f4 s kind (ob l i).f4.length).map fun a => ((i : Int), a)
def firstF (l : List ObjT) (s : ByteArray) (kind : Int) (i k : Nat) : Option (Int × Int) := match rowF l s kind i with
 | some x => some x
 | none => (symF (ob l i).f4 s kind k).map fun a => ((i : Int), a)
def kOf (f : Bool) : Int := if f = true then 2 else 1
theorem findE_add (L : List Ent) (x : Ent) (s : ByteArray) (f : Bool) : findE (L ++ [x]) s f = match findE L s f with
  | some y => some y
  | none => if x.s = s ∧ x.f = f then some (x.i, x.a) else none := by
 unfold findE
 rw [List.find?_append]
 cases L.find? (fun x => decide (x.s = s) && x.f == f) with
 | some y => rfl
 | none =>
  simp only [Option.none_or, List.find?_cons, List.find?_nil, Option.map_none]
  by_cases c : x.s = s ∧ x.f = f
  ·
   have : (decide (x.s = s) && x.f == f) = true := by rw [Bool.and_eq_true, decide_eq_true_eq, beq_iff_eq]; exact c
   rw [this, if_pos c]; rfl
  ·
   have : (decide (x.s = s) && x.f == f) = false := by
    rw [← Bool.not_eq_true, Bool.and_eq_true, decide_eq_true_eq, beq_iff_eq]; exact c
   rw [this, if_neg c]; rfl
theorem findE_put (L : List Ent) (t : ByteArray) (k a i : Int) (s : ByteArray) (f : Bool) : findE (putL L t k a i) s f = match findE L s f with
  | some x => some x
  | none => if t = s ∧ k = kOf f then some (i, a) else none := by
 have none_ (h : ¬ (t = s ∧ k = kOf f)) : findE L s f = match findE L s f with
   | some x => some x
   | none => if t = s ∧ k = kOf f then some (i, a) else none := by
  cases findE L s f with
  | some x => rfl
  | none => exact (if_neg h).symm
 have had (f' : Bool) (hk : k = kOf f') (h : (findE L t f').isSome = true) : findE L s f = match findE L s f with
   | some x => some x
   | none => if t = s ∧ k = kOf f then some (i, a) else none := by
  cases hq : findE L s f with
  | some x => rfl
  | none =>
   refine (if_neg ?_).symm
   rintro ⟨rfl, h2⟩
   have : f = f' := by
    rw [hk] at h2
    cases f <;> cases f' <;> first | rfl | (exact absurd h2 (by decide))
   subst this
   rw [hq] at h
   cases h
 have new_ (f' : Bool) (hk : k = kOf f') : findE (L ++ [⟨t, f', i, a⟩]) s f = match findE L s f with
   | some x => some x
   | none => if t = s ∧ k = kOf f then some (i, a) else none := by
  rw [findE_add]
  cases findE L s f with
  | some x => rfl
  | none =>
   have : (t = s ∧ f' = f) ↔ (t = s ∧ k = kOf f) := by
    rw [hk]
    cases f <;> cases f' <;> simp [kOf]
   simp only [this]
 unfold putL
 split
 ·
  rename_i h1
  split
  ·
   rename_i h2; exact had false h1 h2
  ·
   exact new_ false h1
 ·
  rename_i h1
  split
  ·
   rename_i h1b
   split
   ·
    rename_i h2; exact had true h1b h2
   ·
    exact new_ true h1b
  ·
   rename_i h1b
   refine none_ ?_
   rintro ⟨_, h⟩
   cases f
   ·
    exact h1 h
   ·
    exact h1b h
theorem findE_gSym (L0 : List Ent) (syms : List Sym) (i : Int) (s : ByteArray) (f : Bool) : ∀ j, findE (gSym L0 syms i j) s f = match findE L0 s f with
    | some x => some x
    | none => (symF syms s (kOf f) j).map fun a => (i, a)
  | 0 => by
    show findE L0 s f = _
    cases findE L0 s f <;> rfl
  | j + 1 => by
    show findE (putL (gSym L0 syms i j) _ _ _ i) s f = _
    rw [findE_put, findE_gSym L0 syms i s f j]
    cases findE L0 s f with
    | some x => rfl
    | none =>
      show (match (symF syms s (kOf f) j).map fun a => (i, a) with | some x => some x | none => _) = (match symF syms s (kOf f) j with | some a => some a | none => _ : Option Int).map _
      cases symF syms s (kOf f) j with
      | some a => rfl
      | none =>
        show (if _ then _ else _) = (if _ then _ else _ : Option Int).map _
        split <;> rfl
theorem findE_gObj (l : List ObjT) (s : ByteArray) (f : Bool) : ∀ n, findE (gObj l n) s f = rowF l s (kOf f) n
  | 0 => rfl
  | n + 1 => by
    show findE (gSym (gObj l n) (ob l n).f4 (n : Int) (ob l n).f4.length) s f = _
    rw [findE_gSym, findE_gObj l s f n]
    rfl
def findF (l : List ObjT) (s : ByteArray) (n : Nat) : Int × Int × Bool := match rowF l s 1 n with
  | some (i, a) => (i, a, true)
  | none => match rowF l s 2 n with
    | some (i, a) => (i, a, true)
    | none => (0, 0, false)
theorem findR_gObj (l : List ObjT) (s : ByteArray) (n : Nat) : findR (gObj l n) s = findF l s n := by
 unfold findR findF
 rw [findE_gObj, findE_gObj]
 rfl
def twice (l : List ObjT) (i k : Nat) : Prop := (sy (ob l i).f4 k).f1 = 1 ∧ (firstF l (sy (ob l i).f4 k).f0 1 i k).isSome = true
theorem putB_first (l : List ObjT) (i k : Nat) (s : ByteArray) : putB (gSym (gObj l i) (ob l i).f4 (i : Int) k) s 1 = (firstF l s 1 i k).isSome := by
 unfold putB
 rw [if_pos rfl, findE_gSym, findE_gObj]
 rfl
structure FirstBad (l : List ObjT) (bad : Nat → Nat → Prop) (i k : Nat) : Prop where
  hi : i < l.length
  hk : k < (ob l i).f4.length
  here : bad i k
  row : ∀ q, q < k → ¬ bad i q
  rows : ∀ p, p < i → ∀ q, q < (ob l p).f4.length → ¬ bad p q
def NoneBad (l : List ObjT) (bad : Nat → Nat → Prop) : Prop := ∀ p, p < l.length → ∀ q, q < (ob l p).f4.length → ¬ bad p q
theorem least (P : Nat → Prop) : ∀ n, (∀ q, q < n → ¬ P q) ∨ ∃ k, k < n ∧ P k ∧ ∀ q, q < k → ¬ P q
  | 0 => .inl fun q h => absurd h (Nat.not_lt_zero _)
  | n + 1 => by
    rcases least P n with h | ⟨k, h1, h2, h3⟩
    · by_cases c : P n
      · exact .inr ⟨n, Nat.lt_succ_self n, c, h⟩
      · refine .inl fun q hq hP => ?_
        by_cases e : q = n
        · subst e; exact c hP
        · exact h q (by omega) hP
    · exact .inr ⟨k, by omega, h2, h3⟩
theorem bad_or (l : List ObjT) (bad : Nat → Nat → Prop) : NoneBad l bad ∨ ∃ i k, FirstBad l bad i k := by
 rcases least (fun p => ∃ q, q < (ob l p).f4.length ∧ bad p q) l.length with h | ⟨i, h1, ⟨q0, h2, h3⟩, h4⟩
 ·
  exact .inl fun p hp q hq hb => h p hp ⟨q, hq, hb⟩
 ·
  rcases least (bad i) (ob l i).f4.length with h | ⟨k, g1, g2, g3⟩
  ·
   exact absurd h3 (h q0 h2)
  ·
   exact .inr ⟨i, k, h1, g1, g2, g3, fun p hp q hq hb => h4 p hp ⟨q, hq, hb⟩⟩
theorem atStep_eq (l : List ObjT) (i j : Nat) (a : Int × Int) (hn : ¬ twice l i j) : atStep a (gSym (gObj l i) (ob l i).f4 (i : Int) j) (sy (ob l i).f4 j) (i : Int) (j : Int) = a := by
 unfold atStep
 split
 ·
  rename_i h
  split
  ·
   split
   ·
    rename_i h1
    exact absurd ⟨h1, by rw [← putB_first, ← h1]; exact h⟩ hn
   ·
    rfl
  ·
   rfl
 ·
  rfl
theorem atStep_hit (l : List ObjT) (i j : Nat) (a : Int × Int) (ha : a.1 < 0) (hn : twice l i j) : atStep a (gSym (gObj l i) (ob l i).f4 (i : Int) j) (sy (ob l i).f4 j) (i : Int) (j : Int) = ((i : Int), (j : Int)) := by
 unfold atStep
 rw [if_pos (by rw [hn.1, putB_first]; exact hn.2), if_pos ha, if_pos hn.1]
theorem atStep_stay (a : Int × Int) (L : List Ent) (s : Sym) (i k : Int) (ha : ¬ a.1 < 0) : atStep a L s i k = a := by
 unfold atStep
 simp only [if_neg ha]
 split <;> rfl
theorem aSym_none (l : List ObjT) (i : Nat) (a : Int × Int) : ∀ j, (∀ q, q < j → ¬ twice l i q) → aSym a (gObj l i) (ob l i).f4 (i : Int) j = a
  | 0, _ => rfl
  | j + 1, h => by
    show atStep (aSym a (gObj l i) (ob l i).f4 (i : Int) j) _ _ _ _ = a
    rw [aSym_none l i a j (fun q hq => h q (by omega))]
    exact atStep_eq l i j a (h j (by omega))
theorem aSym_stay (L0 : List Ent) (syms : List Sym) (i : Int) (a : Int × Int) (ha : ¬ a.1 < 0) : ∀ j, aSym a L0 syms i j = a
  | 0 => rfl
  | j + 1 => by
    show atStep (aSym a L0 syms i j) _ _ _ _ = a
    rw [aSym_stay L0 syms i a ha j]
    exact atStep_stay a _ _ _ _ ha
theorem aSym_from (L0 : List Ent) (syms : List Sym) (i : Int) (a b : Int × Int) (k : Nat) (hb : ¬ b.1 < 0) (h : aSym a L0 syms i k = b) : ∀ d, aSym a L0 syms i (k + d) = b
  | 0 => h
  | d + 1 => by
    show atStep (aSym a L0 syms i (k + d)) _ _ _ _ = b
    rw [aSym_from L0 syms i a b k hb h d]
    exact atStep_stay b _ _ _ _ hb
theorem aObj_none (l : List ObjT) : ∀ n, (∀ p, p < n → ∀ q, q < (ob l p).f4.length → ¬ twice l p q) → aObj l n = (-1, -1)
  | 0, _ => rfl
  | n + 1, h => by
    show aSym (aObj l n) (gObj l n) (ob l n).f4 (n : Int) (ob l n).f4.length = _
    rw [aObj_none l n (fun p hp => h p (by omega))]
    exact aSym_none l n _ _ (h n (by omega))
theorem aObj_stay (l : List ObjT) (b : Int × Int) (hb : ¬ b.1 < 0) (n : Nat) (h : aObj l n = b) : ∀ d, aObj l (n + d) = b
  | 0 => h
  | d + 1 => by
    show aSym (aObj l (n + d)) _ _ _ _ = b
    rw [aObj_stay l b hb n h d]
    exact aSym_stay _ _ _ b hb _
theorem aObj_first (l : List ObjT) {i k : Nat} (h : FirstBad l (twice l) i k) : aObj l l.length = ((i : Int), (k : Int)) := by
 have hnn : ¬ ((i : Int), (k : Int)).1 < 0 := by simp
 have h1 : aObj l (i + 1) = ((i : Int), (k : Int)) := by
  show aSym (aObj l i) (gObj l i) (ob l i).f4 (i : Int) (ob l i).f4.length = _
  rw [aObj_none l i h.rows]
  have h2 : aSym (-1, -1) (gObj l i) (ob l i).f4 (i : Int) (k + 1) = ((i : Int), (k : Int)) := by
   show atStep (aSym (-1, -1) (gObj l i) (ob l i).f4 (i : Int) k) _ _ _ _ = _
   rw [aSym_none l i _ k h.row]
   exact atStep_hit l i k _ (by decide) h.here
  have := aSym_from _ _ _ _ _ _ hnn h2 ((ob l i).f4.length - (k + 1))
  rwa [show k + 1 + ((ob l i).f4.length - (k + 1)) = (ob l i).f4.length by have := h.hk; omega] at this
 have := aObj_stay l _ hnn _ h1 (l.length - (i + 1))
 rwa [show i + 1 + (l.length - (i + 1)) = l.length by have := h.hi; omega] at this
def unbound (L : List Ent) (l : List ObjT) (i k : Nat) : Prop := symX L (i : Int) (sy (ob l i).f4 k) = none
def rowL (L : List Ent) (syms : List Sym) (i : Int) : Nat → List DefT
 | 0 => []
 | j + 1 => rowL L syms i j ++ (symX L i (sy syms j)).toList
def rowsL (L : List Ent) (l : List ObjT) : Nat → List (List DefT)
 | 0 => []
 | i + 1 => rowsL L l i ++ [rowL L (ob l i).f4 (i : Int) (ob l i).f4.length]
theorem rowX_none (L : List Ent) (l : List ObjT) (i : Nat) : ∀ j, (∀ q, q < j → ¬ unbound L l i q) → rowX L (ob l i).f4 (i : Int) j = (rowL L (ob l i).f4 (i : Int) j, none)
  | 0, _ => rfl
  | j + 1, h => by
    have h1 := rowX_none L l i j (fun q hq => h q (by omega))
    have h2 := h j (by omega)
    unfold unbound at h2
    unfold rowX rowL
    rw [h1]
    cases hx : symX L (i : Int) (sy (ob l i).f4 j) with
    | none => exact absurd hx h2
    | some x => rfl
theorem rowX_from (L : List Ent) (syms : List Sym) (i : Int) (k j : Nat) (d : List DefT) (h : rowX L syms i k = (d, some j)) : ∀ m, rowX L syms i (k + m) = (d, some j)
  | 0 => h
  | m + 1 => by
    have := rowX_from L syms i k j d h m
    show rowX L syms i ((k + m) + 1) = _
    unfold rowX
    rw [this]
theorem rowX_first (L : List Ent) (l : List ObjT) {i k : Nat} (hk : k < (ob l i).f4.length) (hu : unbound L l i k) (h : ∀ q, q < k → ¬ unbound L l i q) : ∃ d, rowX L (ob l i).f4 (i : Int) (ob l i).f4.length = (d, some k) := by
 have h1 := rowX_none L l i k h
 have h2 : rowX L (ob l i).f4 (i : Int) (k + 1) = (rowL L (ob l i).f4 (i : Int) k, some k) := by
  unfold rowX
  rw [h1]
  unfold unbound at hu
  simp only [hu]
 refine ⟨rowL L (ob l i).f4 (i : Int) k, ?_⟩
 have := rowX_from _ _ _ _ _ _ h2 ((ob l i).f4.length - (k + 1))
 rwa [show k + 1 + ((ob l i).f4.length - (k + 1)) = (ob l i).f4.length by omega] at this
theorem rowsX_none (L : List Ent) (l : List ObjT) : ∀ n, (∀ p, p < n → ∀ q, q < (ob l p).f4.length → ¬ unbound L l p q) → rowsX L l n = (rowsL L l n, none)
  | 0, _ => rfl
  | n + 1, h => by
    have h1 := rowsX_none L l n (fun p hp => h p (by omega))
    have h2 := rowX_none L l n _ (h n (by omega))
    unfold rowsX rowsL
    rw [h1]
    simp only [h2]
theorem rowsX_from (L : List Ent) (l : List ObjT) (n : Nat) (d : List (List DefT)) (p : Nat × Nat) (h : rowsX L l n = (d, some p)) : ∀ m, rowsX L l (n + m) = (d, some p)
  | 0 => h
  | m + 1 => by
    have := rowsX_from L l n d p h m
    show rowsX L l ((n + m) + 1) = _
    unfold rowsX
    rw [this]
theorem rowsX_first (L : List Ent) (l : List ObjT) {i k : Nat} (h : FirstBad l (unbound L l) i k) : ∃ d, rowsX L l l.length = (d, some (i, k)) := by
 have h1 := rowsX_none L l i h.rows
 obtain ⟨x, h2⟩ := rowX_first L l h.hk h.here h.row
 have h3 : rowsX L l (i + 1) = (rowsL L l i, some (i, k)) := by
  unfold rowsX
  rw [h1]
  simp only [h2]
 refine ⟨rowsL L l i, ?_⟩
 have := rowsX_from _ _ _ _ _ h3 (l.length - (i + 1))
 rwa [show i + 1 + (l.length - (i + 1)) = l.length by have := h.hi; omega] at this
inductive Told (l : List ObjT) : List (List DefT) × Int × Int × Int → Prop
  | two {i k : Nat} (h : FirstBad l (twice l) i k) : Told l ([], 26, (i : Int), (k : Int))
  | un {i k : Nat} (h0 : NoneBad l (twice l)) (h : FirstBad l (unbound (gObj l l.length) l) i k) : Told l ([], 40, (i : Int), (k : Int))
  | ok (h0 : NoneBad l (twice l)) (h : NoneBad l (unbound (gObj l l.length) l)) : Told l (rowsL (gObj l l.length) l l.length, 0, 0, 0)
theorem resolve_told (l : List ObjT) (hn : l.length ≤ 32) (hc : chkSy l l.length = some none) : ∃ x, resolveR l = some x ∧ Told l x := by
 unfold resolveR
 rw [if_neg (by omega), hc]
 rcases bad_or l (twice l) with h | ⟨i, k, h⟩
 ·
  rw [aObj_none l l.length h]
  simp only
  rw [if_neg (by decide)]
  rcases bad_or l (unbound (gObj l l.length) l) with g | ⟨i, k, g⟩
  ·
   rw [rowsX_none _ l l.length g]
   exact ⟨_, rfl, .ok h g⟩
  ·
   obtain ⟨d, hd⟩ := rowsX_first _ l g
   rw [hd]
   exact ⟨_, rfl, .un h g⟩
 ·
  rw [aObj_first l h]
  simp only
  rw [if_pos (by omega)]
  exact ⟨_, rfl, .two h⟩
end Go.Proofs.YtiaohbbafaaibabDoor.P

/- OWN TEXT: a list of lists of places that a call makes, a row of which an append turns: what it holds. -/
namespace Go.Proofs.YtiaohbbafaaibabDoor.P
open Go.RowKit Go.Maps Go.Proofs.YtiaohbbafaaibabDoorW.PrintWords Go.Proofs.YtiaohbbafaaibabDoorW.PrintLast Go.Proofs.YtiaohbbafaaibabDoorW.PrintMore Go.Proofs.YtiaohbbafaaibabDoor.Arr Go.Proofs.YtiaohbbafaaibabDoor.MapB Go.Proofs.YtiaohbbafaaibabDoor.SymM
set_option linter.unusedVariables false
set_option linter.unusedSimpArgs false
abbrev RowsIs (W : World) (lo : Nat) (ok : Nat → Prop) (v : Value) (rows : List (List DefT)) : Prop := Kd.S (Kd.slice 59 k59) 62 W lo ok v rows
abbrev RowIs (W : World) (lo : Nat) (ok : Nat → Prop) (v : Value) (row : List DefT) : Prop := Kd.R k59 59 W lo ok v row
structure R2 (w W : World) (ga gl b : Nat) (at_ : Int × Int) (ol : Obj) (L : List Ent) (ok : Nat → Prop) (v : Value) (rows : List (List DefT)) : Prop where
  low : Below w.heap.size w W
  nm : NMap W b L
  hat : W.heap[ga]? = some (atCell at_.1 at_.2)
  hl : W.heap[gl]? = some ol
  own : RowsIs W w.heap.size ok v rows
  ba : w.heap.size ≤ ga
theorem R2.below {w W W1 : World} {ga gl b : Nat} {at_ : Int × Int} {ol : Obj} {L : List Ent} {ok : Nat → Prop} {v : Value} {rows : List (List DefT)} (h : R2 w W ga gl b at_ ol L ok v rows) (hb : Below W.heap.size W W1) : R2 w W1 ga gl b at_ ol L ok v rows :=
 ⟨below_then h.low h.low.size hb, h.nm.below hb, blk_below h.hat hb, blk_below h.hl hb, Kd.S_below h.own hb, h.ba⟩
theorem R2.mono {w W : World} {ga gl b : Nat} {at_ : Int × Int} {ol : Obj} {L : List Ent} {ok ok' : Nat → Prop} {v : Value} {rows : List (List DefT)} (h : R2 w W ga gl b at_ ol L ok v rows) (hk : ∀ k, ok k → ok' k) : R2 w W ga gl b at_ ol L ok' v rows :=
 ⟨h.low, h.nm, h.hat, h.hl, Kd.S_mono h.own hk, h.ba⟩
theorem R2.box {w W W1 : World} {ga gl b g : Nat} {at_ : Int × Int} {ol : Obj} {L : List Ent} {ok : Nat → Prop} {v : Value} {rows : List (List DefT)} (h : R2 w W ga gl b at_ ol L ok v rows) (hb : Below W.heap.size W W1) (hg : W.heap.size ≤ g) : R2 w W1 ga gl b at_ ol L (fun k => ok k ∧ k ≠ g) v rows :=
 ⟨below_then h.low h.low.size hb, h.nm.below hb, blk_below h.hat hb, blk_below h.hl hb, Kd.S_mono (Kd.S_old h.own hb) (fun k hk => ⟨hk.1, by have := hk.2; omega⟩), h.ba⟩
theorem R2.put {w W W1 : World} {ga gl b g : Nat} {at_ : Int × Int} {ol : Obj} {L : List Ent} {ok : Nat → Prop} {v : Value} {rows : List (List DefT)} {cs : Array Value} {e : TypeId} (h : R2 w W ga gl b at_ ol L ok v rows) (hp : Put W W1 g cs e) (hg : w.heap.size ≤ g) (h1 : ga ≠ g) (h2 : gl ≠ g) (h3 : b ≠ g) (hk : ∀ k, ok k → k ≠ g) : R2 w W1 ga gl b at_ ol L ok v rows :=
 ⟨hp.below h.low hg, h.nm.kept (put_grownN hp) (fun e => h3 (Option.some.inj e)), blk_grown h.hat (put_grownN hp) (fun e => h1 (Option.some.inj e)), blk_grown h.hl (put_grownN hp) (fun e => h2 (Option.some.inj e)), Kd.S_grown h.own (put_grownN hp) (fun k ho e => hk k ho (Option.some.inj e)), h.ba⟩
theorem cell_same {W W1 : World} {a : Addr} (h : W1.heap[a.block]? = W.heap[a.block]?) : W1.cell? a = W.cell? a := by
 unfold World.cell?
 rw [h]
theorem frozen_same {W W1 : World} {a : Addr} (h : W1.heap[a.block]? = W.heap[a.block]?) : W1.frozen? a = W.frozen? a := by
 unfold World.frozen?
 rw [h]
theorem nmap_ne {W : World} {b g : Nat} {L : List Ent} {cells : Array Value} {e : TypeId} (h : NMap W b L) (hb : W.heap[g]? = some (.cells cells e (0, 0))) : b ≠ g := by
 rintro rfl
 obtain ⟨es, clock, h1, _⟩ := h
 rw [h1] at hb
 cases hb
theorem R2.row {w W : World} {ga gl b gd n c i : Nat} {at_ : Int × Int} {L : List Ent} {ok : Nat → Prop} {rows : List (List DefT)} {Al : Option Addr} {nl cl : Nat} (h : R2 w W ga gl b at_ (lCell Al nl cl) L ok (.slice (some ⟨gd, 0, none⟩) n c) rows) (hi : i < n) (hf : ∀ k, W.heap.size ≤ k → ok k) (x : DefT) :
  ∃ (vi : Value) (okA : Nat → Prop), W.cell? ⟨gd, i, none⟩ = some vi ∧ gd < W.heap.size ∧ RowIs W w.heap.size okA vi (rows.getD i []) ∧ (∀ k, W.heap.size ≤ k → okA k) ∧ (∀ k, okA k → ok k) ∧
   ∀ v1 w1, RowIs w1 w.heap.size okA v1 (rows.getD i [] ++ [x]) → Below w.heap.size w w1 → W.grownBy w1 vi.ownBlock →
    w1.cell? ⟨gd, i, none⟩ = some vi ∧ w1.frozen? ⟨gd, i, none⟩ = false ∧ R2 w (w1.setCell ⟨gd, i, none⟩ v1) ga gl b at_ (lCell Al nl cl) L ok (.slice (some ⟨gd, 0, none⟩) n c) (rows.set i (rows.getD i [] ++ [x])) := by
 obtain ⟨oki, cs, hcl, hM, hcc, hfr, hoki, hH⟩ := Kd.S_elem h.own [] (i : Int) (by omega) (by omega)
 rw [show ((i : Int)).toNat = i by omega] at hM hcc hfr
 obtain ⟨vi, rfl, hR⟩ := hM
 simp only [show (Kd.slice 59 k59).sz = 1 from rfl, Nat.mul_one] at hcc hfr
 have hc0 := hcc 0 vi rfl
 have hf0 := hfr 0
 rw [Nat.add_zero] at hc0 hf0
 have hgd : gd < W.heap.size := World.block_lt_of_cell? W _ hc0
 have hty : ∀ k, vi.ownBlock = some k → ∃ cells, W.heap[k]? = some (.cells cells 59 (0, 0)) := Kd.R_typed hR
 have hsl := Kd.S_typed h.own gd (by simp [Value.ownBlock])
 have hdb : w.heap.size ≤ gd := Kd.S_base h.own gd (by simp [Value.ownBlock])
 refine ⟨vi, fun k => oki k ∨ ok k ∧ W.heap.size ≤ k, hc0, hgd, Kd.R_mono hR (fun k hk => .inl hk), fun k hk => .inr ⟨hf k hk, hk⟩, fun k hk => hk.elim (fun h2 => (hoki k h2).1) (fun h2 => h2.1), ?_⟩
 intro v1 w1 hr hb hg
 have hgdo : ∀ k, vi.ownBlock = some k → k ≠ gd := fun k hk => (hoki k (hR.1 k hk)).2
 have hblk : w1.heap[gd]? = W.heap[gd]? := hg.block gd hgd (fun e => hgdo gd e.symm rfl)
 have hone := (Kd.R_val hr).2
 have hH1 := Kd.H_grown (Kd.H_widen hH) hg (fun k hk => .inl (hR.1 k hk))
 obtain ⟨hH2, hg2⟩ := Kd.H_seg hH1 (by omega) (by omega) (seg := [v1]) (j := 0) (by show 0 + 1 ≤ 1; omega) (by intro q hq; rw [List.mem_singleton.1 hq]; exact hone)
 rw [show ((i : Int)).toNat = i by omega, show i * (Kd.slice 59 k59).sz + 0 = i by show i * 1 + 0 = i; omega] at hH2 hg2
 have hset : w1.setCells gd i [v1] = w1.setCell ⟨gd, i, none⟩ v1 := rfl
 rw [hset] at hH2 hg2
 have hR2 : RowIs (w1.setCell ⟨gd, i, none⟩ v1) w.heap.size (fun k => oki k ∨ ok k ∧ W.heap.size ≤ k) v1 (rows.getD i [] ++ [x]) := Kd.R_grown hr hg2 (fun k hk e => by
  have := Option.some.inj e
  subst this
  rcases hk with hk | hk
  ·
   exact (hoki _ hk).2 rfl
  ·
   omega)
 have hS := Kd.H_back hH2 (x' := rows.getD i [] ++ [x]) ⟨v1, rfl, hR2⟩ (fun _ hk => hk)
 rw [show ((i : Int)).toNat = i by omega] at hS
 obtain ⟨cl0, hcl0⟩ := hsl
 have nb : b ≠ gd := nmap_ne h.nm hcl0
 have na : ga ≠ gd := by rintro rfl; rw [h.hat] at hcl0; injection hcl0 with e; injection e with _ e; exact absurd e (by decide)
 have nl_ : gl ≠ gd := by rintro rfl; rw [h.hl] at hcl0; injection hcl0 with e; injection e with _ e; exact absurd e (by decide)
 have vb : some b ≠ vi.ownBlock := fun e => by obtain ⟨c2, hc2⟩ := hty b e.symm; exact nmap_ne h.nm hc2 rfl
 have va : some ga ≠ vi.ownBlock := fun e => by obtain ⟨c2, hc2⟩ := hty ga e.symm; rw [h.hat] at hc2; injection hc2 with e; injection e with _ e; exact absurd e (by decide)
 have vl : some gl ≠ vi.ownBlock := fun e => by obtain ⟨c2, hc2⟩ := hty gl e.symm; rw [h.hl] at hc2; injection hc2 with e; injection e with _ e; exact absurd e (by decide)
 refine ⟨(cell_same hblk).trans hc0, (frozen_same hblk).trans hf0, ?_, ?_, ?_, ?_, hS, h.ba⟩
 ·
  exact pw_below_grown hb (some gd) hb.size hg2 (fun k hk => by have := Option.some.inj hk; omega)
 ·
  exact (h.nm.kept hg vb).kept hg2 (fun e => nb (Option.some.inj e))
 ·
  exact blk_grown (blk_grown h.hat hg va) hg2 (fun e => na (Option.some.inj e))
 ·
  exact blk_grown (blk_grown h.hl hg vl) hg2 (fun e => nl_ (Option.some.inj e))
theorem set_mid {α : Type} (A : List α) (r r' z : α) (B : List α) (i : Nat) (h : A.length = i) : (A ++ r :: B).set i r' = A ++ r' :: B ∧ (A ++ r :: B).getD i z = r := by
 subst h
 constructor
 ·
  rw [List.set_append_right _ _ (Nat.le_refl _), Nat.sub_self]; rfl
 ·
  rw [List.getD_eq_getElem?_getD, List.getElem?_append_right (Nat.le_refl _), Nat.sub_self]; rfl
theorem rowsX_length (L : List Ent) (l : List ObjT) : ∀ n, (rowsX L l n).2 = none → (rowsX L l n).1.length = n
  | 0, _ => rfl
  | n + 1, h => by
    unfold rowsX at h ⊢
    have ih := rowsX_length L l n
    cases hq : rowsX L l n with
    | mk d o =>
      rw [hq] at h ih
      cases o with
      | some k => simp at h
      | none =>
        simp only at h ih ⊢
        cases hr : rowX L (ob l n).f4 (n : Int) (ob l n).f4.length with
        | mk x o2 =>
          rw [hr] at h
          cases o2 with
          | some j => simp at h
          | none =>
            simp only
            rw [List.length_append, ih trivial]
            rfl
theorem rowX_length (L : List Ent) (syms : List Sym) (i : Int) : ∀ n, (rowX L syms i n).2 = none → (rowX L syms i n).1.length = n
  | 0, _ => rfl
  | n + 1, h => by
    unfold rowX at h ⊢
    have ih := rowX_length L syms i n
    cases hq : rowX L syms i n with
    | mk d o =>
      rw [hq] at h ih
      cases o with
      | some k => simp at h
      | none =>
        simp only at h ih ⊢
        cases hr : symX L i (sy syms n) with
        | none => rw [hr] at h; simp at h
        | some x =>
          simp only
          rw [List.length_append, ih trivial]
          rfl
theorem rowX_step {L : List Ent} {syms : List Sym} {i : Int} {j : Nat} {x : DefT} (h : (rowX L syms i j).2 = none) (hx : symX L i (sy syms j) = some x) : rowX L syms i (j + 1) = ((rowX L syms i j).1 ++ [x], none) := by
 show (match rowX L syms i j with | (d, some k) => (d, some k) | (d, none) => _) = _
 cases hq : rowX L syms i j with
 | mk d o =>
  rw [hq] at h
  simp only at h
  subst h
  simp only [hx]
theorem rowsX_step {L : List Ent} {l : List ObjT} {i : Nat} (h : (rowsX L l i).2 = none) (hx : (rowX L (ob l i).f4 (i : Int) (ob l i).f4.length).2 = none) : rowsX L l (i + 1) = ((rowsX L l i).1 ++ [(rowX L (ob l i).f4 (i : Int) (ob l i).f4.length).1], none) := by
 show (match rowsX L l i with | (d, some k) => (d, some k) | (d, none) => _) = _
 cases hq : rowsX L l i with
 | mk d o =>
  rw [hq] at h
  simp only at h
  subst h
  cases hr : rowX L (ob l i).f4 (i : Int) (ob l i).f4.length with
  | mk d2 o2 =>
   rw [hr] at hx
   simp only at hx
   subst hx
   rfl
theorem rowsX_stop {L : List Ent} {l : List ObjT} {i j : Nat} (h1 : (rowsX L l i).2 = none) (h2 : (rowX L (ob l i).f4 (i : Int) j).2 = none) (h3 : symX L (i : Int) (sy (ob l i).f4 j) = none) (hi : i < l.length) (hj : j < (ob l i).f4.length) : ∃ d, rowsX L l l.length = (d, some (i, j)) := by
 have a1 : rowX L (ob l i).f4 (i : Int) (j + 1) = ((rowX L (ob l i).f4 (i : Int) j).1, some j) := by
  show (match rowX L (ob l i).f4 (i : Int) j with | (d, some k) => (d, some k) | (d, none) => _) = _
  cases hq : rowX L (ob l i).f4 (i : Int) j with
  | mk d o =>
   rw [hq] at h2
   simp only at h2
   subst h2
   simp only [h3]
 have a2 := rowX_from _ _ _ _ _ _ a1 ((ob l i).f4.length - (j + 1))
 rw [show j + 1 + ((ob l i).f4.length - (j + 1)) = (ob l i).f4.length by omega] at a2
 have a3 : rowsX L l (i + 1) = ((rowsX L l i).1, some (i, j)) := by
  show (match rowsX L l i with | (d, some k) => (d, some k) | (d, none) => _) = _
  cases hq : rowsX L l i with
  | mk d o =>
   rw [hq] at h1
   simp only at h1
   subst h1
   simp only [a2]
 have a4 := rowsX_from _ _ _ _ _ a3 (l.length - (i + 1))
 rw [show i + 1 + (l.length - (i + 1)) = l.length by omega] at a4
 exact ⟨_, a4⟩
theorem rep_step {α : Type} (A : List (List α)) (n i : Nat) (h : i < n) : A ++ List.replicate (n - i) ([] : List α) = A ++ ([] : List α) :: List.replicate (n - (i + 1)) [] := by
 rw [show n - i = (n - (i + 1)) + 1 by omega, List.replicate_succ]
end Go.Proofs.YtiaohbbafaaibabDoor.P
