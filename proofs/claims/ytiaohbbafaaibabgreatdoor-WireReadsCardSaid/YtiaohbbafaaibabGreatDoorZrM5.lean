/- OWN TEXT and printed parts of this claim, laid together: HWrite, WireD, P10. -/
import Derived.Test.YtiaohbbafaaibabGreatDoorZrM4
import Derived.Lib.SlBytesConst
import Derived.Test.YtiaohbbafaaibabGreatDoorZrM0
/- OWN TEXT: wire.sum and wire.Write, walked: an object's bytes. -/
namespace Go.Proofs.YtiaohbbafaaibabGreatDoor.P
open Go.RowKit Go.Maps Go.Proofs.YtiaohbbafaaibabGreatDoorW.PrintWords Go.Proofs.YtiaohbbafaaibabGreatDoorW.PrintLast Go.Proofs.YtiaohbbafaaibabGreatDoorW.PrintMore Go.Proofs.YtiaohbbafaaibabGreatDoor.Arr Go.Proofs.YtiaohbbafaaibabGreatDoor.MapB
set_option linter.unusedVariables false
set_option linter.unusedSimpArgs false
def sumF (s : Int) (l : List Int) : Int := l.foldl (fun s c => (s * 31 + c) % 4294967296) s
def sumN (l : List Int) : Int := sumF 0 l
theorem sumF_range {s : Int} (h : 0 ≤ s ∧ s < 4294967296) (l : List Int) : 0 ≤ sumF s l ∧ sumF s l < 4294967296 := by
 induction l generalizing s with
 | nil => exact h
 | cons c l ih => exact ih (show 0 ≤ (s * 31 + c) % 4294967296 ∧ (s * 31 + c) % 4294967296 < 4294967296 from by omega)
theorem sumN_range (l : List Int) : 0 ≤ sumN l ∧ sumN l < 4294967296 := sumF_range (by omega) l
theorem sumN_take (l : List Int) (i : Nat) (h : i < l.length) : sumN (l.take (i + 1)) = (sumN (l.take i) * 31 + rd l (i : Int)) % 4294967296 := by
 unfold sumN sumF
 rw [List.take_succ_eq_append_getElem h, List.foldl_append]
 simp only [List.foldl_cons, List.foldl_nil]
 unfold rd
 rw [Int.toNat_natCast, List.getD_eq_getElem?_getD, List.getElem?_eq_getElem h]
 rfl
theorem sum_step {s c : Int} : IntKind.u32.wrap (IntKind.u32.wrap (s * 31) + IntKind.u32.wrap c) = (s * 31 + c) % 4294967296 := by
 rw [IntKind.wrap_u32, IntKind.wrap_u32, IntKind.wrap_u32]
 omega
set_option maxHeartbeats 8000000 in
set_option maxRecDepth 100000 in
theorem sum.calls (A0 : Option Addr) (c0 : Nat) (l : List Int) (w : World) (hr : Kd.C (Kd.int .u8) w A0 l.length l) (hl : l.length ≤ 9223372036854775806) :
  Calls Tryz.prog 29 #[.slice A0 l.length c0] w fun e w' => e = .returned (.int .u32 (sumN l)) ∧ Below w.heap.size w w' := by
 have HR := Aside0.mk hr
 have HL := Aside0.mk hl
 have HB := Aside0.mk (Below.refl w.heap.size w)
 clear hr hl
 go_enter Tryz.func29, Tryz.ntmps29
 go_wp2
 go_loopw [3, 8] (fun u3 u8 wr => ∃ i : Nat, u8 = .int .i64 (i : Int) ∧ i ≤ l.length ∧ u3 = .int .u32 (sumN (l.take i)) ∧ Aside0 (Below w.heap.size w wr)) (fun _ u8 _ => l.length - (intOf u8).toNat)
 case atStart => exact ⟨0, rfl, Nat.zero_le _, rfl, HB⟩
 case round =>
  clear HB
  obtain ⟨i, rfl, hile, rfl, HB⟩ := hrel
  by_cases hlt : i < l.length
  ·
   have p0 : (0 : Int) ≤ (i : Int) := by omega
   have q0 : (i : Int) < (l.length : Int) := by omega
   obtain ⟨ad, e0, h0⟩ := Kd.at_int HR.out (i : Int) p0 q0
   subst e0
   rw [show ((i : Int)).toNat = i by omega] at h0
   replace h0 := pw_cell_below HB.out h0
   have HS := Aside0.mk (sumN_take l i hlt)
   obtain ⟨c, hc⟩ : ∃ c, c = rd l (i : Int) := ⟨_, rfl⟩
   obtain ⟨s, hs⟩ : ∃ s, s = sumN (l.take i) := ⟨_, rfl⟩
   rw [← hc] at h0
   rw [← hs]
   have HSC := Aside0.mk (And.intro hc hs)
   clear hc hs
   have hltb : decide ((i : Int) < (l.length : Int)) = true := decide_eq_true q0
   have HLT := Aside0.mk hlt
   have HWR := Aside0.mk (show wrap64 ((i : Int) + 1) = ((i + 1 : Nat) : Int) by rw [wrap64_id (by have := HL.out; omega) (by have := HL.out; omega)]; rfl)
   replace p0 := eq_true p0
   replace q0 := eq_true q0
   clear hlt hile
   go_wp2
   go_roundw
   case measure => have hq := HLT.out; (try rw [HWR.out]); simp only [intOf]; omega
   case rel => exact ⟨i + 1, by first | rfl | (rw [HWR.out]; done), by have := HLT.out; omega, by rw [HS.out, ← HSC.out.1, ← HSC.out.2]; first | (rw [sum_step]; done) | (simp only [IntKind.wrap_u32]; congr 1; omega) | (congr 1; omega), HB⟩
  ·
   have hi0 : i = l.length := by omega
   subst hi0
   have hltb : decide ((l.length : Int) < (l.length : Int)) = false := by simp
   clear hlt hile
   rw [List.take_length]
   go_wp2
   go_ret
   exact ⟨rfl, HB.out⟩
def mU (x : Int) : Int := x % 18446744073709551616
theorem u64_w (x : Int) : IntKind.u64.wrap x = mU x := IntKind.wrap_u64 x
theorem u64_range (x : Int) : 0 ≤ mU x ∧ mU x < 18446744073709551616 := by unfold mU; omega
def symB (s : Sym) : List Int := beN (s.f0.size : Int) 4 ++ bytesOf s.f0 ++ beN s.f1 4 ++ beN s.f2 4
def relB (r : Rel) : List Int := beN r.f0 4 ++ beN r.f1 4
def headB (nm : ByteArray) (code : List Int) (dat : Int) (data : List Int) (syms : List Sym) (rels : List Rel) : List Int :=
 ((((((((([80, 76, 79, 49] ++ beN (nm.size : Int) 4 ++ bytesOf nm) ++ beN (code.length : Int) 4) ++ code.flatMap fun x => beN x 4) ++ beN dat 4) ++ beN (data.length : Int) 4) ++ data.flatMap fun x => beN (mU x) 8) ++ beN (syms.length : Int) 4) ++ syms.flatMap symB) ++ beN (rels.length : Int) 4) ++ rels.flatMap relB
def writeB (nm : ByteArray) (code : List Int) (dat : Int) (data : List Int) (syms : List Sym) (rels : List Rel) : List Int := headB nm code dat data syms rels ++ beN (sumN (headB nm code dat data syms rels)) 4
theorem headB_long (nm : ByteArray) (code : List Int) (dat : Int) (data : List Int) (syms : List Sym) (rels : List Rel) : 4 < (headB nm code dat data syms rels).length := by
 unfold headB
 simp only [List.length_append, beN_length, List.length_cons, List.length_nil]
 omega
theorem flat_step {α : Type} (f : α → List Int) (P : List Int) (xs : List α) (i : Nat) (h : i < xs.length) : P ++ (xs.take (i + 1)).flatMap f = P ++ (xs.take i).flatMap f ++ f xs[i] := by
 rw [List.take_succ_eq_append_getElem h, List.flatMap_append, List.append_assoc]
 simp
theorem rd_get {l : List Int} {i : Nat} (h : i < l.length) : rd l (i : Int) = l[i] := by
 unfold rd
 rw [Int.toNat_natCast, List.getD_eq_getElem?_getD, List.getElem?_eq_getElem h]
 rfl
theorem sy_getW {l : List Sym} {i : Nat} (h : i < l.length) : rd_T65 l (i : Int) = l[i] := by
 unfold rd_T65
 rw [Int.toNat_natCast, List.getD_eq_getElem?_getD, List.getElem?_eq_getElem h]
 rfl
theorem rl_getW {l : List Rel} {i : Nat} (h : i < l.length) : rd_T82 l (i : Int) = l[i] := by
 unfold rd_T82
 rw [Int.toNat_natCast, List.getD_eq_getElem?_getD, List.getElem?_eq_getElem h]
 rfl
structure WS (w W : World) (g gb : Nat) (ob : Obj) (l : List Int) (N : Nat) : Prop where
  pen : PenIs w W g l
  box : W.heap[gb]? = some ob
  len : l.length ≤ N
  ne : gb ≠ g
  ty : ∀ cs, ob ≠ .cells cs 5 (0, 0)
  lo : 4 ≤ l.length
theorem PenIs.low {w W : World} {g : Nat} {l : List Int} (h : PenIs w W g l) : Below w.heap.size w W := by obtain ⟨v, hv⟩ := h; exact hv.low
theorem WS.below {w W W1 : World} {g gb : Nat} {ob : Obj} {l : List Int} {N : Nat} (h : WS w W g gb ob l N) (hb : Below W.heap.size W W1) : WS w W1 g gb ob l N := ⟨h.pen.below hb, blk_below h.box hb, h.len, h.ne, h.ty, h.lo⟩
theorem WS.step {w W W1 : World} {g gb : Nat} {ob : Obj} {l l1 : List Int} {N N1 : Nat} (h : WS w W g gb ob l N) (hp : PenIs w W1 g l1) (ho : OnlyP g W W1) (hl : l1.length ≤ N1) (h4 : 4 ≤ l1.length) : WS w W1 g gb ob l1 N1 := ⟨hp, ho.blk h.box h.ne h.ty, hl, h.ne, h.ty, h4⟩
theorem WS.four {w W W1 : World} {g gb : Nat} {ob : Obj} {l : List Int} {N : Nat} {x : Int} (h : WS w W g gb ob l N) (hp : PenIs w W1 g (l ++ beN x 4)) (ho : OnlyP g W W1) : WS w W1 g gb ob (l ++ beN x 4) (N + 4) := h.step hp ho (by rw [List.length_append, beN_length]; have := h.len; omega) (by rw [List.length_append]; have := h.lo; omega)
theorem WS.eight {w W W1 : World} {g gb : Nat} {ob : Obj} {l : List Int} {N : Nat} {x : Int} (h : WS w W g gb ob l N) (hp : PenIs w W1 g (l ++ beN x 8)) (ho : OnlyP g W W1) : WS w W1 g gb ob (l ++ beN x 8) (N + 8) := h.step hp ho (by rw [List.length_append, beN_length]; have := h.len; omega) (by rw [List.length_append]; have := h.lo; omega)
theorem WS.text {w W W1 : World} {g gb : Nat} {ob : Obj} {l : List Int} {N : Nat} {s : ByteArray} (h : WS w W g gb ob l N) (hs : s.size ≤ 24) (hp : PenIs w W1 g (l ++ beN (s.size : Int) 4 ++ bytesOf s)) (ho : OnlyP g W W1) : WS w W1 g gb ob (l ++ beN (s.size : Int) 4 ++ bytesOf s) (N + 28) := h.step hp ho (by rw [List.length_append, List.length_append, beN_length, bytesOf_length]; have := h.len; omega) (by rw [List.length_append, List.length_append]; have := h.lo; omega)
theorem PenIs.put {w0 W W1 : World} {g k : Nat} {l : List Int} {cs c1 : Array Value} {e e1 : TypeId} (h : PenIs w0 W g l) (hb : W.heap[k]? = some (.cells cs e (0, 0))) (he : 5 ≠ e) (hp : Put W W1 k c1 e1) (hk : g ≠ k) (hw : w0.heap.size ≤ k) : PenIs w0 W1 g l := by
 obtain ⟨v, hv⟩ := h
 exact ⟨v, hp.below hv.low hw, blk_grown hv.blk (put_grownN hp) (fun e => hk (Option.some.inj e)), hv.own.put hb he hp, hv.base⟩
theorem WS.put {w W W1 : World} {g gb k : Nat} {ob : Obj} {l : List Int} {N : Nat} {cs c1 : Array Value} {e e1 : TypeId} (h : WS w W g gb ob l N) (hb : W.heap[k]? = some (.cells cs e (0, 0))) (he : 5 ≠ e) (hp : Put W W1 k c1 e1) (hk : g < k) (hk2 : gb < k) (hw : w.heap.size ≤ k) : WS w W1 g gb ob l N :=
 ⟨h.pen.put hb he hp (Nat.ne_of_lt hk) hw, blk_grown h.box (put_grownN hp) (fun e => by have := Option.some.inj e; omega), h.len, h.ne, h.ty, h.lo⟩
theorem WS.lt {w W : World} {g gb : Nat} {ob : Obj} {l : List Int} {N : Nat} (h : WS w W g gb ob l N) : g < W.heap.size ∧ gb < W.heap.size ∧ w.heap.size ≤ W.heap.size := by
 obtain ⟨v, hv⟩ := h.pen
 exact ⟨blk_lt hv.blk, blk_lt h.box, hv.low.size⟩
theorem conv_lit (W : World) : (convert 31 31 (.slice (some ⟨W.heap.size, 0, none⟩) 4 4)).run Tryz.prog (W.alloc (.cells #[.int .u8 80, .int .u8 76, .int .u8 79, .int .u8 49] 5)) = .ok (.slice (some ⟨W.heap.size, 0, none⟩) 4 4) (W.alloc (.cells #[.int .u8 80, .int .u8 76, .int .u8 79, .int .u8 49] 5 (4, 5))) := Lib.run_convert_bytes_const W 31 5 #[.int .u8 80, .int .u8 76, .int .u8 79, .int .u8 49] 4 4 Tryz.underlying31 Tryz.underlying5
structure WOk (nm : ByteArray) (code : List Int) (dat : Int) (data : List Int) (syms : List Sym) (rels : List Rel) : Prop where
  hnm : nm.size ≤ 24
  hcode : code.length ≤ 16384
  hwords : ∀ i, i < code.length → 0 ≤ rd code (i : Int) ∧ rd code (i : Int) < 4294967296
  hdat : 0 ≤ dat ∧ dat ≤ 2147483647
  hdata : data.length ≤ 4096
  hsyms : syms.length ≤ 256
  hsym : ∀ i, i < syms.length → (rd_T65 syms (i : Int)).f0.size ≤ 24 ∧ (0 ≤ (rd_T65 syms (i : Int)).f1 ∧ (rd_T65 syms (i : Int)).f1 ≤ 3) ∧ 0 ≤ (rd_T65 syms (i : Int)).f2 ∧ (rd_T65 syms (i : Int)).f2 ≤ 2147483647
  hrels : rels.length ≤ 16384
  hrel : ∀ i, i < rels.length → (0 ≤ (rd_T82 rels (i : Int)).f0 ∧ (rd_T82 rels (i : Int)).f0 ≤ 2147483647) ∧ 0 ≤ (rd_T82 rels (i : Int)).f1 ∧ (rd_T82 rels (i : Int)).f1 ≤ 2147483647
set_option maxHeartbeats 8000000 in
set_option maxRecDepth 100000 in
theorem write_bad.calls (a0_0 : ByteArray) (A0_1 : Option Addr) (c0_1 : Nat) (l0_1 : List Int) (a0_2 : Int) (A0_3 : Option Addr) (c0_3 : Nat) (l0_3 : List Int) (A0_4 : Option Addr) (c0_4 : Nat) (l0_4 : List (S65)) (A0_5 : Option Addr) (c0_5 : Nat) (l0_5 : List (S82)) (w : World) (e n : Int) (hr0_1 : Kd.C (Kd.int .u32) w A0_1 l0_1.length l0_1) (hc0_1 : l0_1.length ≤ c0_1) (hr0_3 : Kd.C (Kd.int .i64) w A0_3 l0_3.length l0_3) (hc0_3 : l0_3.length ≤ c0_3) (hr0_4 : Kd.C k65 w A0_4 l0_4.length l0_4) (hc0_4 : l0_4.length ≤ c0_4) (hr0_5 : Kd.C k82 w A0_5 l0_5.length l0_5) (hc0_5 : l0_5.length ≤ c0_5) (h : object_Check.f a0_0 l0_1 a0_2 l0_3 l0_4 l0_5 = some (e, n)) (he : e ≠ 0) :
  Calls Tryz.prog 8 #[.agg #[.string a0_0, .slice A0_1 l0_1.length c0_1, .int .i64 a0_2, .slice A0_3 l0_3.length c0_3, .slice A0_4 l0_4.length c0_4, .slice A0_5 l0_5.length c0_5]] w fun e_ w' => e_ = .returned (.tuple #[.slice none 0 0, .int .i64 e]) ∧ Below w.heap.size w w' := by
 have hu1 := Tryz.underlying27
 have H := Aside0.mk h
 have HB := Aside0.mk (Below.refl w.heap.size w)
 have hne : (e != 0) = true := bne_iff_ne.mpr he
 have R1 := Aside0.mk (And.intro hr0_1 hc0_1)
 have R3 := Aside0.mk (And.intro hr0_3 hc0_3)
 have R4 := Aside0.mk (And.intro hr0_4 hc0_4)
 have R5 := Aside0.mk (And.intro hr0_5 hc0_5)
 clear h he hr0_1 hc0_1 hr0_3 hc0_3 hr0_4 hc0_4 hr0_5 hc0_5
 go_enter Tryz.func8, Tryz.ntmps8
 go_wp2_with (first | ((with_reducible refine gate_dst (N := 1) rfl ?_); refine box_event ?hg (N := 1) ?hd (cs := #[.string a0_0, .slice A0_1 l0_1.length c0_1, .int .i64 a0_2, .slice A0_3 l0_3.length c0_3, .slice A0_4 l0_4.length c0_4, .slice A0_5 l0_5.length c0_5]) (t := 27) ?hr ?_; (case hd => rfl); (case hg => rfl); (case hr => first | (go_simp; done) | (go_simp; rfl)); intro gb hg_ w1 BK_ hb_; have BO := Aside0.mk (show w1.heap[gb]? = some (objCell a0_0 A0_1 l0_1.length c0_1 a0_2 A0_3 l0_3.length c0_3 A0_4 l0_4.length c0_4 A0_5 l0_5.length c0_5) from BK_); have HBn := Aside0.mk (bsQ hb_ HB.out); have GB := Aside0.mk (gwQ hg_ HB.out); clear HB BK_ hb_ hg_; have HB := HBn; clear HBn; have ha0 := blk_cell BO.out 0; have ha1 := blk_cell BO.out 1; have ha2 := blk_cell BO.out 2; have ha3 := blk_cell BO.out 3; have ha4 := blk_cell BO.out 4; have ha5 := blk_cell BO.out 5) | (go_at_call 25; refine (object_Check.calls _ _ _ _ _ _ _ _ _ _ _ _ _ _ e n _ (Kd.C_below R1.out.1 HB.out) R1.out.2 (Kd.C_below R3.out.1 HB.out) R3.out.2 (Kd.C_below R4.out.1 HB.out) R4.out.2 (Kd.C_below R5.out.1 HB.out) R5.out.2 H.out).mono ?_; rintro e_ w2 ⟨rfl, hb_⟩; replace HB := Aside0.mk (bsQ hb_ HB.out); replace BO := Aside0.mk (blk_below BO.out hb_); clear hb_ ha0 ha1 ha2 ha3 ha4 ha5; have ha0 := blk_cell BO.out 0; have ha1 := blk_cell BO.out 1; have ha2 := blk_cell BO.out 2; have ha3 := blk_cell BO.out 3; have ha4 := blk_cell BO.out 4; have ha5 := blk_cell BO.out 5))
 go_ret2
 exact ⟨rfl, HB.out⟩
set_option maxHeartbeats 60000000 in
set_option maxRecDepth 100000 in
theorem write_ok.calls (a0_0 : ByteArray) (A0_1 : Option Addr) (c0_1 : Nat) (l0_1 : List Int) (a0_2 : Int) (A0_3 : Option Addr) (c0_3 : Nat) (l0_3 : List Int) (A0_4 : Option Addr) (c0_4 : Nat) (l0_4 : List (S65)) (A0_5 : Option Addr) (c0_5 : Nat) (l0_5 : List (S82)) (w : World) (n : Int) (hr0_1 : Kd.C (Kd.int .u32) w A0_1 l0_1.length l0_1) (hc0_1 : l0_1.length ≤ c0_1) (hr0_3 : Kd.C (Kd.int .i64) w A0_3 l0_3.length l0_3) (hc0_3 : l0_3.length ≤ c0_3) (hr0_4 : Kd.C k65 w A0_4 l0_4.length l0_4) (hc0_4 : l0_4.length ≤ c0_4) (hr0_5 : Kd.C k82 w A0_5 l0_5.length l0_5) (hc0_5 : l0_5.length ≤ c0_5) (h : object_Check.f a0_0 l0_1 a0_2 l0_3 l0_4 l0_5 = some (0, n)) (hk : WOk a0_0 l0_1 a0_2 l0_3 l0_4 l0_5) :
  Calls Tryz.prog 8 #[.agg #[.string a0_0, .slice A0_1 l0_1.length c0_1, .int .i64 a0_2, .slice A0_3 l0_3.length c0_3, .slice A0_4 l0_4.length c0_4, .slice A0_5 l0_5.length c0_5]] w fun e_ w' => ∃ v, e_ = .returned (.tuple #[v, .int .i64 0]) ∧ Kd.R (Kd.int .u8) 5 w' w.heap.size (fun _ => True) v (writeB a0_0 l0_1 a0_2 l0_3 l0_4 l0_5) ∧ Below w.heap.size w w' := by
 have hu1 := Tryz.underlying27
 have hu2 := Tryz.underlying75
 have hu3 := Tryz.underlying65
 have hu4 := Tryz.underlying82
 have hcv := conv_lit
 have H := Aside0.mk h
 have K := Aside0.mk hk
 have HB := Aside0.mk (Below.refl w.heap.size w)
 have R1 := Aside0.mk (And.intro hr0_1 hc0_1)
 have R3 := Aside0.mk (And.intro hr0_3 hc0_3)
 have R4 := Aside0.mk (And.intro hr0_4 hc0_4)
 have R5 := Aside0.mk (And.intro hr0_5 hc0_5)
 have KL := Aside0.mk (And.intro hk.hnm (And.intro hk.hcode (And.intro hk.hdata (And.intro hk.hsyms hk.hrels))))
 clear h hk hr0_1 hc0_1 hr0_3 hc0_3 hr0_4 hc0_4 hr0_5 hc0_5
 go_enter Tryz.func8, Tryz.ntmps8
 go_wp2_with (first | ((with_reducible refine gate_dst (N := 1) rfl ?_); refine box_event ?hg (N := 1) ?hd (cs := #[.string a0_0, .slice A0_1 l0_1.length c0_1, .int .i64 a0_2, .slice A0_3 l0_3.length c0_3, .slice A0_4 l0_4.length c0_4, .slice A0_5 l0_5.length c0_5]) (t := 27) ?hr ?_; (case hd => rfl); (case hg => rfl); (case hr => first | (go_simp; done) | (go_simp; rfl)); intro gb hg_ w1 BK_ hb_; have BO := Aside0.mk (show w1.heap[gb]? = some (objCell a0_0 A0_1 l0_1.length c0_1 a0_2 A0_3 l0_3.length c0_3 A0_4 l0_4.length c0_4 A0_5 l0_5.length c0_5) from BK_); have HBn := Aside0.mk (bsQ hb_ HB.out); have GB := Aside0.mk (gwQ hg_ HB.out); clear HB BK_ hb_ hg_; have HB := HBn; clear HBn; have ha0 := blk_cell BO.out 0; have ha1 := blk_cell BO.out 1; have ha2 := blk_cell BO.out 2; have ha3 := blk_cell BO.out 3; have ha4 := blk_cell BO.out 4; have ha5 := blk_cell BO.out 5) | (go_at_call 25; refine (object_Check.calls _ _ _ _ _ _ _ _ _ _ _ _ _ _ 0 n _ (Kd.C_below R1.out.1 HB.out) R1.out.2 (Kd.C_below R3.out.1 HB.out) R3.out.2 (Kd.C_below R4.out.1 HB.out) R4.out.2 (Kd.C_below R5.out.1 HB.out) R5.out.2 H.out).mono ?_; rintro e_ w2 ⟨rfl, hb_⟩; replace HB := Aside0.mk (bsQ hb_ HB.out); replace BO := Aside0.mk (blk_below BO.out hb_); clear hb_ ha0 ha1 ha2 ha3 ha4 ha5; have ha0 := blk_cell BO.out 0; have ha1 := blk_cell BO.out 1; have ha2 := blk_cell BO.out 2; have ha3 := blk_cell BO.out 3; have ha4 := blk_cell BO.out 4; have ha5 := blk_cell BO.out 5) | ((with_reducible refine gate_dst (N := 27) rfl ?_); refine box_event ?hg (N := 27) ?hd (cs := #[.slice (some ⟨w2.heap.size, 0, none⟩) 4 4]) (t := 75) ?hr ?_; (case hd => rfl); (case hg => rfl); (case hr => first | (go_simp; done) | (go_simp; rfl)); intro g hg_ w4 BK_ hb_; have HW := Aside0.mk (show WS w w4 g gb (objCell a0_0 A0_1 l0_1.length c0_1 a0_2 A0_3 l0_3.length c0_3 A0_4 l0_4.length c0_4 A0_5 l0_5.length c0_5) [80, 76, 79, 49] 4 from ⟨⟨_, bs1Q hb_ (below_alloc HB.out _), BK_, .inr ⟨⟨w2.heap.size, rfl, HB.out.size, blk_below (MapKept.heap_alloc w2 _).1 hb_⟩, rfl⟩, gw1Q hg_ (below_alloc HB.out _)⟩, blk_below (blk_below BO.out (below_alloc (Below.refl _ _) _)) hb_, Nat.le_refl _, by rw [hg_]; exact Nat.ne_of_lt (blk_lt (blk_below BO.out (below_alloc (Below.refl _ _) _))), fun cs e_ => (by injection e_ with _ e_ _; exact absurd e_ (by decide)), Nat.le_refl _⟩); clear HB BO BK_ hb_ hg_ ha0 ha1 ha2 ha3 ha4 ha5; have ha0 := blk_cell HW.out.box 0; have ha1 := blk_cell HW.out.box 1; have ha2 := blk_cell HW.out.box 2; have ha3 := blk_cell HW.out.box 3; have ha4 := blk_cell HW.out.box 4; have ha5 := blk_cell HW.out.box 5) | (go_at_call 27; refine (text.calls w _ g _ HW.out.pen a0_0 HW.out.lo (by have := HW.out.len; have := KL.out; (try have hq_ := HLT.out); have := KL.out.1; omega)).mono ?_; rintro e_ w9 ⟨rfl, hp_, ho_⟩; replace HW := Aside0.mk (HW.out.text KL.out.1 hp_ ho_); clear hp_ ho_ ha0 ha1 ha2 ha3 ha4 ha5; have ha0 := blk_cell HW.out.box 0; have ha1 := blk_cell HW.out.box 1; have ha2 := blk_cell HW.out.box 2; have ha3 := blk_cell HW.out.box 3; have ha4 := blk_cell HW.out.box 4; have ha5 := blk_cell HW.out.box 5) | (go_at_call 26; refine (four.calls w _ g _ HW.out.pen (l0_1.length : Int) (by omega) (by have := KL.out; omega) (by have := HW.out.len; have := KL.out; (try have hq_ := HLT.out); omega)).mono ?_; rintro e_ w9 ⟨rfl, hp_, ho_⟩; replace HW := Aside0.mk (HW.out.four hp_ ho_); clear hp_ ho_ ha0 ha1 ha2 ha3 ha4 ha5; have ha0 := blk_cell HW.out.box 0; have ha1 := blk_cell HW.out.box 1; have ha2 := blk_cell HW.out.box 2; have ha3 := blk_cell HW.out.box 3; have ha4 := blk_cell HW.out.box 4; have ha5 := blk_cell HW.out.box 5))
 have HW2 := HW.out
 generalize hP_ : ([80, 76, 79, 49] ++ beN (a0_0.size : Int) 4 ++ bytesOf a0_0 ++ beN (l0_1.length : Int) 4 : List Int) = P1 at HW2
 clear HW ha0 ha1 ha2 ha3 ha4 ha5
 have HW := Aside0.mk HW2
 have HP1 := Aside0.mk hP_
 clear HW2 hP_
 have ha0 := blk_cell HW.out.box 0
 have ha1 := blk_cell HW.out.box 1
 have ha2 := blk_cell HW.out.box 2
 have ha3 := blk_cell HW.out.box 3
 have ha4 := blk_cell HW.out.box 4
 have ha5 := blk_cell HW.out.box 5
 go_loopw [42] (fun u wr => ∃ i : Nat, u = .int .i64 (i : Int) ∧ i ≤ l0_1.length ∧ Aside0 (WS w wr g gb (objCell a0_0 A0_1 l0_1.length c0_1 a0_2 A0_3 l0_3.length c0_3 A0_4 l0_4.length c0_4 A0_5 l0_5.length c0_5) (P1 ++ (l0_1.take i).flatMap (fun x => beN x 4)) (36 + 4 * i))) (fun u _ => l0_1.length - (intOf u).toNat)
 case atStart => exact ⟨0, rfl, Nat.zero_le _, ⟨by simpa using HW.out⟩⟩
 case round =>
  clear HW
  obtain ⟨i, rfl, hile, HW⟩ := hrel
  by_cases hlt : i < l0_1.length
  ·
   have p0 : (0 : Int) ≤ (i : Int) := by omega
   have q0 : (i : Int) < (l0_1.length : Int) := by omega
   obtain ⟨ad, e0, h0⟩ := Kd.at_int R1.out.1 (i : Int) p0 q0
   subst e0
   rw [show ((i : Int)).toNat = i by omega] at h0
   replace h0 := pw_cell_below HW.out.pen.low h0
   have hwd := K.out.hwords i hlt
   rw [rd_get hlt] at h0 hwd
   obtain ⟨x, hx⟩ : ∃ x, ∀ h : i < l0_1.length, x = l0_1[i] := ⟨l0_1[i], fun _ => rfl⟩
   rw [← hx hlt] at h0 hwd
   have HX := Aside0.mk hx
   have HXW := Aside0.mk hwd
   have HI := Aside0.mk (show wrap64 x = x by rw [wrap64_id (by omega) (by omega)])
   clear hx hwd
   have hltb : decide ((i : Int) < (l0_1.length : Int)) = true := decide_eq_true q0
   have HLT := Aside0.mk hlt
   have HWR := Aside0.mk (show wrap64 ((i : Int) + 1) = ((i + 1 : Nat) : Int) by rw [wrap64_id (by have := KL.out; omega) (by have := KL.out; omega)]; rfl)
   replace p0 := eq_true p0
   replace q0 := eq_true q0
   clear hlt hile
   have ha0 := blk_cell HW.out.box 0
   have ha1 := blk_cell HW.out.box 1
   have ha2 := blk_cell HW.out.box 2
   have ha3 := blk_cell HW.out.box 3
   have ha4 := blk_cell HW.out.box 4
   have ha5 := blk_cell HW.out.box 5
   go_wp2_with (first | (go_at_call 26; (try rw [HI.out]); refine (four.calls w _ g _ HW.out.pen x HXW.out.1 (by have := HXW.out; omega) (by have := HW.out.len; have := KL.out; (try have hq_ := HLT.out); omega)).mono ?_; rintro e_ w9 ⟨rfl, hp_, ho_⟩; replace HW := Aside0.mk (HW.out.four hp_ ho_); clear hp_ ho_ ha0 ha1 ha2 ha3 ha4 ha5; have ha0 := blk_cell HW.out.box 0; have ha1 := blk_cell HW.out.box 1; have ha2 := blk_cell HW.out.box 2; have ha3 := blk_cell HW.out.box 3; have ha4 := blk_cell HW.out.box 4; have ha5 := blk_cell HW.out.box 5))
   go_roundw
   case measure => have hq := HLT.out; (try rw [HWR.out]); simp only [intOf]; omega
   case rel => exact ⟨i + 1, by first | rfl | (rw [HWR.out]; done), by have := HLT.out; omega, ⟨by rw [flat_step _ _ _ _ HLT.out]; exact (by rw [← HX.out HLT.out]; exact (show WS _ _ _ _ _ _ _ from ⟨HW.out.pen, HW.out.box, by have := HW.out.len; omega, HW.out.ne, HW.out.ty, HW.out.lo⟩))⟩⟩
  ·
   have hi0 : i = l0_1.length := by omega
   subst hi0
   have hltb : decide ((l0_1.length : Int) < (l0_1.length : Int)) = false := by simp
   clear hlt hile
   have HW2 := HW.out
   rw [List.take_length] at HW2
   clear HW
   have HW := Aside0.mk HW2
   clear HW2
   have ha0 := blk_cell HW.out.box 0
   have ha1 := blk_cell HW.out.box 1
   have ha2 := blk_cell HW.out.box 2
   have ha3 := blk_cell HW.out.box 3
   have ha4 := blk_cell HW.out.box 4
   have ha5 := blk_cell HW.out.box 5
   go_upto_region 14 with ((go_at_call 26; refine (four.calls w _ g _ HW.out.pen a0_2 K.out.hdat.1 (by have := K.out.hdat; omega) (by have := HW.out.len; have := KL.out; (try have hq_ := HLT.out); omega)).mono ?_; rintro e_ w9 ⟨rfl, hp_, ho_⟩; replace HW := Aside0.mk (HW.out.four hp_ ho_); clear hp_ ho_ ha0 ha1 ha2 ha3 ha4 ha5; have ha0 := blk_cell HW.out.box 0; have ha1 := blk_cell HW.out.box 1; have ha2 := blk_cell HW.out.box 2; have ha3 := blk_cell HW.out.box 3; have ha4 := blk_cell HW.out.box 4; have ha5 := blk_cell HW.out.box 5))
   go_wp2_with (first | (go_at_call 26; refine (four.calls w _ g _ HW.out.pen (l0_3.length : Int) (by omega) (by have := KL.out; omega) (by have := HW.out.len; have := KL.out; (try have hq_ := HLT.out); omega)).mono ?_; rintro e_ w9 ⟨rfl, hp_, ho_⟩; replace HW := Aside0.mk (HW.out.four hp_ ho_); clear hp_ ho_ ha0 ha1 ha2 ha3 ha4 ha5; have ha0 := blk_cell HW.out.box 0; have ha1 := blk_cell HW.out.box 1; have ha2 := blk_cell HW.out.box 2; have ha3 := blk_cell HW.out.box 3; have ha4 := blk_cell HW.out.box 4; have ha5 := blk_cell HW.out.box 5))
   have HW2 := HW.out
   generalize hP_ : (P1 ++ (l0_1.flatMap fun x => beN x 4) ++ beN a0_2 4 ++ beN (l0_3.length : Int) 4 : List Int) = P2 at HW2
   clear HW ha0 ha1 ha2 ha3 ha4 ha5
   have HW := Aside0.mk HW2
   have HP2 := Aside0.mk hP_
   clear HW2 hP_
   have HK2 := Aside0.mk (show (36 + 4 * l0_1.length + 4 + 4 : Nat) ≤ 65580 by have := KL.out; omega)
   have HW2 := HW.out
   have HW := Aside0.mk (show WS w _ g gb _ P2 65580 from ⟨HW2.pen, HW2.box, by have := HW2.len; have := HK2.out; omega, HW2.ne, HW2.ty, HW2.lo⟩)
   clear HW2 HK2
   have ha0 := blk_cell HW.out.box 0
   have ha1 := blk_cell HW.out.box 1
   have ha2 := blk_cell HW.out.box 2
   have ha3 := blk_cell HW.out.box 3
   have ha4 := blk_cell HW.out.box 4
   have ha5 := blk_cell HW.out.box 5
   go_loopw [63] (fun u wr => ∃ i : Nat, u = .int .i64 (i : Int) ∧ i ≤ l0_3.length ∧ Aside0 (WS w wr g gb (objCell a0_0 A0_1 l0_1.length c0_1 a0_2 A0_3 l0_3.length c0_3 A0_4 l0_4.length c0_4 A0_5 l0_5.length c0_5) (P2 ++ (l0_3.take i).flatMap (fun x => beN (mU x) 8)) (65580 + 8 * i))) (fun u _ => l0_3.length - (intOf u).toNat)
   case atStart => exact ⟨0, rfl, Nat.zero_le _, ⟨by simpa using HW.out⟩⟩
   case round =>
    clear HW
    obtain ⟨i, rfl, hile, HW⟩ := hrel
    by_cases hlt : i < l0_3.length
    ·
     have p0 : (0 : Int) ≤ (i : Int) := by omega
     have q0 : (i : Int) < (l0_3.length : Int) := by omega
     obtain ⟨ad, e0, h0⟩ := Kd.at_int R3.out.1 (i : Int) p0 q0
     subst e0
     rw [show ((i : Int)).toNat = i by omega] at h0
     replace h0 := pw_cell_below HW.out.pen.low h0
     rw [rd_get hlt] at h0
     obtain ⟨x, hx⟩ : ∃ x, ∀ h : i < l0_3.length, x = l0_3[i] := ⟨l0_3[i], fun _ => rfl⟩
     rw [← hx hlt] at h0
     have HX := Aside0.mk hx
     clear hx
     have hltb : decide ((i : Int) < (l0_3.length : Int)) = true := decide_eq_true q0
     have HLT := Aside0.mk hlt
     have HWR := Aside0.mk (show wrap64 ((i : Int) + 1) = ((i + 1 : Nat) : Int) by rw [wrap64_id (by have := KL.out; omega) (by have := KL.out; omega)]; rfl)
     replace p0 := eq_true p0
     replace q0 := eq_true q0
     clear hlt hile
     have ha0 := blk_cell HW.out.box 0
     have ha1 := blk_cell HW.out.box 1
     have ha2 := blk_cell HW.out.box 2
     have ha3 := blk_cell HW.out.box 3
     have ha4 := blk_cell HW.out.box 4
     have ha5 := blk_cell HW.out.box 5
     go_wp2_with (first | (go_at_call 28; (try rw [u64_w]); refine (number.calls w _ g _ HW.out.pen (mU x) (u64_range x).1 (u64_range x).2 8 (by decide) (by have := HW.out.len; have := KL.out; (try have hq_ := HLT.out); omega)).mono ?_; rintro e_ w9 ⟨rfl, hp_, ho_⟩; replace HW := Aside0.mk (HW.out.eight hp_ ho_); clear hp_ ho_ ha0 ha1 ha2 ha3 ha4 ha5; have ha0 := blk_cell HW.out.box 0; have ha1 := blk_cell HW.out.box 1; have ha2 := blk_cell HW.out.box 2; have ha3 := blk_cell HW.out.box 3; have ha4 := blk_cell HW.out.box 4; have ha5 := blk_cell HW.out.box 5))
     go_roundw
     case measure => have hq := HLT.out; (try rw [HWR.out]); simp only [intOf]; omega
     case rel => exact ⟨i + 1, by first | rfl | (rw [HWR.out]; done), by have := HLT.out; omega, ⟨by rw [flat_step _ _ _ _ HLT.out]; exact (by rw [← HX.out HLT.out]; exact (show WS _ _ _ _ _ _ _ from ⟨HW.out.pen, HW.out.box, by have := HW.out.len; omega, HW.out.ne, HW.out.ty, HW.out.lo⟩))⟩⟩
    ·
     have hi0 : i = l0_3.length := by omega
     subst hi0
     have hltb : decide ((l0_3.length : Int) < (l0_3.length : Int)) = false := by simp
     clear hlt hile
     have HW2 := HW.out
     rw [List.take_length] at HW2
     clear HW
     have HW := Aside0.mk HW2
     clear HW2
     have ha0 := blk_cell HW.out.box 0
     have ha1 := blk_cell HW.out.box 1
     have ha2 := blk_cell HW.out.box 2
     have ha3 := blk_cell HW.out.box 3
     have ha4 := blk_cell HW.out.box 4
     have ha5 := blk_cell HW.out.box 5
     go_wp2_with (first | (go_at_call 26; refine (four.calls w _ g _ HW.out.pen (l0_4.length : Int) (by omega) (by have := KL.out; omega) (by have := HW.out.len; have := KL.out; (try have hq_ := HLT.out); omega)).mono ?_; rintro e_ w9 ⟨rfl, hp_, ho_⟩; replace HW := Aside0.mk (HW.out.four hp_ ho_); clear hp_ ho_ ha0 ha1 ha2 ha3 ha4 ha5; have ha0 := blk_cell HW.out.box 0; have ha1 := blk_cell HW.out.box 1; have ha2 := blk_cell HW.out.box 2; have ha3 := blk_cell HW.out.box 3; have ha4 := blk_cell HW.out.box 4; have ha5 := blk_cell HW.out.box 5))
     have HW2 := HW.out
     generalize hP_ : (P2 ++ (l0_3.flatMap fun x => beN (mU x) 8) ++ beN (l0_4.length : Int) 4 : List Int) = P3 at HW2
     clear HW ha0 ha1 ha2 ha3 ha4 ha5
     have HW := Aside0.mk HW2
     have HP3 := Aside0.mk hP_
     clear HW2 hP_
     have HK2 := Aside0.mk (show (65580 + 8 * l0_3.length + 4 : Nat) ≤ 98400 by have := KL.out; omega)
     have HW2 := HW.out
     have HW := Aside0.mk (show WS w _ g gb _ P3 98400 from ⟨HW2.pen, HW2.box, by have := HW2.len; have := HK2.out; omega, HW2.ne, HW2.ty, HW2.lo⟩)
     clear HW2 HK2
     have ha0 := blk_cell HW.out.box 0
     have ha1 := blk_cell HW.out.box 1
     have ha2 := blk_cell HW.out.box 2
     have ha3 := blk_cell HW.out.box 3
     have ha4 := blk_cell HW.out.box 4
     have ha5 := blk_cell HW.out.box 5
     go_loopw [80] (fun u wr => ∃ i : Nat, u = .int .i64 (i : Int) ∧ i ≤ l0_4.length ∧ Aside0 (WS w wr g gb (objCell a0_0 A0_1 l0_1.length c0_1 a0_2 A0_3 l0_3.length c0_3 A0_4 l0_4.length c0_4 A0_5 l0_5.length c0_5) (P3 ++ (l0_4.take i).flatMap symB) (98400 + 36 * i))) (fun u _ => l0_4.length - (intOf u).toNat)
     case atStart => exact ⟨0, rfl, Nat.zero_le _, ⟨by simpa using HW.out⟩⟩
     case round =>
      clear HW
      obtain ⟨i, rfl, hile, HW⟩ := hrel
      by_cases hlt : i < l0_4.length
      ·
       have p0 : (0 : Int) ≤ (i : Int) := by omega
       have q0 : (i : Int) < (l0_4.length : Int) := by omega
       obtain ⟨ad, e0, h0, h1, h2⟩ := at_T65 R4.out.1 (i : Int) p0 q0
       subst e0
       rw [show ((i : Int)).toNat = i by omega] at h0 h1 h2
       replace h0 := pw_cell_below HW.out.pen.low h0
       replace h1 := pw_cell_below HW.out.pen.low h1
       replace h2 := pw_cell_below HW.out.pen.low h2
       have hsy := K.out.hsym i hlt
       rw [sy_getW hlt] at h0 h1 h2 hsy
       obtain ⟨x, hx⟩ : ∃ x, ∀ h : i < l0_4.length, x = l0_4[i] := ⟨l0_4[i], fun _ => rfl⟩
       rw [← hx hlt] at h0 h1 h2 hsy
       have HX := Aside0.mk hx
       have HXW := Aside0.mk hsy
       clear hx hsy
       obtain ⟨xn, xk, xa⟩ := x
       simp only at h0 h1 h2
       have hxw := HXW.out
       simp only at hxw
       clear HXW
       have HXW := Aside0.mk hxw
       have HI := Aside0.mk (show wrap64 xk = xk by rw [wrap64_id (by omega) (by omega)])
       clear hxw
       have HLG := Aside0.mk HW.out.lt
       have hltb : decide ((i : Int) < (l0_4.length : Int)) = true := decide_eq_true q0
       have HLT := Aside0.mk hlt
       have HWR := Aside0.mk (show wrap64 ((i : Int) + 1) = ((i + 1 : Nat) : Int) by rw [wrap64_id (by have := KL.out; omega) (by have := KL.out; omega)]; rfl)
       replace p0 := eq_true p0
       replace q0 := eq_true q0
       clear hlt hile
       have ha0 := blk_cell HW.out.box 0
       have ha1 := blk_cell HW.out.box 1
       have ha2 := blk_cell HW.out.box 2
       have ha3 := blk_cell HW.out.box 3
       have ha4 := blk_cell HW.out.box 4
       have ha5 := blk_cell HW.out.box 5
       go_wp2_with (first | (go_at_call 27; have HWa := Aside0.mk (HW.out.below (below_alloc (Below.refl wr.heap.size wr) (.cells #[.string xn, .int .i8 xk, .int .i64 xa] 65))); have BS := Aside0.mk (MapKept.heap_alloc wr (.cells #[.string xn, .int .i8 xk, .int .i64 xa] 65)).1; refine (text.calls w _ g _ HWa.out.pen xn HWa.out.lo (by have := HW.out.len; have := KL.out; have := HLT.out; have := HXW.out.1; omega)).mono ?_; rintro e_ w9 ⟨rfl, hp_, ho_⟩; replace HW := Aside0.mk (HWa.out.text HXW.out.1 hp_ ho_); replace BS := Aside0.mk (ho_.blk BS.out (by have := HLG.out; omega) (fun cs e_ => (by injection e_ with _ e_ _; exact absurd e_ (by decide)))); have hs0 := blk_cell BS.out 0; have hs1 := blk_cell BS.out 1; have hs2 := blk_cell BS.out 2; clear HWa hp_ ho_ ha0 ha1 ha2 ha3 ha4 ha5; have ha0 := blk_cell HW.out.box 0; have ha1 := blk_cell HW.out.box 1; have ha2 := blk_cell HW.out.box 2; have ha3 := blk_cell HW.out.box 3; have ha4 := blk_cell HW.out.box 4; have ha5 := blk_cell HW.out.box 5) | (go_at_call 26; (try rw [HI.out]); refine (four.calls w _ g _ HW.out.pen xk HXW.out.2.1.1 (by have := HXW.out.2.1; omega) (by have := HW.out.len; have := KL.out; (try have hq_ := HLT.out); omega)).mono ?_; rintro e_ w9 ⟨rfl, hp_, ho_⟩; replace HW := Aside0.mk (HW.out.four hp_ ho_); clear hs0 hs1 hs2; replace BS := Aside0.mk (ho_.blk BS.out (by have := HLG.out; omega) (fun cs e_ => (by injection e_ with _ e_ _; exact absurd e_ (by decide)))); have hs0 := blk_cell BS.out 0; have hs1 := blk_cell BS.out 1; have hs2 := blk_cell BS.out 2; clear hp_ ho_ ha0 ha1 ha2 ha3 ha4 ha5; have ha0 := blk_cell HW.out.box 0; have ha1 := blk_cell HW.out.box 1; have ha2 := blk_cell HW.out.box 2; have ha3 := blk_cell HW.out.box 3; have ha4 := blk_cell HW.out.box 4; have ha5 := blk_cell HW.out.box 5) | (go_at_call 26; refine (four.calls w _ g _ HW.out.pen xa HXW.out.2.2.1 (by have := HXW.out.2.2; omega) (by have := HW.out.len; have := KL.out; (try have hq_ := HLT.out); omega)).mono ?_; rintro e_ w9 ⟨rfl, hp_, ho_⟩; replace HW := Aside0.mk (HW.out.four hp_ ho_); clear hs0 hs1 hs2; replace BS := Aside0.mk (ho_.blk BS.out (by have := HLG.out; omega) (fun cs e_ => (by injection e_ with _ e_ _; exact absurd e_ (by decide)))); have hs0 := blk_cell BS.out 0; have hs1 := blk_cell BS.out 1; have hs2 := blk_cell BS.out 2; clear hp_ ho_ ha0 ha1 ha2 ha3 ha4 ha5; have ha0 := blk_cell HW.out.box 0; have ha1 := blk_cell HW.out.box 1; have ha2 := blk_cell HW.out.box 2; have ha3 := blk_cell HW.out.box 3; have ha4 := blk_cell HW.out.box 4; have ha5 := blk_cell HW.out.box 5))
       go_roundw
       case measure => have hq := HLT.out; (try rw [HWR.out]); simp only [intOf]; omega
       case rel => exact ⟨i + 1, by first | rfl | (rw [HWR.out]; done), by have := HLT.out; omega, ⟨by rw [flat_step _ _ _ _ HLT.out]; exact (by rw [← HX.out HLT.out]; have h_ := HW.out; simp only [symB, ← List.append_assoc]; exact (show WS _ _ _ _ _ _ _ from ⟨h_.pen, h_.box, by have := h_.len; omega, h_.ne, h_.ty, h_.lo⟩))⟩⟩
      ·
       have hi0 : i = l0_4.length := by omega
       subst hi0
       have hltb : decide ((l0_4.length : Int) < (l0_4.length : Int)) = false := by simp
       clear hlt hile
       have HW2 := HW.out
       rw [List.take_length] at HW2
       clear HW
       have HW := Aside0.mk HW2
       clear HW2
       have ha0 := blk_cell HW.out.box 0
       have ha1 := blk_cell HW.out.box 1
       have ha2 := blk_cell HW.out.box 2
       have ha3 := blk_cell HW.out.box 3
       have ha4 := blk_cell HW.out.box 4
       have ha5 := blk_cell HW.out.box 5
       go_wp2_with (first | (go_at_call 26; refine (four.calls w _ g _ HW.out.pen (l0_5.length : Int) (by omega) (by have := KL.out; omega) (by have := HW.out.len; have := KL.out; (try have hq_ := HLT.out); omega)).mono ?_; rintro e_ w9 ⟨rfl, hp_, ho_⟩; replace HW := Aside0.mk (HW.out.four hp_ ho_); clear hp_ ho_ ha0 ha1 ha2 ha3 ha4 ha5; have ha0 := blk_cell HW.out.box 0; have ha1 := blk_cell HW.out.box 1; have ha2 := blk_cell HW.out.box 2; have ha3 := blk_cell HW.out.box 3; have ha4 := blk_cell HW.out.box 4; have ha5 := blk_cell HW.out.box 5))
       have HW2 := HW.out
       generalize hP_ : (P3 ++ (l0_4.flatMap symB) ++ beN (l0_5.length : Int) 4 : List Int) = P4 at HW2
       clear HW ha0 ha1 ha2 ha3 ha4 ha5
       have HW := Aside0.mk HW2
       have HP4 := Aside0.mk hP_
       clear HW2 hP_
       have HK2 := Aside0.mk (show (98400 + 36 * l0_4.length + 4 : Nat) ≤ 107620 by have := KL.out; omega)
       have HW2 := HW.out
       have HW := Aside0.mk (show WS w _ g gb _ P4 107620 from ⟨HW2.pen, HW2.box, by have := HW2.len; have := HK2.out; omega, HW2.ne, HW2.ty, HW2.lo⟩)
       clear HW2 HK2
       have ha0 := blk_cell HW.out.box 0
       have ha1 := blk_cell HW.out.box 1
       have ha2 := blk_cell HW.out.box 2
       have ha3 := blk_cell HW.out.box 3
       have ha4 := blk_cell HW.out.box 4
       have ha5 := blk_cell HW.out.box 5
       go_loopw [106] (fun u wr => ∃ i : Nat, u = .int .i64 (i : Int) ∧ i ≤ l0_5.length ∧ Aside0 (WS w wr g gb (objCell a0_0 A0_1 l0_1.length c0_1 a0_2 A0_3 l0_3.length c0_3 A0_4 l0_4.length c0_4 A0_5 l0_5.length c0_5) (P4 ++ (l0_5.take i).flatMap relB) (107620 + 8 * i))) (fun u _ => l0_5.length - (intOf u).toNat)
       case atStart => exact ⟨0, rfl, Nat.zero_le _, ⟨by simpa using HW.out⟩⟩
       case round =>
        clear HW
        obtain ⟨i, rfl, hile, HW⟩ := hrel
        by_cases hlt : i < l0_5.length
        ·
         have p0 : (0 : Int) ≤ (i : Int) := by omega
         have q0 : (i : Int) < (l0_5.length : Int) := by omega
         obtain ⟨ad, e0, h0, h1⟩ := at_T82 R5.out.1 (i : Int) p0 q0
         subst e0
         rw [show ((i : Int)).toNat = i by omega] at h0 h1
         replace h0 := pw_cell_below HW.out.pen.low h0
         replace h1 := pw_cell_below HW.out.pen.low h1
         have hsy := K.out.hrel i hlt
         rw [rl_getW hlt] at h0 h1 hsy
         obtain ⟨x, hx⟩ : ∃ x, ∀ h : i < l0_5.length, x = l0_5[i] := ⟨l0_5[i], fun _ => rfl⟩
         rw [← hx hlt] at h0 h1 hsy
         have HX := Aside0.mk hx
         obtain ⟨xo, xs⟩ := x
         simp only at h0 h1 hsy
         have HXW := Aside0.mk hsy
         clear hsy hx
         have HLG := Aside0.mk HW.out.lt
         have hltb : decide ((i : Int) < (l0_5.length : Int)) = true := decide_eq_true q0
         have HLT := Aside0.mk hlt
         have HWR := Aside0.mk (show wrap64 ((i : Int) + 1) = ((i + 1 : Nat) : Int) by rw [wrap64_id (by have := KL.out; omega) (by have := KL.out; omega)]; rfl)
         replace p0 := eq_true p0
         replace q0 := eq_true q0
         clear hlt hile
         have ha0 := blk_cell HW.out.box 0
         have ha1 := blk_cell HW.out.box 1
         have ha2 := blk_cell HW.out.box 2
         have ha3 := blk_cell HW.out.box 3
         have ha4 := blk_cell HW.out.box 4
         have ha5 := blk_cell HW.out.box 5
         go_wp2_with (first | (go_at_call 26; have HWa := Aside0.mk (HW.out.below (below_alloc (Below.refl wr.heap.size wr) (.cells #[.int .i64 xo, .int .i64 xs] 82))); have BS := Aside0.mk (MapKept.heap_alloc wr (.cells #[.int .i64 xo, .int .i64 xs] 82)).1; refine (four.calls w _ g _ HWa.out.pen xo HXW.out.1.1 (by have := HXW.out.1; omega) (by have := HW.out.len; have := KL.out; have := HLT.out; omega)).mono ?_; rintro e_ w9 ⟨rfl, hp_, ho_⟩; replace HW := Aside0.mk (HWa.out.four hp_ ho_); replace BS := Aside0.mk (ho_.blk BS.out (by have := HLG.out; omega) (fun cs e_ => (by injection e_ with _ e_ _; exact absurd e_ (by decide)))); have hs0 := blk_cell BS.out 0; have hs1 := blk_cell BS.out 1; clear HWa hp_ ho_ ha0 ha1 ha2 ha3 ha4 ha5; have ha0 := blk_cell HW.out.box 0; have ha1 := blk_cell HW.out.box 1; have ha2 := blk_cell HW.out.box 2; have ha3 := blk_cell HW.out.box 3; have ha4 := blk_cell HW.out.box 4; have ha5 := blk_cell HW.out.box 5) | (go_at_call 26; refine (four.calls w _ g _ HW.out.pen xs HXW.out.2.1 (by have := HXW.out.2; omega) (by have := HW.out.len; have := KL.out; (try have hq_ := HLT.out); omega)).mono ?_; rintro e_ w9 ⟨rfl, hp_, ho_⟩; replace HW := Aside0.mk (HW.out.four hp_ ho_); clear hs0 hs1; replace BS := Aside0.mk (ho_.blk BS.out (by have := HLG.out; omega) (fun cs e_ => (by injection e_ with _ e_ _; exact absurd e_ (by decide)))); have hs0 := blk_cell BS.out 0; have hs1 := blk_cell BS.out 1; clear hp_ ho_ ha0 ha1 ha2 ha3 ha4 ha5; have ha0 := blk_cell HW.out.box 0; have ha1 := blk_cell HW.out.box 1; have ha2 := blk_cell HW.out.box 2; have ha3 := blk_cell HW.out.box 3; have ha4 := blk_cell HW.out.box 4; have ha5 := blk_cell HW.out.box 5))
         go_roundw
         case measure => have hq := HLT.out; (try rw [HWR.out]); simp only [intOf]; omega
         case rel => exact ⟨i + 1, by first | rfl | (rw [HWR.out]; done), by have := HLT.out; omega, ⟨by rw [flat_step _ _ _ _ HLT.out]; exact (by rw [← HX.out HLT.out]; have h_ := HW.out; simp only [relB, ← List.append_assoc]; exact (show WS _ _ _ _ _ _ _ from ⟨h_.pen, h_.box, by have := h_.len; omega, h_.ne, h_.ty, h_.lo⟩))⟩⟩
        ·
         have hi0 : i = l0_5.length := by omega
         subst hi0
         have hltb : decide ((l0_5.length : Int) < (l0_5.length : Int)) = false := by simp
         clear hlt hile
         have HW2 := HW.out
         rw [List.take_length] at HW2
         clear HW
         have HW := Aside0.mk HW2
         clear HW2
         have ha0 := blk_cell HW.out.box 0
         have ha1 := blk_cell HW.out.box 1
         have ha2 := blk_cell HW.out.box 2
         have ha3 := blk_cell HW.out.box 3
         have ha4 := blk_cell HW.out.box 4
         have ha5 := blk_cell HW.out.box 5
         have HW2 := HW.out
         generalize hP_ : (P4 ++ l0_5.flatMap relB : List Int) = P5 at HW2
         clear HW ha0 ha1 ha2 ha3 ha4 ha5
         have HW := Aside0.mk HW2
         have HP5 := Aside0.mk hP_
         clear HW2 hP_
         have HP := Aside0.mk (show headB a0_0 l0_1 a0_2 l0_3 l0_4 l0_5 = P5 by rw [← HP5.out, ← HP4.out, ← HP3.out, ← HP2.out, ← HP1.out]; unfold headB; simp only [List.append_assoc])
         obtain ⟨⟨v, hv⟩, hbx, hln, hne, hty, hlo⟩ := HW.out
         have HV := Aside0.mk hv
         have HLO := Aside0.mk (show 4 < P5.length by rw [← HP.out]; exact headB_long _ _ _ _ _ _)
         have HRW := Aside0.mk (HV.out.own.R HLO.out)
         have HLN := Aside0.mk (show P5.length ≤ 238692 by have := KL.out; omega)
         obtain ⟨Ao, co, eo⟩ := Kd.R_slice HRW.out
         have HEO := Aside0.mk eo
         clear hv hbx hln hne hty hlo HW
         have hc0 : _ = some (Value.slice Ao P5.length co) := ((blk_cell HV.out.blk 0).trans rfl).trans (by rw [HEO.out]; rfl)
         have HSR := Aside0.mk (sumN_range P5)
         have HSRD : Aside0 (Kd.C (Kd.int .u8) _ Ao P5.length P5) := ⟨by have h := HRW.out; rw [HEO.out] at h; exact (Kd.R_reads' h).2.2⟩
         go_wp2_with (first | (go_at_call 29; refine (sum.calls Ao co P5 _ HSRD.out (by have := HLN.out; omega)).mono ?_; rintro e_ w9 ⟨rfl, hb_⟩; have HV9 := Aside0.mk (HV.out.below hb_); clear hb_) | (go_at_call 26; (try rw [wrap64_id (x := sumN P5) (by have := HSR.out; omega) (by have := HSR.out; omega)]); refine (four.calls w _ g _ ⟨v, HV9.out⟩ (sumN P5) HSR.out.1 (by have := HSR.out; omega) (by have := HLN.out; omega)).mono ?_; rintro e_ w9 ⟨rfl, ⟨v9, hv9⟩, ho_⟩; have HZ := Aside0.mk hv9; have HZR := Aside0.mk (hv9.own.R (by rw [List.length_append]; have := HLO.out; omega)); have hz0 := (blk_cell hv9.blk 0).trans rfl; clear hc0 hv9 ho_))
         try go_ret2
         refine ⟨_, rfl, ?_, HZ.out.low⟩
         unfold writeB
         rw [HP.out]
         exact HZR.out
end Go.Proofs.YtiaohbbafaaibabGreatDoor.P

/- OWN TEXT: the plain reader: what wire.Read answers, over lists. -/
namespace Go.Proofs.YtiaohbbafaaibabGreatDoor.P
open Go.RowKit Go.Maps Go.Proofs.YtiaohbbafaaibabGreatDoorW.PrintWords Go.Proofs.YtiaohbbafaaibabGreatDoorW.PrintLast Go.Proofs.YtiaohbbafaaibabGreatDoorW.PrintMore Go.Proofs.YtiaohbbafaaibabGreatDoor.Arr Go.Proofs.YtiaohbbafaaibabGreatDoor.MapB
set_option linter.unusedVariables false
set_option linter.unusedSimpArgs false
def mag : List Int := [80, 76, 79, 49]
def magicE (l : List Int) : Nat → Option Int
  | 0 => none
  | i + 1 => match magicE l i with
    | some q => some q
    | none => if (i : Int) ≥ (l.length : Int) ∨ rd l (i : Int) ≠ rd mag (i : Int) then some (i : Int) else none
def f1 (l : List Int) (a : RO) : RO := { a with code := a.code ++ [(numR l 4 a.rs).1], rs := (numR l 4 a.rs).2 }
def f2 (l : List Int) (a : RO) : RO := { a with data := a.data ++ [wrap64 (numR l 8 a.rs).1], rs := (numR l 8 a.rs).2 }
def f3 (l : List Int) (a : RO) : RO := { a with syms := a.syms ++ [⟨(textR l a.rs).1, (countR l 3 (textR l a.rs).2).1, (countR l 2147483647 (countR l 3 (textR l a.rs).2).2).1⟩], rs := (countR l 2147483647 (countR l 3 (textR l a.rs).2).2).2 }
def f4 (l : List Int) (a : RO) : RO := { a with rels := a.rels ++ [⟨(countR l 2147483647 a.rs).1, (countR l 2147483647 (countR l 2147483647 a.rs).2).1⟩], rs := (countR l 2147483647 (countR l 2147483647 a.rs).2).2 }
def cntR (l : List Int) (lim : Int) (a : RO) : RO := { a with rs := (countR l lim a.rs).2 }
def ra0 (l : List Int) : RO := ⟨(textR l ⟨4, magicE l 4⟩).1, [], 0, [], [], [], (textR l ⟨4, magicE l 4⟩).2⟩
def ra1 (l : List Int) : RO := eachR (f1 l) RO.rs (countR l 16384 (ra0 l).rs).1.toNat (cntR l 16384 (ra0 l))
def ra2 (l : List Int) : RO := { cntR l 2147483647 (ra1 l) with dat := (countR l 2147483647 (ra1 l).rs).1 }
def ra3 (l : List Int) : RO := eachR (f2 l) RO.rs (countR l 4096 (ra2 l).rs).1.toNat (cntR l 4096 (ra2 l))
def ra4 (l : List Int) : RO := eachR (f3 l) RO.rs (countR l 256 (ra3 l).rs).1.toNat (cntR l 256 (ra3 l))
def ra5 (l : List Int) : RO := eachR (f4 l) RO.rs (countR l ((ra4 l).code.length : Int) (ra4 l).rs).1.toNat (cntR l ((ra4 l).code.length : Int) (ra4 l))
def a6 (l : List Int) : RO := { ra5 l with rs := (numR l 4 (ra5 l).rs).2 }
def endS (l : List Int) : RS := match (a6 l).rs.er with
 | some _ => (a6 l).rs
 | none => if (a6 l).rs.at_ < (l.length : Int) then failsR (a6 l).rs.at_ (a6 l).rs else (a6 l).rs
def chkR (l : List Int) : Int × Int := if (chkO (ra5 l).nm (ra5 l).code (ra5 l).dat (ra5 l).data (ra5 l).syms (ra5 l).rels).1 = 0 then (0, 0) else chkO (ra5 l).nm (ra5 l).code (ra5 l).dat (ra5 l).data (ra5 l).syms (ra5 l).rels
def readC (l : List Int) : Int × Int := match (endS l).er with
 | some x => (27, x)
 | none => if (numR l 4 (ra5 l).rs).1 = sumN (l.take (ra5 l).rs.at_.toNat) then chkR l else (28, (ra5 l).rs.at_)
theorem numR_none {l : List Int} {n : Nat} {s : RS} (h : (numR l n s).2.er = none) : s.er = none ∧ s.at_ + n ≤ (l.length : Int) ∧ (numR l n s).2.at_ = s.at_ + n := by
 unfold numR at h ⊢
 cases hs : s.er with
 | some q => rw [hs] at h; simp only [] at h; rw [hs] at h; cases h
 | none =>
  rw [hs] at h
  simp only [] at h ⊢
  by_cases hlt : (l.length : Int) - s.at_ < n
  ·
   rw [if_pos hlt] at h; cases h
  ·
   rw [if_neg hlt]
   exact ⟨trivial, by omega, rfl⟩
theorem eachR_keep {β : Type} (h : RO → β) (f : RO → RO) (hf : ∀ a, h (f a) = h a) (rs : RO → RS) : ∀ (n : Nat) (a : RO), h (eachR f rs n a) = h a
  | 0, _ => rfl
  | n + 1, a => by
    show h (if (rs a).er.isNone = true then eachR f rs n (f a) else a) = h a
    by_cases hb : (rs a).er.isNone = true
    · rw [if_pos hb, eachR_keep h f hf rs n, hf]
    · rw [if_neg hb]
theorem eachR_len (h : RO → Nat) (f : RO → RO) (hf : ∀ a, h (f a) = h a + 1) (rs : RO → RS) : ∀ (n : Nat) (a : RO), h (eachR f rs n a) ≤ h a + n
  | 0, _ => Nat.le_refl _
  | n + 1, a => by
    show h (if (rs a).er.isNone = true then eachR f rs n (f a) else a) ≤ _
    by_cases hb : (rs a).er.isNone = true
    · rw [if_pos hb]
      have := eachR_len h f hf rs n (f a)
      rw [hf] at this
      omega
    · rw [if_neg hb]
      omega
theorem ra2_data (l : List Int) : (ra2 l).data = [] := by
 show (ra1 l).data = []
 unfold ra1
 rw [eachR_keep RO.data (f1 l) (fun _ => rfl)]
 rfl
theorem ra3_syms (l : List Int) : (ra3 l).syms = [] := by
 unfold ra3
 rw [eachR_keep RO.syms (f2 l) (fun _ => rfl)]
 show (ra1 l).syms = []
 unfold ra1
 rw [eachR_keep RO.syms (f1 l) (fun _ => rfl)]
 rfl
theorem ra4_rels (l : List Int) : (ra4 l).rels = [] := by
 unfold ra4
 rw [eachR_keep RO.rels (f3 l) (fun _ => rfl)]
 show (ra3 l).rels = []
 unfold ra3
 rw [eachR_keep RO.rels (f2 l) (fun _ => rfl)]
 show (ra1 l).rels = []
 unfold ra1
 rw [eachR_keep RO.rels (f1 l) (fun _ => rfl)]
 rfl
theorem ra4_code (l : List Int) (hby : ∀ x ∈ l, 0 ≤ x ∧ x < 256) : (ra4 l).code.length ≤ 16384 := by
 unfold ra4
 rw [eachR_keep RO.code (f3 l) (fun _ => rfl)]
 show (ra3 l).code.length ≤ _
 unfold ra3
 rw [eachR_keep RO.code (f2 l) (fun _ => rfl)]
 show (ra1 l).code.length ≤ _
 have h1 := eachR_len (fun a => a.code.length) (f1 l) (fun a => by show (a.code ++ [_]).length = _; rw [List.length_append]; rfl) RO.rs (countR l 16384 (ra0 l).rs).1.toNat (cntR l 16384 (ra0 l))
 have h2 := countR_range l 16384 (ra0 l).rs hby (by decide)
 have h3 : (cntR l 16384 (ra0 l)).code.length = 0 := rfl
 show (eachR (f1 l) RO.rs (countR l 16384 (ra0 l).rs).1.toNat (cntR l 16384 (ra0 l))).code.length ≤ _
 omega
theorem eachR_all (P : RO → Prop) (f : RO → RO) (hf : ∀ a, P a → P (f a)) (rs : RO → RS) : ∀ (n : Nat) (a : RO), P a → P (eachR f rs n a)
  | 0, _, h => h
  | n + 1, a, h => by
    show P (if (rs a).er.isNone = true then eachR f rs n (f a) else a)
    by_cases hb : (rs a).er.isNone = true
    · rw [if_pos hb]; exact eachR_all P f hf rs n _ (hf a h)
    · rw [if_neg hb]; exact h
theorem ra5_words (l : List Int) (hby : ∀ x ∈ l, 0 ≤ x ∧ x < 256) : wordsO (ra5 l).code = true := by
 unfold ra5
 rw [eachR_keep RO.code (f4 l) (fun _ => rfl)]
 show wordsO (ra4 l).code = true
 unfold ra4
 rw [eachR_keep RO.code (f3 l) (fun _ => rfl)]
 show wordsO (ra3 l).code = true
 unfold ra3
 rw [eachR_keep RO.code (f2 l) (fun _ => rfl)]
 show wordsO (ra1 l).code = true
 unfold ra1
 refine eachR_all (fun a => wordsO a.code = true) (f1 l) (fun a h => ?_) RO.rs _ _ rfl
 show wordsO (a.code ++ [(numR l 4 a.rs).1]) = true
 have h1 := numR_range l 4 a.rs hby
 have h256 : (256 : Int) ^ 4 = 4294967296 := by decide
 rw [h256] at h1
 unfold wordsO at h ⊢
 rw [List.all_append, h, Bool.true_and, List.all_cons, List.all_nil, Bool.and_true, Bool.and_eq_true, decide_eq_true_eq, decide_eq_true_eq]
 omega
end Go.Proofs.YtiaohbbafaaibabGreatDoor.P

/- What the Go functions named below come to, as plain functions, each with its proof; written by this session's prt.py over the kit's print. -/
namespace Go.Proofs.YtiaohbbafaaibabGreatDoor.P
open Go.RowKit Go.Proofs.YtiaohbbafaaibabGreatDoorW.PrintWords Go.Proofs.YtiaohbbafaaibabGreatDoorW.PrintLast Go.Proofs.YtiaohbbafaaibabGreatDoorW.PrintMore
attribute [local go_sem] max2_int min2_int max_two min_two max_three min_three max_four min_four   -- for this text's walks alone
set_option linter.unusedVariables false
set_option linter.unusedSimpArgs false
def pleatref03_letter.f (a0 : Int) : Option (Bool) := if a0 ≥ 97 then (if a0 ≤ 122 then (some true) else (if a0 ≥ 65 then (if a0 ≤ 90 then (some true) else (some (a0 == 95))) else (some (a0 == 95)))) else (if a0 ≥ 65 then (if a0 ≤ 90 then (some true) else (some (a0 == 95))) else (some (a0 == 95)))
set_option maxHeartbeats 8000000 in
set_option maxRecDepth 100000 in
theorem pleatref03_letter.calls (a0 : Int) (r : Bool) (w : World) (h : pleatref03_letter.f a0 = some r) :
  Calls Tryz.prog 117 #[.int .u8 a0] w fun e w' => e = .returned (.bool r) ∧ Drawn0 w w' := by
 have H : (if a0 ≥ 97 then (if a0 ≤ 122 then (some true) else (if a0 ≥ 65 then (if a0 ≤ 90 then (some true) else (some (a0 == 95))) else (some (a0 == 95)))) else (if a0 ≥ 65 then (if a0 ≤ 90 then (some true) else (some (a0 == 95))) else (some (a0 == 95)))) = some r := h
 clear h
 by_cases c2 : a0 ≥ 97
 ·
  rw [if_pos c2] at H
  have c2b0 : decide (97 ≤ a0) = true := decide_eq_true c2
  clear c2
  by_cases c3 : a0 ≤ 122
  ·
   rw [if_pos c3] at H
   have c3b0 : decide (a0 ≤ 122) = true := decide_eq_true c3
   clear c3
   obtain rfl := Option.some.inj H
   go_enter Tryz.func117, Tryz.ntmps117
   go_wp2
   go_ret
   exact ⟨by first | rfl | (simp; done) | (simp [*]; done), by repeat (first | exact Drawn0.refl _ | apply Drawn0.step)⟩
  ·
   rw [if_neg c3] at H
   have c3b0 : decide (a0 ≤ 122) = false := decide_eq_false c3
   clear c3
   by_cases c4 : a0 ≥ 65
   ·
    rw [if_pos c4] at H
    have c4b0 : decide (65 ≤ a0) = true := decide_eq_true c4
    clear c4
    by_cases c5 : a0 ≤ 90
    ·
     rw [if_pos c5] at H
     have c5b0 : decide (a0 ≤ 90) = true := decide_eq_true c5
     clear c5
     obtain rfl := Option.some.inj H
     go_enter Tryz.func117, Tryz.ntmps117
     go_wp2
     go_ret
     exact ⟨by first | rfl | (simp; done) | (simp [*]; done), by repeat (first | exact Drawn0.refl _ | apply Drawn0.step)⟩
    ·
     rw [if_neg c5] at H
     have c5b0 : decide (a0 ≤ 90) = false := decide_eq_false c5
     clear c5
     obtain rfl := Option.some.inj H
     go_enter Tryz.func117, Tryz.ntmps117
     go_wp2
     go_ret
     exact ⟨by first | rfl | (simp; done) | (simp [*]; done), by repeat (first | exact Drawn0.refl _ | apply Drawn0.step)⟩
   ·
    rw [if_neg c4] at H
    have c4b0 : decide (65 ≤ a0) = false := decide_eq_false c4
    clear c4
    obtain rfl := Option.some.inj H
    go_enter Tryz.func117, Tryz.ntmps117
    go_wp2
    go_ret
    exact ⟨by first | rfl | (simp; done) | (simp [*]; done), by repeat (first | exact Drawn0.refl _ | apply Drawn0.step)⟩
 ·
  rw [if_neg c2] at H
  have c2b0 : decide (97 ≤ a0) = false := decide_eq_false c2
  clear c2
  by_cases c6 : a0 ≥ 65
  ·
   rw [if_pos c6] at H
   have c6b0 : decide (65 ≤ a0) = true := decide_eq_true c6
   clear c6
   by_cases c7 : a0 ≤ 90
   ·
    rw [if_pos c7] at H
    have c7b0 : decide (a0 ≤ 90) = true := decide_eq_true c7
    clear c7
    obtain rfl := Option.some.inj H
    go_enter Tryz.func117, Tryz.ntmps117
    go_wp2
    go_ret
    exact ⟨by first | rfl | (simp; done) | (simp [*]; done), by repeat (first | exact Drawn0.refl _ | apply Drawn0.step)⟩
   ·
    rw [if_neg c7] at H
    have c7b0 : decide (a0 ≤ 90) = false := decide_eq_false c7
    clear c7
    obtain rfl := Option.some.inj H
    go_enter Tryz.func117, Tryz.ntmps117
    go_wp2
    go_ret
    exact ⟨by first | rfl | (simp; done) | (simp [*]; done), by repeat (first | exact Drawn0.refl _ | apply Drawn0.step)⟩
  ·
   rw [if_neg c6] at H
   have c6b0 : decide (65 ≤ a0) = false := decide_eq_false c6
   clear c6
   obtain rfl := Option.some.inj H
   go_enter Tryz.func117, Tryz.ntmps117
   go_wp2
   go_ret
   exact ⟨by first | rfl | (simp; done) | (simp [*]; done), by repeat (first | exact Drawn0.refl _ | apply Drawn0.step)⟩


mutual
def pleatref03_Name.j0 : Nat → ByteArray → Bool → Option (Bool)
 | 0, _, _ => none
 | k + 1, x0, x17 => if x17 = true then (some false) else (pleatref03_Name.l0 k x0 1)
def pleatref03_Name.l0 : Nat → ByteArray → Int → Option (Bool)
 | 0, _, _ => none
 | k + 1, x0, x3 => if x3 < (x0.size : Int) then (if 0 ≤ x3 then ((pleatref03_letter.f (bt x0 x3)).bind fun t233 => (if t233 = true then (pleatref03_Name.l0 k x0 (wrap64 (x3 + 1))) else (if (bt x0 x3) ≥ 48 then (if ((bt x0 x3) ≤ 57) then (pleatref03_Name.l0 k x0 (wrap64 (x3 + 1))) else (if (bt x0 x3) = 46 then (pleatref03_Name.l0 k x0 (wrap64 (x3 + 1))) else (some false))) else (if (bt x0 x3) = 46 then (pleatref03_Name.l0 k x0 (wrap64 (x3 + 1))) else (some false))))) else (none)) else (some true)
end
def pleatref03_Name.f (k : Nat) (a0 : ByteArray) : Option (Bool) := if (a0.size : Int) = 0 then (pleatref03_Name.j0 k a0 true) else (if (a0.size : Int) > 24 then (pleatref03_Name.j0 k a0 true) else (if 0 < (a0.size : Int) then ((pleatref03_letter.f (bt a0 0)).bind fun t232 => (pleatref03_Name.j0 k a0 (!t232))) else (none)))
theorem pleatref03_Name.mono_l : ∀ k, (∀ y0 y1, LeO (pleatref03_Name.j0 k y0 y1) (pleatref03_Name.j0 (k + 1) y0 y1)) ∧ (∀ y0 y1, LeO (pleatref03_Name.l0 k y0 y1) (pleatref03_Name.l0 (k + 1) y0 y1))
 | 0 => ⟨fun _ _ r h => by simp [pleatref03_Name.j0] at h, fun _ _ r h => by simp [pleatref03_Name.l0] at h⟩
 | k + 1 => by
  obtain ⟨ih0, ih1⟩ := pleatref03_Name.mono_l k
  refine ⟨?_, ?_⟩
  ·
   intro y0 y1
   unfold pleatref03_Name.j0
   repeat' first
   | (with_reducible first | exact ih0 _ _ | exact ih1 _ _ | exact LeO.refl _ | exact LeO.none _ | refine LeO.ite ?_ ?_ | refine LeO.bind ?_ (fun _ => ?_))
  ·
   intro y0 y1
   unfold pleatref03_Name.l0
   repeat' first
   | (with_reducible first | exact ih0 _ _ | exact ih1 _ _ | exact LeO.refl _ | exact LeO.none _ | refine LeO.ite ?_ ?_ | refine LeO.bind ?_ (fun _ => ?_))
theorem pleatref03_Name.mono : ∀ a0 k, LeO (pleatref03_Name.f k a0) (pleatref03_Name.f (k + 1) a0) := by
 intro a0 k
 obtain ⟨ih0, ih1⟩ := pleatref03_Name.mono_l k
 unfold pleatref03_Name.f
 repeat' first
   | (with_reducible first | exact ih0 _ _ | exact ih1 _ _ | exact LeO.refl _ | exact LeO.none _ | refine LeO.ite ?_ ?_ | refine LeO.bind ?_ (fun _ => ?_))
set_option maxHeartbeats 8000000 in
set_option maxRecDepth 100000 in
theorem pleatref03_Name.calls (k : Nat) (a0 : ByteArray) (r : Bool) (w : World) (h : pleatref03_Name.f k a0 = some r) :
  Calls Tryz.prog 105 #[.string a0] w fun e w' => e = .returned (.bool r) ∧ Drawn0 w w' := by
 have H : (if (a0.size : Int) = 0 then (pleatref03_Name.j0 k a0 true) else (if (a0.size : Int) > 24 then (pleatref03_Name.j0 k a0 true) else (if 0 < (a0.size : Int) then ((pleatref03_letter.f (bt a0 0)).bind fun t232 => (pleatref03_Name.j0 k a0 (!t232))) else (none)))) = some r := h
 clear h
 have HC2 := Aside0.mk H
 clear H
 go_enter Tryz.func105, Tryz.ntmps105
 go_upto_region 1 with (fail)
 go_cut [17] (fun v17 wc => ∃ (kq : Nat) (x17_1 : Bool), v17 = .bool x17_1 ∧ Aside0 (pleatref03_Name.j0 kq a0 x17_1 = some r) ∧ Aside0 (kq ≤ k) ∧ Drawn0 w wc)
 case first =>
  have H := HC2.out
  clear HC2
  by_cases c3 : (a0.size : Int) = 0
  ·
   rw [if_pos c3] at H
   have c3b0 : ((a0.size : Int) == 0) = true := beq_iff_eq.mpr c3
   have c3b1 : ((a0.size : Int) != 0) = false := bne_eq_false_iff_eq.mpr c3
   clear c3
   (first | rw [c3b0] | (simp only [i64_w, i32_w]; rw [c3b0]) | skip)
   have H' := Aside0.mk H
   clear H
   go_wp2
   go_meet
   case rel => exact ⟨_, (true), (by first | rfl | (simp; done) | (simp [*]; done)), H', ⟨by first | omega | exact Nat.le_refl _⟩, by repeat (first | exact Drawn0.refl _ | apply Drawn0.step)⟩
  ·
   rw [if_neg c3] at H
   have c3b0 : ((a0.size : Int) == 0) = false := beq_eq_false_iff_ne.mpr c3
   have c3b1 : ((a0.size : Int) != 0) = true := bne_iff_ne.mpr c3
   (first | rw [c3b0] | (simp only [i64_w, i32_w]; rw [c3b0]) | skip)
   by_cases c4 : (a0.size : Int) > 24
   ·
    rw [if_pos c4] at H
    have c4b0 : decide (24 < (a0.size : Int)) = true := decide_eq_true c4
    have c4b1 : decide (24 < a0.size) = true := decide_eq_true (by omega)
    clear c4
    have H' := Aside0.mk H
    clear H
    go_wp2
    go_meet
    case rel => exact ⟨_, (true), (by first | rfl | (simp; done) | (simp [*]; done)), H', ⟨by first | omega | exact Nat.le_refl _⟩, by repeat (first | exact Drawn0.refl _ | apply Drawn0.step)⟩
   ·
    rw [if_neg c4] at H
    have c4b0 : decide (24 < (a0.size : Int)) = false := decide_eq_false c4
    have c4b1 : decide (24 < a0.size) = false := decide_eq_false (by omega)
    clear c4
    by_cases c5 : 0 < (a0.size : Int)
    ·
     rw [if_pos c5] at H
     have c5b0 : decide (0 < (a0.size : Int)) = true := decide_eq_true c5
     have c5b1 : decide (0 < a0.size) = true := decide_eq_true (by omega)
     clear c5
     replace H := Option.bind_eq_some_iff.mp H
     obtain ⟨t232, A70, H⟩ := H
     try dsimp only at H
     have A7 := Aside0.mk A70
     clear A70
     have H' := Aside0.mk H
     clear H
     have p6 : 0 ≤ (0 : Int) := (by omega)
     have q6 : 0 < a0.size := (by have : (0 : Int) < (a0.size : Int) := of_decide_eq_true ‹_›; omega)
     have hx6 : ∀ h : 0 < a0.size, ((a0[0]'h).toNat : Int) = bt a0 0 := bt_at a0 0
     clear p6
     have qi6 : (0 < (a0.size : Int)) = True := eq_true (of_decide_eq_true ‹_›)
     replace q6 := eq_true q6
     go_wp2_with (first | (go_at_call 117; (with_reducible refine (pleatref03_letter.calls (bt a0 0) t232 _ A7.out).mono ?_); rintro e w' ⟨rfl, ⟨nd, rfl⟩⟩))
     go_meet
     case rel => exact ⟨_, (!t232), (by first | rfl | (simp; done) | (simp [*]; done)), H', ⟨by first | omega | exact Nat.le_refl _⟩, by repeat (first | exact Drawn0.refl _ | apply Drawn0.step)⟩
    ·
     rw [if_neg c5] at H
     exact absurd H (by simp)
 case rest =>
  clear HC2
  try clear c1
  try clear p2
  try clear c3
  try clear c3b0
  try clear c3b1
  try clear c4
  try clear c4b0
  try clear c4b1
  try clear c5
  try clear c5b0
  try clear c5b1
  try clear p6
  try clear q6
  try clear hx6
  try clear qi6
  try clear p6
  try clear q6
  obtain ⟨kq, x17_1, rfl, HA, HJ1, ⟨mc1, rfl⟩⟩ := hcut
  cases kq with
  | zero => exact absurd HA.out (by simp [pleatref03_Name.j0])
  | succ kj1 =>
   have H := HA.out
   clear HA
   simp only [pleatref03_Name.j0] at H
   by_cases c8 : x17_1 = true
   ·
    subst c8
    rw [if_pos rfl] at H
    obtain rfl := Option.some.inj H
    go_wp2
    go_ret
    exact ⟨by first | rfl | (simp; done) | (simp [*]; done), by repeat (first | exact Drawn0.refl _ | apply Drawn0.step)⟩
   ·
    replace c8 := Bool.eq_false_iff.mpr c8
    subst c8
    rw [if_neg Bool.false_ne_true] at H
    have H' := Aside0.mk H
    clear H
    go_wp2
    go_loopg [3] kj1 (fun kq v3 w' => ∃ (x3_2 : Int), v3 = .int .i64 x3_2 ∧ Aside0 (pleatref03_Name.l0 kq a0 x3_2 = some r) ∧ Aside0 (kq ≤ kj1) ∧ Drawn0 w w')
    case atStart => exact ⟨(1), (by first | rfl | (simp; done) | (simp [*]; done)), H', ⟨Nat.le_refl _⟩, by repeat (first | exact Drawn0.refl _ | apply Drawn0.step)⟩
    case round =>
     clear H'
     try clear c1
     try clear p2
     try clear c3
     try clear c3b0
     try clear c3b1
     try clear c4
     try clear c4b0
     try clear c4b1
     try clear c5
     try clear c5b0
     try clear c5b1
     try clear p6
     try clear q6
     try clear hx6
     try clear qi6
     try clear c8
     try clear p2
     try clear p6
     try clear q6
     obtain ⟨x3_2, rfl, HA, HK2, ⟨m2, rfl⟩⟩ := hrel
     cases gk with
     | zero => exact absurd HA.out (by simp [pleatref03_Name.l0])
     | succ k2 =>
      have H := HA.out
      clear HA
      simp only [pleatref03_Name.l0] at H
      by_cases c9 : x3_2 < (a0.size : Int)
      ·
       rw [if_pos c9] at H
       have c9b0 : decide (x3_2 < (a0.size : Int)) = true := decide_eq_true c9
       clear c9
       by_cases c10 : 0 ≤ x3_2
       ·
        rw [if_pos c10] at H
        have c10b0 : decide (0 ≤ x3_2) = true := decide_eq_true c10
        clear c10
        replace H := Option.bind_eq_some_iff.mp H
        obtain ⟨t233, A120, H⟩ := H
        try dsimp only at H
        have A12 := Aside0.mk A120
        clear A120
        by_cases c13 : t233 = true
        ·
         subst c13
         rw [if_pos rfl] at H
         have H' := Aside0.mk H
         clear H
         have p11 : 0 ≤ (x3_2 : Int) := of_decide_eq_true ‹_›
         have q11 : x3_2 < (a0.size : Int) := of_decide_eq_true ‹_›
         have hx11 := bt_at a0 x3_2
         replace p11 := eq_true p11
         replace q11 := eq_true q11
         go_wp2_with (first | ((with_reducible refine gate_callee (f := 117) rfl ?_); refine goesL_ (some 27) rfl rfl Tryz.func117 (by kernel_rfl) rfl #[.int .u8 (bt a0 x3_2)] rfl (by (try simp only [List.map_toArray, List.map_cons, List.map_nil]); try rfl) ?_; (with_reducible refine (pleatref03_letter.calls (bt a0 x3_2) true _ A12.out).mono ?_); rintro e w' ⟨rfl, ⟨nd, rfl⟩⟩; refine ⟨_, rfl, ?_⟩))
         go_roundg k2
         case measure => have := HJ1.out; have := HK2.out; omega
         case rel => exact ⟨(wrap64 (x3_2 + 1)), (by first | rfl | (simp; done) | (simp [*]; done)), H', ⟨by have := HJ1.out; have := HK2.out; omega⟩, by repeat (first | exact Drawn0.refl _ | apply Drawn0.step)⟩
        ·
         replace c13 := Bool.eq_false_iff.mpr c13
         subst c13
         rw [if_neg Bool.false_ne_true] at H
         by_cases c15 : (bt a0 x3_2) ≥ 48
         ·
          rw [if_pos c15] at H
          have c15b0 : decide (48 ≤ (bt a0 x3_2)) = true := decide_eq_true c15
          clear c15
          by_cases c17 : ((bt a0 x3_2) ≤ 57)
          ·
           rw [if_pos c17] at H
           have c17b0 : decide ((bt a0 x3_2) ≤ 57) = true := decide_eq_true c17
           clear c17
           have H' := Aside0.mk H
           clear H
           have p11 : 0 ≤ (x3_2 : Int) := of_decide_eq_true ‹_›
           have q11 : x3_2 < (a0.size : Int) := of_decide_eq_true ‹_›
           have hx11 := bt_at a0 x3_2
           replace p11 := eq_true p11
           replace q11 := eq_true q11
           go_wp2_with (first | ((with_reducible refine gate_callee (f := 117) rfl ?_); refine goesL_ (some 27) rfl rfl Tryz.func117 (by kernel_rfl) rfl #[.int .u8 (bt a0 x3_2)] rfl (by (try simp only [List.map_toArray, List.map_cons, List.map_nil]); try rfl) ?_; (with_reducible refine (pleatref03_letter.calls (bt a0 x3_2) false _ A12.out).mono ?_); rintro e w' ⟨rfl, ⟨nd, rfl⟩⟩; refine ⟨_, rfl, ?_⟩; have p14 : 0 ≤ (x3_2 : Int) := of_decide_eq_true ‹_›; have q14 : x3_2 < (a0.size : Int) := of_decide_eq_true ‹_›; have hx14 := bt_at a0 x3_2; replace p14 := eq_true p14; replace q14 := eq_true q14; have p16 : 0 ≤ (x3_2 : Int) := of_decide_eq_true ‹_›; have q16 : x3_2 < (a0.size : Int) := of_decide_eq_true ‹_›; have hx16 := bt_at a0 x3_2; replace p16 := eq_true p16; replace q16 := eq_true q16))
           go_roundg k2
           case measure => have := HJ1.out; have := HK2.out; omega
           case rel => exact ⟨(wrap64 (x3_2 + 1)), (by first | rfl | (simp; done) | (simp [*]; done)), H', ⟨by have := HJ1.out; have := HK2.out; omega⟩, by repeat (first | exact Drawn0.refl _ | apply Drawn0.step)⟩
          ·
           rw [if_neg c17] at H
           have c17b0 : decide ((bt a0 x3_2) ≤ 57) = false := decide_eq_false c17
           clear c17
           by_cases c19 : (bt a0 x3_2) = 46
           ·
            rw [if_pos c19] at H
            have c19b0 : ((bt a0 x3_2) == 46) = true := beq_iff_eq.mpr c19
            have c19b1 : ((bt a0 x3_2) != 46) = false := bne_eq_false_iff_eq.mpr c19
            clear c19
            have H' := Aside0.mk H
            clear H
            have p11 : 0 ≤ (x3_2 : Int) := of_decide_eq_true ‹_›
            have q11 : x3_2 < (a0.size : Int) := of_decide_eq_true ‹_›
            have hx11 := bt_at a0 x3_2
            replace p11 := eq_true p11
            replace q11 := eq_true q11
            go_wp2_with (first | ((with_reducible refine gate_callee (f := 117) rfl ?_); refine goesL_ (some 27) rfl rfl Tryz.func117 (by kernel_rfl) rfl #[.int .u8 (bt a0 x3_2)] rfl (by (try simp only [List.map_toArray, List.map_cons, List.map_nil]); try rfl) ?_; (with_reducible refine (pleatref03_letter.calls (bt a0 x3_2) false _ A12.out).mono ?_); rintro e w' ⟨rfl, ⟨nd, rfl⟩⟩; refine ⟨_, rfl, ?_⟩; have p14 : 0 ≤ (x3_2 : Int) := of_decide_eq_true ‹_›; have q14 : x3_2 < (a0.size : Int) := of_decide_eq_true ‹_›; have hx14 := bt_at a0 x3_2; replace p14 := eq_true p14; replace q14 := eq_true q14; have p16 : 0 ≤ (x3_2 : Int) := of_decide_eq_true ‹_›; have q16 : x3_2 < (a0.size : Int) := of_decide_eq_true ‹_›; have hx16 := bt_at a0 x3_2; replace p16 := eq_true p16; replace q16 := eq_true q16; have p18 : 0 ≤ (x3_2 : Int) := of_decide_eq_true ‹_›; have q18 : x3_2 < (a0.size : Int) := of_decide_eq_true ‹_›; have hx18 := bt_at a0 x3_2; replace p18 := eq_true p18; replace q18 := eq_true q18))
            go_roundg k2
            case measure => have := HJ1.out; have := HK2.out; omega
            case rel => exact ⟨(wrap64 (x3_2 + 1)), (by first | rfl | (simp; done) | (simp [*]; done)), H', ⟨by have := HJ1.out; have := HK2.out; omega⟩, by repeat (first | exact Drawn0.refl _ | apply Drawn0.step)⟩
           ·
            rw [if_neg c19] at H
            have c19b0 : ((bt a0 x3_2) == 46) = false := beq_eq_false_iff_ne.mpr c19
            have c19b1 : ((bt a0 x3_2) != 46) = true := bne_iff_ne.mpr c19
            obtain rfl := Option.some.inj H
            have p11 : 0 ≤ (x3_2 : Int) := of_decide_eq_true ‹_›
            have q11 : x3_2 < (a0.size : Int) := of_decide_eq_true ‹_›
            have hx11 := bt_at a0 x3_2
            replace p11 := eq_true p11
            replace q11 := eq_true q11
            go_wp2_with (first | ((with_reducible refine gate_callee (f := 117) rfl ?_); refine goesL_ (some 27) rfl rfl Tryz.func117 (by kernel_rfl) rfl #[.int .u8 (bt a0 x3_2)] rfl (by (try simp only [List.map_toArray, List.map_cons, List.map_nil]); try rfl) ?_; (with_reducible refine (pleatref03_letter.calls (bt a0 x3_2) false _ A12.out).mono ?_); rintro e w' ⟨rfl, ⟨nd, rfl⟩⟩; refine ⟨_, rfl, ?_⟩; have p14 : 0 ≤ (x3_2 : Int) := of_decide_eq_true ‹_›; have q14 : x3_2 < (a0.size : Int) := of_decide_eq_true ‹_›; have hx14 := bt_at a0 x3_2; replace p14 := eq_true p14; replace q14 := eq_true q14; have p16 : 0 ≤ (x3_2 : Int) := of_decide_eq_true ‹_›; have q16 : x3_2 < (a0.size : Int) := of_decide_eq_true ‹_›; have hx16 := bt_at a0 x3_2; replace p16 := eq_true p16; replace q16 := eq_true q16; have p18 : 0 ≤ (x3_2 : Int) := of_decide_eq_true ‹_›; have q18 : x3_2 < (a0.size : Int) := of_decide_eq_true ‹_›; have hx18 := bt_at a0 x3_2; replace p18 := eq_true p18; replace q18 := eq_true q18))
            go_ret
            exact ⟨by first | rfl | (simp; done) | (simp [*]; done), by repeat (first | exact Drawn0.refl _ | apply Drawn0.step)⟩
         ·
          rw [if_neg c15] at H
          have c15b0 : decide (48 ≤ (bt a0 x3_2)) = false := decide_eq_false c15
          clear c15
          by_cases c21 : (bt a0 x3_2) = 46
          ·
           rw [if_pos c21] at H
           have c21b0 : ((bt a0 x3_2) == 46) = true := beq_iff_eq.mpr c21
           have c21b1 : ((bt a0 x3_2) != 46) = false := bne_eq_false_iff_eq.mpr c21
           clear c21
           have H' := Aside0.mk H
           clear H
           have p11 : 0 ≤ (x3_2 : Int) := of_decide_eq_true ‹_›
           have q11 : x3_2 < (a0.size : Int) := of_decide_eq_true ‹_›
           have hx11 := bt_at a0 x3_2
           replace p11 := eq_true p11
           replace q11 := eq_true q11
           go_wp2_with (first | ((with_reducible refine gate_callee (f := 117) rfl ?_); refine goesL_ (some 27) rfl rfl Tryz.func117 (by kernel_rfl) rfl #[.int .u8 (bt a0 x3_2)] rfl (by (try simp only [List.map_toArray, List.map_cons, List.map_nil]); try rfl) ?_; (with_reducible refine (pleatref03_letter.calls (bt a0 x3_2) false _ A12.out).mono ?_); rintro e w' ⟨rfl, ⟨nd, rfl⟩⟩; refine ⟨_, rfl, ?_⟩; have p14 : 0 ≤ (x3_2 : Int) := of_decide_eq_true ‹_›; have q14 : x3_2 < (a0.size : Int) := of_decide_eq_true ‹_›; have hx14 := bt_at a0 x3_2; replace p14 := eq_true p14; replace q14 := eq_true q14; have p20 : 0 ≤ (x3_2 : Int) := of_decide_eq_true ‹_›; have q20 : x3_2 < (a0.size : Int) := of_decide_eq_true ‹_›; have hx20 := bt_at a0 x3_2; replace p20 := eq_true p20; replace q20 := eq_true q20))
           go_roundg k2
           case measure => have := HJ1.out; have := HK2.out; omega
           case rel => exact ⟨(wrap64 (x3_2 + 1)), (by first | rfl | (simp; done) | (simp [*]; done)), H', ⟨by have := HJ1.out; have := HK2.out; omega⟩, by repeat (first | exact Drawn0.refl _ | apply Drawn0.step)⟩
          ·
           rw [if_neg c21] at H
           have c21b0 : ((bt a0 x3_2) == 46) = false := beq_eq_false_iff_ne.mpr c21
           have c21b1 : ((bt a0 x3_2) != 46) = true := bne_iff_ne.mpr c21
           obtain rfl := Option.some.inj H
           have p11 : 0 ≤ (x3_2 : Int) := of_decide_eq_true ‹_›
           have q11 : x3_2 < (a0.size : Int) := of_decide_eq_true ‹_›
           have hx11 := bt_at a0 x3_2
           replace p11 := eq_true p11
           replace q11 := eq_true q11
           go_wp2_with (first | ((with_reducible refine gate_callee (f := 117) rfl ?_); refine goesL_ (some 27) rfl rfl Tryz.func117 (by kernel_rfl) rfl #[.int .u8 (bt a0 x3_2)] rfl (by (try simp only [List.map_toArray, List.map_cons, List.map_nil]); try rfl) ?_; (with_reducible refine (pleatref03_letter.calls (bt a0 x3_2) false _ A12.out).mono ?_); rintro e w' ⟨rfl, ⟨nd, rfl⟩⟩; refine ⟨_, rfl, ?_⟩; have p14 : 0 ≤ (x3_2 : Int) := of_decide_eq_true ‹_›; have q14 : x3_2 < (a0.size : Int) := of_decide_eq_true ‹_›; have hx14 := bt_at a0 x3_2; replace p14 := eq_true p14; replace q14 := eq_true q14; have p20 : 0 ≤ (x3_2 : Int) := of_decide_eq_true ‹_›; have q20 : x3_2 < (a0.size : Int) := of_decide_eq_true ‹_›; have hx20 := bt_at a0 x3_2; replace p20 := eq_true p20; replace q20 := eq_true q20))
           go_ret
           exact ⟨by first | rfl | (simp; done) | (simp [*]; done), by repeat (first | exact Drawn0.refl _ | apply Drawn0.step)⟩
       ·
        rw [if_neg c10] at H
        exact absurd H (by simp)
      ·
       rw [if_neg c9] at H
       have c9b0 : decide (x3_2 < (a0.size : Int)) = false := decide_eq_false c9
       clear c9
       obtain rfl := Option.some.inj H
       go_wp2
       go_ret
       exact ⟨by first | rfl | (simp; done) | (simp [*]; done), by repeat (first | exact Drawn0.refl _ | apply Drawn0.step)⟩


def pleatref03_size.f (k : Nat) (a0_0 : ByteArray) (l0_1 : List Int) (a0_2 : Int) (l0_3 : List Int) (l0_4 : List (S65)) (l0_5 : List (S82)) : Option (Int × Int) := (pleatref03_Name.f k a0_0).bind fun t235 => (if t235 = true then (if (l0_1.length : Int) > 16384 then (some (21, (-1))) else (if (l0_4.length : Int) > 256 then (some (21, (-2))) else (if (l0_5.length : Int) > (l0_1.length : Int) then (some (21, (-3))) else (if a0_2 < 0 then (some (25, (-1))) else (if a0_2 > 4096 then (some (25, (-1))) else (if (l0_3.length : Int) > (wrap64 (4096 - a0_2)) then (some (25, (-1))) else (some (0, 0)))))))) else (some (20, (-1))))
theorem pleatref03_size.mono : ∀ a0 a1 a2 a3 a4 a5 k, LeO (pleatref03_size.f k a0 a1 a2 a3 a4 a5) (pleatref03_size.f (k + 1) a0 a1 a2 a3 a4 a5) := by
 intro a0 a1 a2 a3 a4 a5 k
 unfold pleatref03_size.f
 repeat' first
   | (with_reducible first | exact pleatref03_Name.mono _ _ | exact LeO.refl _ | exact LeO.none _ | refine LeO.ite ?_ ?_ | refine LeO.bind ?_ (fun _ => ?_))
set_option maxHeartbeats 8000000 in
set_option maxRecDepth 100000 in
theorem pleatref03_size.calls (k : Nat) (a0_0 : ByteArray) (A0_1 : Option Addr) (c0_1 : Nat) (l0_1 : List Int) (a0_2 : Int) (A0_3 : Option Addr) (c0_3 : Nat) (l0_3 : List Int) (A0_4 : Option Addr) (c0_4 : Nat) (l0_4 : List (S65)) (A0_5 : Option Addr) (c0_5 : Nat) (l0_5 : List (S82)) (r1 : Int) (r2 : Int) (w : World) (hr0_1 : Kd.C (Kd.int .u32) w A0_1 l0_1.length l0_1) (hc0_1 : l0_1.length ≤ c0_1) (hr0_3 : Kd.C (Kd.int .i64) w A0_3 l0_3.length l0_3) (hc0_3 : l0_3.length ≤ c0_3) (hr0_4 : Kd.C k65 w A0_4 l0_4.length l0_4) (hc0_4 : l0_4.length ≤ c0_4) (hr0_5 : Kd.C k82 w A0_5 l0_5.length l0_5) (hc0_5 : l0_5.length ≤ c0_5) (h : pleatref03_size.f k a0_0 l0_1 a0_2 l0_3 l0_4 l0_5 = some (r1, r2)) :
  Calls Tryz.prog 86 #[.agg #[.string a0_0, .slice A0_1 l0_1.length c0_1, .int .i64 a0_2, .slice A0_3 l0_3.length c0_3, .slice A0_4 l0_4.length c0_4, .slice A0_5 l0_5.length c0_5]] w fun e w' => e = .returned (.tuple #[.int .i64 r1, .int .i64 r2]) ∧ Below w.heap.size w w' := by
 have hu27 := Tryz.underlying27
 have HR0_1 := Aside0.mk hr0_1
 have HC0_1 := Aside0.mk hc0_1
 clear hr0_1 hc0_1
 have HR0_3 := Aside0.mk hr0_3
 have HC0_3 := Aside0.mk hc0_3
 clear hr0_3 hc0_3
 have HR0_4 := Aside0.mk hr0_4
 have HC0_4 := Aside0.mk hc0_4
 clear hr0_4 hc0_4
 have HR0_5 := Aside0.mk hr0_5
 have HC0_5 := Aside0.mk hc0_5
 clear hr0_5 hc0_5
 have HB := Aside0.mk (Below.refl w.heap.size w)
 have H : ((pleatref03_Name.f k a0_0).bind fun t235 => (if t235 = true then (if (l0_1.length : Int) > 16384 then (some (21, (-1))) else (if (l0_4.length : Int) > 256 then (some (21, (-2))) else (if (l0_5.length : Int) > (l0_1.length : Int) then (some (21, (-3))) else (if a0_2 < 0 then (some (25, (-1))) else (if a0_2 > 4096 then (some (25, (-1))) else (if (l0_3.length : Int) > (wrap64 (4096 - a0_2)) then (some (25, (-1))) else (some (0, 0)))))))) else (some (20, (-1))))) = some (r1, r2) := h
 clear h
 replace H := Option.bind_eq_some_iff.mp H
 obtain ⟨t235, A20, H⟩ := H
 try dsimp only at H
 have A2 := Aside0.mk A20
 clear A20
 by_cases c3 : t235 = true
 ·
  subst c3
  rw [if_pos rfl] at H
  by_cases c4 : (l0_1.length : Int) > 16384
  ·
   rw [if_pos c4] at H
   have c4b0 : decide (16384 < (l0_1.length : Int)) = true := decide_eq_true c4
   have c4b1 : decide (16384 < l0_1.length) = true := decide_eq_true (by omega)
   clear c4
   simp only [Option.some.injEq, Prod.mk.injEq] at H
   obtain ⟨rfl, rfl⟩ := H
   go_enter Tryz.func86, Tryz.ntmps86
   go_wp2_with (first | ((with_reducible refine gate_dst (N := 1) rfl ?_); (try (refine gate_guard (by rfl) ?_; dsimp only)); refine box_event ?hg (N := 1) ?hd (cs := #[.string a0_0, .slice A0_1 l0_1.length c0_1, .int .i64 a0_2, .slice A0_3 l0_3.length c0_3, .slice A0_4 l0_4.length c0_4, .slice A0_5 l0_5.length c0_5]) (t := 27) ?hr ?_; (case hd => rfl); (case hg => rfl); (case hr => go_simp; try rfl); intro gb234 hg w5 hbox hb; have BK234 := Aside0.mk (hbox); have GW234 := Aside0.mk (gwQ hg HB.out); have GE234 := Aside0.mk (gwQ hg HB.out); replace HB := Aside0.mk (bsQ hb HB.out); clear hb hbox hg; obtain ⟨hcz6_0, hcz6_1, hcz6_2, hcz6_3, hcz6_4, hcz6_5⟩ := bcQ6 BK234.out; obtain ⟨hfz6_0, hfz6_1, hfz6_2, hfz6_3, hfz6_4, hfz6_5⟩ := fzQ6 BK234.out) | ((with_reducible refine gate_callee (f := 105) rfl ?_); refine goesL_ (some 6) rfl rfl Tryz.func105 (by kernel_rfl) rfl #[.string a0_0] rfl (by (try simp only [List.map_toArray, List.map_cons, List.map_nil]); try rfl) ?_; (with_reducible refine (pleatref03_Name.calls k a0_0 true _ A2.out).mono ?_); rintro e w' ⟨rfl, ⟨nd, rfl⟩⟩; refine ⟨_, rfl, ?_⟩))
   go_ret2
   exact ⟨by first | rfl | (simp [errW_none, errW_some] <;> rfl) | (simp [*, errW_none, errW_some] <;> rfl), by repeat with_reducible first | exact HB.out | apply pw_below_drewN | apply below_drew1 | refine below_set ?_ GE234.out⟩
  ·
   rw [if_neg c4] at H
   have c4b0 : decide (16384 < (l0_1.length : Int)) = false := decide_eq_false c4
   have c4b1 : decide (16384 < l0_1.length) = false := decide_eq_false (by omega)
   clear c4
   by_cases c7 : (l0_4.length : Int) > 256
   ·
    rw [if_pos c7] at H
    have c7b0 : decide (256 < (l0_4.length : Int)) = true := decide_eq_true c7
    have c7b1 : decide (256 < l0_4.length) = true := decide_eq_true (by omega)
    clear c7
    simp only [Option.some.injEq, Prod.mk.injEq] at H
    obtain ⟨rfl, rfl⟩ := H
    go_enter Tryz.func86, Tryz.ntmps86
    go_wp2_with (first | ((with_reducible refine gate_dst (N := 1) rfl ?_); (try (refine gate_guard (by rfl) ?_; dsimp only)); refine box_event ?hg (N := 1) ?hd (cs := #[.string a0_0, .slice A0_1 l0_1.length c0_1, .int .i64 a0_2, .slice A0_3 l0_3.length c0_3, .slice A0_4 l0_4.length c0_4, .slice A0_5 l0_5.length c0_5]) (t := 27) ?hr ?_; (case hd => rfl); (case hg => rfl); (case hr => go_simp; try rfl); intro gb234 hg w8 hbox hb; have BK234 := Aside0.mk (hbox); have GW234 := Aside0.mk (gwQ hg HB.out); have GE234 := Aside0.mk (gwQ hg HB.out); replace HB := Aside0.mk (bsQ hb HB.out); clear hb hbox hg; obtain ⟨hcz9_0, hcz9_1, hcz9_2, hcz9_3, hcz9_4, hcz9_5⟩ := bcQ6 BK234.out; obtain ⟨hfz9_0, hfz9_1, hfz9_2, hfz9_3, hfz9_4, hfz9_5⟩ := fzQ6 BK234.out) | ((with_reducible refine gate_callee (f := 105) rfl ?_); refine goesL_ (some 6) rfl rfl Tryz.func105 (by kernel_rfl) rfl #[.string a0_0] rfl (by (try simp only [List.map_toArray, List.map_cons, List.map_nil]); try rfl) ?_; (with_reducible refine (pleatref03_Name.calls k a0_0 true _ A2.out).mono ?_); rintro e w' ⟨rfl, ⟨nd, rfl⟩⟩; refine ⟨_, rfl, ?_⟩))
    go_ret2
    exact ⟨by first | rfl | (simp [errW_none, errW_some] <;> rfl) | (simp [*, errW_none, errW_some] <;> rfl), by repeat with_reducible first | exact HB.out | apply pw_below_drewN | apply below_drew1 | refine below_set ?_ GE234.out⟩
   ·
    rw [if_neg c7] at H
    have c7b0 : decide (256 < (l0_4.length : Int)) = false := decide_eq_false c7
    have c7b1 : decide (256 < l0_4.length) = false := decide_eq_false (by omega)
    clear c7
    by_cases c10 : (l0_5.length : Int) > (l0_1.length : Int)
    ·
     rw [if_pos c10] at H
     have c10b0 : decide ((l0_1.length : Int) < (l0_5.length : Int)) = true := decide_eq_true c10
     have c10b1 : decide (l0_1.length < l0_5.length) = true := decide_eq_true (Int.ofNat_lt.mp c10)
     clear c10
     simp only [Option.some.injEq, Prod.mk.injEq] at H
     obtain ⟨rfl, rfl⟩ := H
     go_enter Tryz.func86, Tryz.ntmps86
     go_wp2_with (first | ((with_reducible refine gate_dst (N := 1) rfl ?_); (try (refine gate_guard (by rfl) ?_; dsimp only)); refine box_event ?hg (N := 1) ?hd (cs := #[.string a0_0, .slice A0_1 l0_1.length c0_1, .int .i64 a0_2, .slice A0_3 l0_3.length c0_3, .slice A0_4 l0_4.length c0_4, .slice A0_5 l0_5.length c0_5]) (t := 27) ?hr ?_; (case hd => rfl); (case hg => rfl); (case hr => go_simp; try rfl); intro gb234 hg w11 hbox hb; have BK234 := Aside0.mk (hbox); have GW234 := Aside0.mk (gwQ hg HB.out); have GE234 := Aside0.mk (gwQ hg HB.out); replace HB := Aside0.mk (bsQ hb HB.out); clear hb hbox hg; obtain ⟨hcz12_0, hcz12_1, hcz12_2, hcz12_3, hcz12_4, hcz12_5⟩ := bcQ6 BK234.out; obtain ⟨hfz12_0, hfz12_1, hfz12_2, hfz12_3, hfz12_4, hfz12_5⟩ := fzQ6 BK234.out) | ((with_reducible refine gate_callee (f := 105) rfl ?_); refine goesL_ (some 6) rfl rfl Tryz.func105 (by kernel_rfl) rfl #[.string a0_0] rfl (by (try simp only [List.map_toArray, List.map_cons, List.map_nil]); try rfl) ?_; (with_reducible refine (pleatref03_Name.calls k a0_0 true _ A2.out).mono ?_); rintro e w' ⟨rfl, ⟨nd, rfl⟩⟩; refine ⟨_, rfl, ?_⟩))
     go_ret2
     exact ⟨by first | rfl | (simp [errW_none, errW_some] <;> rfl) | (simp [*, errW_none, errW_some] <;> rfl), by repeat with_reducible first | exact HB.out | apply pw_below_drewN | apply below_drew1 | refine below_set ?_ GE234.out⟩
    ·
     rw [if_neg c10] at H
     have c10b0 : decide ((l0_1.length : Int) < (l0_5.length : Int)) = false := decide_eq_false c10
     have c10b1 : decide (l0_1.length < l0_5.length) = false := decide_eq_false (fun h => c10 (Int.ofNat_lt.mpr h))
     clear c10
     by_cases c13 : a0_2 < 0
     ·
      rw [if_pos c13] at H
      have c13b0 : decide (a0_2 < 0) = true := decide_eq_true c13
      clear c13
      simp only [Option.some.injEq, Prod.mk.injEq] at H
      obtain ⟨rfl, rfl⟩ := H
      go_enter Tryz.func86, Tryz.ntmps86
      go_wp2_with (first | ((with_reducible refine gate_dst (N := 1) rfl ?_); (try (refine gate_guard (by rfl) ?_; dsimp only)); refine box_event ?hg (N := 1) ?hd (cs := #[.string a0_0, .slice A0_1 l0_1.length c0_1, .int .i64 a0_2, .slice A0_3 l0_3.length c0_3, .slice A0_4 l0_4.length c0_4, .slice A0_5 l0_5.length c0_5]) (t := 27) ?hr ?_; (case hd => rfl); (case hg => rfl); (case hr => go_simp; try rfl); intro gb234 hg w14 hbox hb; have BK234 := Aside0.mk (hbox); have GW234 := Aside0.mk (gwQ hg HB.out); have GE234 := Aside0.mk (gwQ hg HB.out); replace HB := Aside0.mk (bsQ hb HB.out); clear hb hbox hg; obtain ⟨hcz15_0, hcz15_1, hcz15_2, hcz15_3, hcz15_4, hcz15_5⟩ := bcQ6 BK234.out; obtain ⟨hfz15_0, hfz15_1, hfz15_2, hfz15_3, hfz15_4, hfz15_5⟩ := fzQ6 BK234.out) | ((with_reducible refine gate_callee (f := 105) rfl ?_); refine goesL_ (some 6) rfl rfl Tryz.func105 (by kernel_rfl) rfl #[.string a0_0] rfl (by (try simp only [List.map_toArray, List.map_cons, List.map_nil]); try rfl) ?_; (with_reducible refine (pleatref03_Name.calls k a0_0 true _ A2.out).mono ?_); rintro e w' ⟨rfl, ⟨nd, rfl⟩⟩; refine ⟨_, rfl, ?_⟩))
      go_ret2
      exact ⟨by first | rfl | (simp [errW_none, errW_some] <;> rfl) | (simp [*, errW_none, errW_some] <;> rfl), by repeat with_reducible first | exact HB.out | apply pw_below_drewN | apply below_drew1 | refine below_set ?_ GE234.out⟩
     ·
      rw [if_neg c13] at H
      have c13b0 : decide (a0_2 < 0) = false := decide_eq_false c13
      clear c13
      by_cases c16 : a0_2 > 4096
      ·
       rw [if_pos c16] at H
       have c16b0 : decide (4096 < a0_2) = true := decide_eq_true c16
       clear c16
       simp only [Option.some.injEq, Prod.mk.injEq] at H
       obtain ⟨rfl, rfl⟩ := H
       go_enter Tryz.func86, Tryz.ntmps86
       go_wp2_with (first | ((with_reducible refine gate_dst (N := 1) rfl ?_); (try (refine gate_guard (by rfl) ?_; dsimp only)); refine box_event ?hg (N := 1) ?hd (cs := #[.string a0_0, .slice A0_1 l0_1.length c0_1, .int .i64 a0_2, .slice A0_3 l0_3.length c0_3, .slice A0_4 l0_4.length c0_4, .slice A0_5 l0_5.length c0_5]) (t := 27) ?hr ?_; (case hd => rfl); (case hg => rfl); (case hr => go_simp; try rfl); intro gb234 hg w17 hbox hb; have BK234 := Aside0.mk (hbox); have GW234 := Aside0.mk (gwQ hg HB.out); have GE234 := Aside0.mk (gwQ hg HB.out); replace HB := Aside0.mk (bsQ hb HB.out); clear hb hbox hg; obtain ⟨hcz18_0, hcz18_1, hcz18_2, hcz18_3, hcz18_4, hcz18_5⟩ := bcQ6 BK234.out; obtain ⟨hfz18_0, hfz18_1, hfz18_2, hfz18_3, hfz18_4, hfz18_5⟩ := fzQ6 BK234.out) | ((with_reducible refine gate_callee (f := 105) rfl ?_); refine goesL_ (some 6) rfl rfl Tryz.func105 (by kernel_rfl) rfl #[.string a0_0] rfl (by (try simp only [List.map_toArray, List.map_cons, List.map_nil]); try rfl) ?_; (with_reducible refine (pleatref03_Name.calls k a0_0 true _ A2.out).mono ?_); rintro e w' ⟨rfl, ⟨nd, rfl⟩⟩; refine ⟨_, rfl, ?_⟩))
       go_ret2
       exact ⟨by first | rfl | (simp [errW_none, errW_some] <;> rfl) | (simp [*, errW_none, errW_some] <;> rfl), by repeat with_reducible first | exact HB.out | apply pw_below_drewN | apply below_drew1 | refine below_set ?_ GE234.out⟩
      ·
       rw [if_neg c16] at H
       have c16b0 : decide (4096 < a0_2) = false := decide_eq_false c16
       clear c16
       by_cases c19 : (l0_3.length : Int) > (wrap64 (4096 - a0_2))
       ·
        rw [if_pos c19] at H
        have c19b0 : decide ((wrap64 (4096 - a0_2)) < (l0_3.length : Int)) = true := decide_eq_true c19
        clear c19
        simp only [Option.some.injEq, Prod.mk.injEq] at H
        obtain ⟨rfl, rfl⟩ := H
        go_enter Tryz.func86, Tryz.ntmps86
        go_wp2_with (first | ((with_reducible refine gate_dst (N := 1) rfl ?_); (try (refine gate_guard (by rfl) ?_; dsimp only)); refine box_event ?hg (N := 1) ?hd (cs := #[.string a0_0, .slice A0_1 l0_1.length c0_1, .int .i64 a0_2, .slice A0_3 l0_3.length c0_3, .slice A0_4 l0_4.length c0_4, .slice A0_5 l0_5.length c0_5]) (t := 27) ?hr ?_; (case hd => rfl); (case hg => rfl); (case hr => go_simp; try rfl); intro gb234 hg w20 hbox hb; have BK234 := Aside0.mk (hbox); have GW234 := Aside0.mk (gwQ hg HB.out); have GE234 := Aside0.mk (gwQ hg HB.out); replace HB := Aside0.mk (bsQ hb HB.out); clear hb hbox hg; obtain ⟨hcz21_0, hcz21_1, hcz21_2, hcz21_3, hcz21_4, hcz21_5⟩ := bcQ6 BK234.out; obtain ⟨hfz21_0, hfz21_1, hfz21_2, hfz21_3, hfz21_4, hfz21_5⟩ := fzQ6 BK234.out) | ((with_reducible refine gate_callee (f := 105) rfl ?_); refine goesL_ (some 6) rfl rfl Tryz.func105 (by kernel_rfl) rfl #[.string a0_0] rfl (by (try simp only [List.map_toArray, List.map_cons, List.map_nil]); try rfl) ?_; (with_reducible refine (pleatref03_Name.calls k a0_0 true _ A2.out).mono ?_); rintro e w' ⟨rfl, ⟨nd, rfl⟩⟩; refine ⟨_, rfl, ?_⟩))
        go_ret2
        exact ⟨by first | rfl | (simp [errW_none, errW_some] <;> rfl) | (simp [*, errW_none, errW_some] <;> rfl), by repeat with_reducible first | exact HB.out | apply pw_below_drewN | apply below_drew1 | refine below_set ?_ GE234.out⟩
       ·
        rw [if_neg c19] at H
        have c19b0 : decide ((wrap64 (4096 - a0_2)) < (l0_3.length : Int)) = false := decide_eq_false c19
        clear c19
        simp only [Option.some.injEq, Prod.mk.injEq] at H
        obtain ⟨rfl, rfl⟩ := H
        go_enter Tryz.func86, Tryz.ntmps86
        go_wp2_with (first | ((with_reducible refine gate_dst (N := 1) rfl ?_); (try (refine gate_guard (by rfl) ?_; dsimp only)); refine box_event ?hg (N := 1) ?hd (cs := #[.string a0_0, .slice A0_1 l0_1.length c0_1, .int .i64 a0_2, .slice A0_3 l0_3.length c0_3, .slice A0_4 l0_4.length c0_4, .slice A0_5 l0_5.length c0_5]) (t := 27) ?hr ?_; (case hd => rfl); (case hg => rfl); (case hr => go_simp; try rfl); intro gb234 hg w22 hbox hb; have BK234 := Aside0.mk (hbox); have GW234 := Aside0.mk (gwQ hg HB.out); have GE234 := Aside0.mk (gwQ hg HB.out); replace HB := Aside0.mk (bsQ hb HB.out); clear hb hbox hg; obtain ⟨hcz23_0, hcz23_1, hcz23_2, hcz23_3, hcz23_4, hcz23_5⟩ := bcQ6 BK234.out; obtain ⟨hfz23_0, hfz23_1, hfz23_2, hfz23_3, hfz23_4, hfz23_5⟩ := fzQ6 BK234.out) | ((with_reducible refine gate_callee (f := 105) rfl ?_); refine goesL_ (some 6) rfl rfl Tryz.func105 (by kernel_rfl) rfl #[.string a0_0] rfl (by (try simp only [List.map_toArray, List.map_cons, List.map_nil]); try rfl) ?_; (with_reducible refine (pleatref03_Name.calls k a0_0 true _ A2.out).mono ?_); rintro e w' ⟨rfl, ⟨nd, rfl⟩⟩; refine ⟨_, rfl, ?_⟩))
        go_ret2
        exact ⟨by first | rfl | (simp [errW_none, errW_some] <;> rfl) | (simp [*, errW_none, errW_some] <;> rfl), by repeat with_reducible first | exact HB.out | apply pw_below_drewN | apply below_drew1 | refine below_set ?_ GE234.out⟩
 ·
  replace c3 := Bool.eq_false_iff.mpr c3
  subst c3
  rw [if_neg Bool.false_ne_true] at H
  simp only [Option.some.injEq, Prod.mk.injEq] at H
  obtain ⟨rfl, rfl⟩ := H
  go_enter Tryz.func86, Tryz.ntmps86
  go_wp2_with (first | ((with_reducible refine gate_dst (N := 1) rfl ?_); (try (refine gate_guard (by rfl) ?_; dsimp only)); refine box_event ?hg (N := 1) ?hd (cs := #[.string a0_0, .slice A0_1 l0_1.length c0_1, .int .i64 a0_2, .slice A0_3 l0_3.length c0_3, .slice A0_4 l0_4.length c0_4, .slice A0_5 l0_5.length c0_5]) (t := 27) ?hr ?_; (case hd => rfl); (case hg => rfl); (case hr => go_simp; try rfl); intro gb234 hg w24 hbox hb; have BK234 := Aside0.mk (hbox); have GW234 := Aside0.mk (gwQ hg HB.out); have GE234 := Aside0.mk (gwQ hg HB.out); replace HB := Aside0.mk (bsQ hb HB.out); clear hb hbox hg; obtain ⟨hcz25_0, hcz25_1, hcz25_2, hcz25_3, hcz25_4, hcz25_5⟩ := bcQ6 BK234.out; obtain ⟨hfz25_0, hfz25_1, hfz25_2, hfz25_3, hfz25_4, hfz25_5⟩ := fzQ6 BK234.out) | ((with_reducible refine gate_callee (f := 105) rfl ?_); refine goesL_ (some 6) rfl rfl Tryz.func105 (by kernel_rfl) rfl #[.string a0_0] rfl (by (try simp only [List.map_toArray, List.map_cons, List.map_nil]); try rfl) ?_; (with_reducible refine (pleatref03_Name.calls k a0_0 false _ A2.out).mono ?_); rintro e w' ⟨rfl, ⟨nd, rfl⟩⟩; refine ⟨_, rfl, ?_⟩))
  go_ret2
  exact ⟨by first | rfl | (simp [errW_none, errW_some] <;> rfl) | (simp [*, errW_none, errW_some] <;> rfl), by repeat with_reducible first | exact HB.out | apply pw_below_drewN | apply below_drew1 | refine below_set ?_ GE234.out⟩


def pleatref03_Of.l0 : Nat → ByteArray → Int → ByteArray → List Int → Int → List Int → List (S65) → List (S82) → Option (Int)
 | 0, _, _, _, _, _, _, _, _ => none
 | k + 1, x1, x5, x237000, x237001, x237002, x237003, x237004, x237005 => if x5 < (x237004.length : Int) then (if 0 ≤ x5 then (if ((rd_T65 x237004 x5).f0).toList = x1.toList then (some x5) else (pleatref03_Of.l0 k x1 (wrap64 (x5 + 1)) x237000 x237001 x237002 x237003 x237004 x237005)) else (none)) else (some (-1))
def pleatref03_Of.f (k : Nat) (a0_0 : ByteArray) (l0_1 : List Int) (a0_2 : Int) (l0_3 : List Int) (l0_4 : List (S65)) (l0_5 : List (S82)) (a1 : ByteArray) : Option (Int) := pleatref03_Of.l0 k a1 0 a0_0 l0_1 a0_2 l0_3 l0_4 l0_5
theorem pleatref03_Of.mono_l : ∀ k, (∀ y0 y1 y2 y3 y4 y5 y6 y7, LeO (pleatref03_Of.l0 k y0 y1 y2 y3 y4 y5 y6 y7) (pleatref03_Of.l0 (k + 1) y0 y1 y2 y3 y4 y5 y6 y7))
 | 0 => fun _ _ _ _ _ _ _ _ r h => by simp [pleatref03_Of.l0] at h
 | k + 1 => by
  have ih0 := pleatref03_Of.mono_l k
  ·
   intro y0 y1 y2 y3 y4 y5 y6 y7
   unfold pleatref03_Of.l0
   repeat' first
   | (with_reducible first | exact ih0 _ _ _ _ _ _ _ _ | exact LeO.refl _ | exact LeO.none _ | refine LeO.ite ?_ ?_ | refine LeO.bind ?_ (fun _ => ?_))
theorem pleatref03_Of.mono : ∀ a0 a1 a2 a3 a4 a5 a6 k, LeO (pleatref03_Of.f k a0 a1 a2 a3 a4 a5 a6) (pleatref03_Of.f (k + 1) a0 a1 a2 a3 a4 a5 a6) := by
 intro a0 a1 a2 a3 a4 a5 a6 k
 have ih0 := pleatref03_Of.mono_l k
 unfold pleatref03_Of.f
 repeat' first
   | (with_reducible first | exact ih0 _ _ _ _ _ _ _ _ | exact LeO.refl _ | exact LeO.none _ | refine LeO.ite ?_ ?_ | refine LeO.bind ?_ (fun _ => ?_))
set_option maxHeartbeats 8000000 in
set_option maxRecDepth 100000 in
theorem pleatref03_Of.calls (k : Nat) (a0_0 : ByteArray) (A0_1 : Option Addr) (c0_1 : Nat) (l0_1 : List Int) (a0_2 : Int) (A0_3 : Option Addr) (c0_3 : Nat) (l0_3 : List Int) (A0_4 : Option Addr) (c0_4 : Nat) (l0_4 : List (S65)) (A0_5 : Option Addr) (c0_5 : Nat) (l0_5 : List (S82)) (a1 : ByteArray) (r : Int) (w : World) (hr0_1 : Kd.C (Kd.int .u32) w A0_1 l0_1.length l0_1) (hc0_1 : l0_1.length ≤ c0_1) (hr0_3 : Kd.C (Kd.int .i64) w A0_3 l0_3.length l0_3) (hc0_3 : l0_3.length ≤ c0_3) (hr0_4 : Kd.C k65 w A0_4 l0_4.length l0_4) (hc0_4 : l0_4.length ≤ c0_4) (hr0_5 : Kd.C k82 w A0_5 l0_5.length l0_5) (hc0_5 : l0_5.length ≤ c0_5) (h : pleatref03_Of.f k a0_0 l0_1 a0_2 l0_3 l0_4 l0_5 a1 = some r) :
  Calls Tryz.prog 106 #[.agg #[.string a0_0, .slice A0_1 l0_1.length c0_1, .int .i64 a0_2, .slice A0_3 l0_3.length c0_3, .slice A0_4 l0_4.length c0_4, .slice A0_5 l0_5.length c0_5], .string a1] w fun e w' => e = .returned (.int .i64 r) ∧ Below w.heap.size w w' := by
 have hu27 := Tryz.underlying27
 have HR0_1 := Aside0.mk hr0_1
 have HC0_1 := Aside0.mk hc0_1
 clear hr0_1 hc0_1
 have HR0_3 := Aside0.mk hr0_3
 have HC0_3 := Aside0.mk hc0_3
 clear hr0_3 hc0_3
 have HR0_4 := Aside0.mk hr0_4
 have HC0_4 := Aside0.mk hc0_4
 clear hr0_4 hc0_4
 have HR0_5 := Aside0.mk hr0_5
 have HC0_5 := Aside0.mk hc0_5
 clear hr0_5 hc0_5
 have HB := Aside0.mk (Below.refl w.heap.size w)
 have H : (pleatref03_Of.l0 k a1 0 a0_0 l0_1 a0_2 l0_3 l0_4 l0_5) = some r := h
 clear h
 have H' := Aside0.mk H
 clear H
 go_enter Tryz.func106, Tryz.ntmps106
 go_wp2_with (first | ((with_reducible refine gate_dst (N := 2) rfl ?_); refine box_event ?hg (N := 2) ?hd (cs := #[.string a0_0, .slice A0_1 l0_1.length c0_1, .int .i64 a0_2, .slice A0_3 l0_3.length c0_3, .slice A0_4 l0_4.length c0_4, .slice A0_5 l0_5.length c0_5]) (t := 27) ?hr ?_; (case hd => rfl); (case hg => rfl); (case hr => go_simp; try rfl); intro gb236 hg w3 hbox hb; have BK236 := Aside0.mk (hbox); have GW236 := Aside0.mk (gwQ hg HB.out); have GE236 := Aside0.mk (gwQ hg HB.out); replace HB := Aside0.mk (bsQ hb HB.out); clear hb hbox hg))
 go_loopg [5] k (fun kq v5 w' => ∃ (x5_1 : Int), v5 = .int .i64 x5_1 ∧ Aside0 (pleatref03_Of.l0 kq a1 x5_1 a0_0 l0_1 a0_2 l0_3 l0_4 l0_5 = some r) ∧ Aside0 (kq ≤ k) ∧ Aside0 (w'.heap[gb236]? = some (.cells #[.string a0_0, (.slice A0_1 l0_1.length c0_1), .int .i64 a0_2, (.slice A0_3 l0_3.length c0_3), (.slice A0_4 l0_4.length c0_4), (.slice A0_5 l0_5.length c0_5)] 27 (0, 0))) ∧ Aside0 (Below w.heap.size w w'))
 case atStart => exact ⟨(0), (by first | rfl | (simp; done) | (simp [*]; done)), H', ⟨Nat.le_refl _⟩, ⟨by exact BK236.out⟩, ⟨by repeat with_reducible first | exact HB.out | apply pw_below_drewN | apply below_drew1 | refine below_set ?_ GE236.out⟩⟩
 case round =>
  clear H'
  try clear c1
  try clear p2
  obtain ⟨x5_1, rfl, HA, HK1, BK236, HB⟩ := hrel
  cases gk with
  | zero => exact absurd HA.out (by simp [pleatref03_Of.l0])
  | succ k1 =>
   have H := HA.out
   clear HA
   simp only [pleatref03_Of.l0] at H
   by_cases c4 : x5_1 < (l0_4.length : Int)
   ·
    rw [if_pos c4] at H
    have c4b0 : decide (x5_1 < (l0_4.length : Int)) = true := decide_eq_true c4
    clear c4
    by_cases c5 : 0 ≤ x5_1
    ·
     rw [if_pos c5] at H
     have c5b0 : decide (0 ≤ x5_1) = true := decide_eq_true c5
     clear c5
     by_cases c6 : ((rd_T65 l0_4 x5_1).f0).toList = a1.toList
     ·
      rw [if_pos c6] at H
      have c6b0 : (((rd_T65 l0_4 x5_1).f0).toList == a1.toList) = true := beq_iff_eq.mpr c6
      have c6b1 : (((rd_T65 l0_4 x5_1).f0).toList != a1.toList) = false := bne_eq_false_iff_eq.mpr c6
      clear c6
      obtain rfl := Option.some.inj H
      obtain ⟨hcz7_0, hcz7_1, hcz7_2, hcz7_3, hcz7_4, hcz7_5⟩ := bcQ6 BK236.out
      obtain ⟨hfz7_0, hfz7_1, hfz7_2, hfz7_3, hfz7_4, hfz7_5⟩ := fzQ6 BK236.out
      have p237 : 0 ≤ (x5_1 : Int) := of_decide_eq_true ‹_›
      have q237 : x5_1 < (l0_4.length : Int) := of_decide_eq_true ‹_›
      obtain ⟨ad237, e237, hx237_0, hx237_1, hx237_2⟩ := atQ65 HR0_4.out HB.out x5_1 p237 q237
      cases e237
      replace p237 := eq_true p237
      replace q237 := eq_true q237
      go_wp2
      go_ret
      exact ⟨by first | rfl | (simp [errW_none, errW_some] <;> rfl) | (simp [*, errW_none, errW_some] <;> rfl), by repeat with_reducible first | exact HB.out | apply pw_below_drewN | apply below_drew1 | refine below_set ?_ GE236.out⟩
     ·
      rw [if_neg c6] at H
      have c6b0 : (((rd_T65 l0_4 x5_1).f0).toList == a1.toList) = false := beq_eq_false_iff_ne.mpr c6
      have c6b1 : (((rd_T65 l0_4 x5_1).f0).toList != a1.toList) = true := bne_iff_ne.mpr c6
      have H' := Aside0.mk H
      clear H
      obtain ⟨hcz8_0, hcz8_1, hcz8_2, hcz8_3, hcz8_4, hcz8_5⟩ := bcQ6 BK236.out
      obtain ⟨hfz8_0, hfz8_1, hfz8_2, hfz8_3, hfz8_4, hfz8_5⟩ := fzQ6 BK236.out
      have p237 : 0 ≤ (x5_1 : Int) := of_decide_eq_true ‹_›
      have q237 : x5_1 < (l0_4.length : Int) := of_decide_eq_true ‹_›
      obtain ⟨ad237, e237, hx237_0, hx237_1, hx237_2⟩ := atQ65 HR0_4.out HB.out x5_1 p237 q237
      cases e237
      replace p237 := eq_true p237
      replace q237 := eq_true q237
      go_wp2
      go_roundg k1
      case measure => have := HK1.out; omega
      case rel => exact ⟨(wrap64 (x5_1 + 1)), (by first | rfl | (simp; done) | (simp [*]; done)), H', ⟨by have := HK1.out; omega⟩, ⟨by exact BK236.out⟩, ⟨by repeat with_reducible first | exact HB.out | apply pw_below_drewN | apply below_drew1 | refine below_set ?_ GE236.out⟩⟩
    ·
     rw [if_neg c5] at H
     exact absurd H (by simp)
   ·
    rw [if_neg c4] at H
    have c4b0 : decide (x5_1 < (l0_4.length : Int)) = false := decide_eq_false c4
    clear c4
    obtain rfl := Option.some.inj H
    obtain ⟨hcz9_0, hcz9_1, hcz9_2, hcz9_3, hcz9_4, hcz9_5⟩ := bcQ6 BK236.out
    obtain ⟨hfz9_0, hfz9_1, hfz9_2, hfz9_3, hfz9_4, hfz9_5⟩ := fzQ6 BK236.out
    go_wp2
    go_ret
    exact ⟨by first | rfl | (simp [errW_none, errW_some] <;> rfl) | (simp [*, errW_none, errW_some] <;> rfl), by repeat with_reducible first | exact HB.out | apply pw_below_drewN | apply below_drew1 | refine below_set ?_ GE236.out⟩
end Go.Proofs.YtiaohbbafaaibabGreatDoor.P
