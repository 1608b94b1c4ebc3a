/- OWN TEXT and printed parts of this claim, laid together: HWrite, WireD, HAs. -/
import Derived.Test.YtiaohbbafaaibabDoorZwM4
import Derived.Lib.SlBytesConst
import Derived.Test.YtiaohbbafaaibabDoorZwM0
import Derived.WalkKit
import Derived.LaidEql
import Derived.Stop.Asserts
import Derived.RowKitTokens
/- OWN TEXT: wire.sum and wire.Write, walked: an object's bytes. -/
namespace Go.Proofs.YtiaohbbafaaibabDoor.P
open Go.RowKit Go.Maps Go.Proofs.YtiaohbbafaaibabDoorW.PrintWords Go.Proofs.YtiaohbbafaaibabDoorW.PrintLast Go.Proofs.YtiaohbbafaaibabDoorW.PrintMore Go.Proofs.YtiaohbbafaaibabDoor.Arr Go.Proofs.YtiaohbbafaaibabDoor.MapB
set_option linter.unusedVariables false
set_option linter.unusedSimpArgs false
def sumF (s : Int) (l : List Int) : Int := l.foldl (fun s c => (s * 31 + c) % 4294967296) s
def sumN (l : List Int) : Int := sumF 0 l
theorem sumF_range {s : Int} (h : 0 ≤ s ∧ s < 4294967296) (l : List Int) : 0 ≤ sumF s l ∧ sumF s l < 4294967296 := by
  induction l generalizing s with
  | nil => exact h
  | cons c l ih => exact ih (show 0 ≤ (s * 31 + c) % 4294967296 ∧ (s * 31 + c) % 4294967296 < 4294967296 from by omega)
theorem sumN_range (l : List Int) : 0 ≤ sumN l ∧ sumN l < 4294967296 := sumF_range (by omega) l
theorem sumN_take (l : List Int) (i : Nat) (h : i < l.length) : sumN (l.take (i + 1)) = (sumN (l.take i) * 31 + rd l (i : Int)) % 4294967296 := by
  unfold sumN sumF
  rw [List.take_succ_eq_append_getElem h, List.foldl_append]
  simp only [List.foldl_cons, List.foldl_nil]
  unfold rd
  rw [Int.toNat_natCast, List.getD_eq_getElem?_getD, List.getElem?_eq_getElem h]
  rfl
theorem sum_step {s c : Int} : IntKind.u32.wrap (IntKind.u32.wrap (s * 31) + IntKind.u32.wrap c) = (s * 31 + c) % 4294967296 := by
  rw [IntKind.wrap_u32, IntKind.wrap_u32, IntKind.wrap_u32]
  omega
set_option maxHeartbeats 8000000 in
set_option maxRecDepth 100000 in
theorem sum.calls (A0 : Option Addr) (c0 : Nat) (l : List Int) (w : World) (hr : Kd.C (Kd.int .u8) w A0 l.length l) (hl : l.length ≤ 9223372036854775806) :
    Calls Tryd.prog 39 #[.slice A0 l.length c0] w fun e w' => e = .returned (.int .u32 (sumN l)) ∧ Below w.heap.size w w' := by
  have HR := Aside0.mk hr
  have HL := Aside0.mk hl
  have HB := Aside0.mk (Below.refl w.heap.size w)
  clear hr hl
  go_enter Tryd.func39, Tryd.ntmps39
  go_wp2
  go_loopw [3, 8] (fun u3 u8 wr => ∃ i : Nat, u8 = .int .i64 (i : Int) ∧ i ≤ l.length ∧ u3 = .int .u32 (sumN (l.take i)) ∧ Aside0 (Below w.heap.size w wr)) (fun _ u8 _ => l.length - (intOf u8).toNat)
  case atStart => exact ⟨0, rfl, Nat.zero_le _, rfl, HB⟩
  case round =>
    clear HB
    obtain ⟨i, rfl, hile, rfl, HB⟩ := hrel
    by_cases hlt : i < l.length
    · have p0 : (0 : Int) ≤ (i : Int) := by omega
      have q0 : (i : Int) < (l.length : Int) := by omega
      obtain ⟨ad, e0, h0⟩ := Kd.at_int HR.out (i : Int) p0 q0
      subst e0
      rw [show ((i : Int)).toNat = i by omega] at h0
      replace h0 := pw_cell_below HB.out h0
      have HS := Aside0.mk (sumN_take l i hlt)
      obtain ⟨c, hc⟩ : ∃ c, c = rd l (i : Int) := ⟨_, rfl⟩
      obtain ⟨s, hs⟩ : ∃ s, s = sumN (l.take i) := ⟨_, rfl⟩
      rw [← hc] at h0
      rw [← hs]
      have HSC := Aside0.mk (And.intro hc hs)
      clear hc hs
      have hltb : decide ((i : Int) < (l.length : Int)) = true := decide_eq_true q0
      have HLT := Aside0.mk hlt
      have HWR := Aside0.mk (show wrap64 ((i : Int) + 1) = ((i + 1 : Nat) : Int) by rw [wrap64_id (by have := HL.out; omega) (by have := HL.out; omega)]; rfl)
      replace p0 := eq_true p0
      replace q0 := eq_true q0
      clear hlt hile
      go_wp2
      go_roundw
      case measure => have hq := HLT.out; (try rw [HWR.out]); simp only [intOf]; omega
      case rel => exact ⟨i + 1, by first | rfl | (rw [HWR.out]; done), by have := HLT.out; omega, by rw [HS.out, ← HSC.out.1, ← HSC.out.2]; first | (rw [sum_step]; done) | (simp only [IntKind.wrap_u32]; congr 1; omega) | (congr 1; omega), HB⟩
    · have hi0 : i = l.length := by omega
      subst hi0
      have hltb : decide ((l.length : Int) < (l.length : Int)) = false := by simp
      clear hlt hile
      rw [List.take_length]
      go_wp2
      go_ret
      exact ⟨rfl, HB.out⟩
def mU (x : Int) : Int := x % 18446744073709551616
theorem u64_w (x : Int) : IntKind.u64.wrap x = mU x := IntKind.wrap_u64 x
theorem u64_range (x : Int) : 0 ≤ mU x ∧ mU x < 18446744073709551616 := by unfold mU; omega
def symB (s : Sym) : List Int := beN (s.f0.size : Int) 4 ++ bytesOf s.f0 ++ beN s.f1 4 ++ beN s.f2 4
def relB (r : Rel) : List Int := beN r.f0 4 ++ beN r.f1 4
def headB (nm : ByteArray) (code : List Int) (dat : Int) (data : List Int) (syms : List Sym) (rels : List Rel) : List Int :=
  ((((((((([80, 76, 79, 49] ++ beN (nm.size : Int) 4 ++ bytesOf nm) ++ beN (code.length : Int) 4) ++ code.flatMap fun x => beN x 4) ++ beN dat 4) ++ beN (data.length : Int) 4) ++ data.flatMap fun x => beN (mU x) 8) ++ beN (syms.length : Int) 4) ++ syms.flatMap symB) ++ beN (rels.length : Int) 4) ++ rels.flatMap relB
def writeB (nm : ByteArray) (code : List Int) (dat : Int) (data : List Int) (syms : List Sym) (rels : List Rel) : List Int := headB nm code dat data syms rels ++ beN (sumN (headB nm code dat data syms rels)) 4
theorem headB_long (nm : ByteArray) (code : List Int) (dat : Int) (data : List Int) (syms : List Sym) (rels : List Rel) : 4 < (headB nm code dat data syms rels).length := by
  unfold headB
  simp only [List.length_append, beN_length, List.length_cons, List.length_nil]
  omega
theorem flat_step {α : Type} (f : α → List Int) (P : List Int) (xs : List α) (i : Nat) (h : i < xs.length) : P ++ (xs.take (i + 1)).flatMap f = P ++ (xs.take i).flatMap f ++ f xs[i] := by
  rw [List.take_succ_eq_append_getElem h, List.flatMap_append, List.append_assoc]
  simp
theorem rd_get {l : List Int} {i : Nat} (h : i < l.length) : rd l (i : Int) = l[i] := by
  unfold rd
  rw [Int.toNat_natCast, List.getD_eq_getElem?_getD, List.getElem?_eq_getElem h]
  rfl
theorem sy_getW {l : List Sym} {i : Nat} (h : i < l.length) : rd_T75 l (i : Int) = l[i] := by
  unfold rd_T75
  rw [Int.toNat_natCast, List.getD_eq_getElem?_getD, List.getElem?_eq_getElem h]
  rfl
theorem rl_getW {l : List Rel} {i : Nat} (h : i < l.length) : rd_T68 l (i : Int) = l[i] := by
  unfold rd_T68
  rw [Int.toNat_natCast, List.getD_eq_getElem?_getD, List.getElem?_eq_getElem h]
  rfl
/-- what is held while an object is written: the pen's bytes, at most N; the object's own box. -/
structure WS (w W : World) (g gb : Nat) (ob : Obj) (l : List Int) (N : Nat) : Prop where
  pen : PenIs w W g l
  box : W.heap[gb]? = some ob
  len : l.length ≤ N
  ne : gb ≠ g
  ty : ∀ cs, ob ≠ .cells cs 5 (0, 0)
  lo : 4 ≤ l.length
theorem PenIs.low {w W : World} {g : Nat} {l : List Int} (h : PenIs w W g l) : Below w.heap.size w W := by obtain ⟨v, hv⟩ := h; exact hv.low
theorem WS.below {w W W1 : World} {g gb : Nat} {ob : Obj} {l : List Int} {N : Nat} (h : WS w W g gb ob l N) (hb : Below W.heap.size W W1) : WS w W1 g gb ob l N := ⟨h.pen.below hb, blk_below h.box hb, h.len, h.ne, h.ty, h.lo⟩
theorem WS.step {w W W1 : World} {g gb : Nat} {ob : Obj} {l l1 : List Int} {N N1 : Nat} (h : WS w W g gb ob l N) (hp : PenIs w W1 g l1) (ho : OnlyP g W W1) (hl : l1.length ≤ N1) (h4 : 4 ≤ l1.length) : WS w W1 g gb ob l1 N1 := ⟨hp, ho.blk h.box h.ne h.ty, hl, h.ne, h.ty, h4⟩
theorem WS.four {w W W1 : World} {g gb : Nat} {ob : Obj} {l : List Int} {N : Nat} {x : Int} (h : WS w W g gb ob l N) (hp : PenIs w W1 g (l ++ beN x 4)) (ho : OnlyP g W W1) : WS w W1 g gb ob (l ++ beN x 4) (N + 4) := h.step hp ho (by rw [List.length_append, beN_length]; have := h.len; omega) (by rw [List.length_append]; have := h.lo; omega)
theorem WS.eight {w W W1 : World} {g gb : Nat} {ob : Obj} {l : List Int} {N : Nat} {x : Int} (h : WS w W g gb ob l N) (hp : PenIs w W1 g (l ++ beN x 8)) (ho : OnlyP g W W1) : WS w W1 g gb ob (l ++ beN x 8) (N + 8) := h.step hp ho (by rw [List.length_append, beN_length]; have := h.len; omega) (by rw [List.length_append]; have := h.lo; omega)
theorem WS.text {w W W1 : World} {g gb : Nat} {ob : Obj} {l : List Int} {N : Nat} {s : ByteArray} (h : WS w W g gb ob l N) (hs : s.size ≤ 24) (hp : PenIs w W1 g (l ++ beN (s.size : Int) 4 ++ bytesOf s)) (ho : OnlyP g W W1) : WS w W1 g gb ob (l ++ beN (s.size : Int) 4 ++ bytesOf s) (N + 28) := h.step hp ho (by rw [List.length_append, List.length_append, beN_length, bytesOf_length]; have := h.len; omega) (by rw [List.length_append, List.length_append]; have := h.lo; omega)
theorem PenIs.put {w0 W W1 : World} {g k : Nat} {l : List Int} {cs c1 : Array Value} {e e1 : TypeId} (h : PenIs w0 W g l) (hb : W.heap[k]? = some (.cells cs e (0, 0))) (he : 5 ≠ e) (hp : Put W W1 k c1 e1) (hk : g ≠ k) (hw : w0.heap.size ≤ k) : PenIs w0 W1 g l := by
  obtain ⟨v, hv⟩ := h
  exact ⟨v, hp.below hv.low hw, blk_grown hv.blk (put_grownN hp) (fun e => hk (Option.some.inj e)), hv.own.put hb he hp, hv.base⟩
theorem WS.put {w W W1 : World} {g gb k : Nat} {ob : Obj} {l : List Int} {N : Nat} {cs c1 : Array Value} {e e1 : TypeId} (h : WS w W g gb ob l N) (hb : W.heap[k]? = some (.cells cs e (0, 0))) (he : 5 ≠ e) (hp : Put W W1 k c1 e1) (hk : g < k) (hk2 : gb < k) (hw : w.heap.size ≤ k) : WS w W1 g gb ob l N :=
  ⟨h.pen.put hb he hp (Nat.ne_of_lt hk) hw, blk_grown h.box (put_grownN hp) (fun e => by have := Option.some.inj e; omega), h.len, h.ne, h.ty, h.lo⟩
theorem WS.lt {w W : World} {g gb : Nat} {ob : Obj} {l : List Int} {N : Nat} (h : WS w W g gb ob l N) : g < W.heap.size ∧ gb < W.heap.size ∧ w.heap.size ≤ W.heap.size := by
  obtain ⟨v, hv⟩ := h.pen
  exact ⟨blk_lt hv.blk, blk_lt h.box, hv.low.size⟩
theorem conv_lit (W : World) : (convert 28 28 (.slice (some ⟨W.heap.size, 0, none⟩) 4 4)).run Tryd.prog (W.alloc (.cells #[.int .u8 80, .int .u8 76, .int .u8 79, .int .u8 49] 5)) = .ok (.slice (some ⟨W.heap.size, 0, none⟩) 4 4) (W.alloc (.cells #[.int .u8 80, .int .u8 76, .int .u8 79, .int .u8 49] 5 (4, 5))) := Lib.run_convert_bytes_const W 28 5 #[.int .u8 80, .int .u8 76, .int .u8 79, .int .u8 49] 4 4 Tryd.underlying28 Tryd.underlying5
/-- an object whose parts may be written. -/
structure WOk (nm : ByteArray) (code : List Int) (dat : Int) (data : List Int) (syms : List Sym) (rels : List Rel) : Prop where
  hnm : nm.size ≤ 24
  hcode : code.length ≤ 16384
  hwords : ∀ i, i < code.length → 0 ≤ rd code (i : Int) ∧ rd code (i : Int) < 4294967296
  hdat : 0 ≤ dat ∧ dat ≤ 2147483647
  hdata : data.length ≤ 4096
  hsyms : syms.length ≤ 256
  hsym : ∀ i, i < syms.length → (rd_T75 syms (i : Int)).f0.size ≤ 24 ∧ (0 ≤ (rd_T75 syms (i : Int)).f1 ∧ (rd_T75 syms (i : Int)).f1 ≤ 3) ∧ 0 ≤ (rd_T75 syms (i : Int)).f2 ∧ (rd_T75 syms (i : Int)).f2 ≤ 2147483647
  hrels : rels.length ≤ 16384
  hrel : ∀ i, i < rels.length → (0 ≤ (rd_T68 rels (i : Int)).f0 ∧ (rd_T68 rels (i : Int)).f0 ≤ 2147483647) ∧ 0 ≤ (rd_T68 rels (i : Int)).f1 ∧ (rd_T68 rels (i : Int)).f1 ≤ 2147483647
set_option maxHeartbeats 8000000 in
set_option maxRecDepth 100000 in
theorem write_bad.calls (a0_0 : ByteArray) (A0_1 : Option Addr) (c0_1 : Nat) (l0_1 : List Int) (a0_2 : Int) (A0_3 : Option Addr) (c0_3 : Nat) (l0_3 : List Int) (A0_4 : Option Addr) (c0_4 : Nat) (l0_4 : List (S75)) (A0_5 : Option Addr) (c0_5 : Nat) (l0_5 : List (S68)) (w : World) (e n : Int) (hr0_1 : Kd.C (Kd.int .u32) w A0_1 l0_1.length l0_1) (hc0_1 : l0_1.length ≤ c0_1) (hr0_3 : Kd.C (Kd.int .i64) w A0_3 l0_3.length l0_3) (hc0_3 : l0_3.length ≤ c0_3) (hr0_4 : Kd.C k75 w A0_4 l0_4.length l0_4) (hc0_4 : l0_4.length ≤ c0_4) (hr0_5 : Kd.C k68 w A0_5 l0_5.length l0_5) (hc0_5 : l0_5.length ≤ c0_5) (h : object_Check.f a0_0 l0_1 a0_2 l0_3 l0_4 l0_5 = some (e, n)) (he : e ≠ 0) :
    Calls Tryd.prog 9 #[.agg #[.string a0_0, .slice A0_1 l0_1.length c0_1, .int .i64 a0_2, .slice A0_3 l0_3.length c0_3, .slice A0_4 l0_4.length c0_4, .slice A0_5 l0_5.length c0_5]] w fun e_ w' => e_ = .returned (.tuple #[.slice none 0 0, .int .i64 e]) ∧ Below w.heap.size w w' := by
  have hu1 := Tryd.underlying27
  have H := Aside0.mk h
  have HB := Aside0.mk (Below.refl w.heap.size w)
  have hne : (e != 0) = true := bne_iff_ne.mpr he
  have R1 := Aside0.mk (And.intro hr0_1 hc0_1)
  have R3 := Aside0.mk (And.intro hr0_3 hc0_3)
  have R4 := Aside0.mk (And.intro hr0_4 hc0_4)
  have R5 := Aside0.mk (And.intro hr0_5 hc0_5)
  clear h he hr0_1 hc0_1 hr0_3 hc0_3 hr0_4 hc0_4 hr0_5 hc0_5
  go_enter Tryd.func9, Tryd.ntmps9
  go_wp2_with (first | ((with_reducible refine gate_dst (N := 1) rfl ?_); refine box_event ?hg (N := 1) ?hd (cs := #[.string a0_0, .slice A0_1 l0_1.length c0_1, .int .i64 a0_2, .slice A0_3 l0_3.length c0_3, .slice A0_4 l0_4.length c0_4, .slice A0_5 l0_5.length c0_5]) (t := 27) ?hr ?_; (case hd => rfl); (case hg => rfl); (case hr => first | (go_simp; done) | (go_simp; rfl)); intro gb hg_ w1 BK_ hb_; have BO := Aside0.mk (show w1.heap[gb]? = some (objCell a0_0 A0_1 l0_1.length c0_1 a0_2 A0_3 l0_3.length c0_3 A0_4 l0_4.length c0_4 A0_5 l0_5.length c0_5) from BK_); have HBn := Aside0.mk (bsQ hb_ HB.out); have GB := Aside0.mk (gwQ hg_ HB.out); clear HB BK_ hb_ hg_; have HB := HBn; clear HBn; have ha0 := blk_cell BO.out 0; have ha1 := blk_cell BO.out 1; have ha2 := blk_cell BO.out 2; have ha3 := blk_cell BO.out 3; have ha4 := blk_cell BO.out 4; have ha5 := blk_cell BO.out 5) | (go_at_call 11; refine (object_Check.calls _ _ _ _ _ _ _ _ _ _ _ _ _ _ e n _ (Kd.C_below R1.out.1 HB.out) R1.out.2 (Kd.C_below R3.out.1 HB.out) R3.out.2 (Kd.C_below R4.out.1 HB.out) R4.out.2 (Kd.C_below R5.out.1 HB.out) R5.out.2 H.out).mono ?_; rintro e_ w2 ⟨rfl, hb_⟩; have HBn := Aside0.mk (bsQ hb_ HB.out); have BOn := Aside0.mk (blk_below BO.out hb_); clear HB BO hb_ ha0 ha1 ha2 ha3 ha4 ha5; have HB := HBn; have BO := BOn; clear HBn BOn; have ha0 := blk_cell BO.out 0; have ha1 := blk_cell BO.out 1; have ha2 := blk_cell BO.out 2; have ha3 := blk_cell BO.out 3; have ha4 := blk_cell BO.out 4; have ha5 := blk_cell BO.out 5))
  go_ret2
  exact ⟨rfl, HB.out⟩
set_option maxHeartbeats 60000000 in
set_option maxRecDepth 100000 in
theorem write_ok.calls (a0_0 : ByteArray) (A0_1 : Option Addr) (c0_1 : Nat) (l0_1 : List Int) (a0_2 : Int) (A0_3 : Option Addr) (c0_3 : Nat) (l0_3 : List Int) (A0_4 : Option Addr) (c0_4 : Nat) (l0_4 : List (S75)) (A0_5 : Option Addr) (c0_5 : Nat) (l0_5 : List (S68)) (w : World) (n : Int) (hr0_1 : Kd.C (Kd.int .u32) w A0_1 l0_1.length l0_1) (hc0_1 : l0_1.length ≤ c0_1) (hr0_3 : Kd.C (Kd.int .i64) w A0_3 l0_3.length l0_3) (hc0_3 : l0_3.length ≤ c0_3) (hr0_4 : Kd.C k75 w A0_4 l0_4.length l0_4) (hc0_4 : l0_4.length ≤ c0_4) (hr0_5 : Kd.C k68 w A0_5 l0_5.length l0_5) (hc0_5 : l0_5.length ≤ c0_5) (h : object_Check.f a0_0 l0_1 a0_2 l0_3 l0_4 l0_5 = some (0, n)) (hk : WOk a0_0 l0_1 a0_2 l0_3 l0_4 l0_5) :
    Calls Tryd.prog 9 #[.agg #[.string a0_0, .slice A0_1 l0_1.length c0_1, .int .i64 a0_2, .slice A0_3 l0_3.length c0_3, .slice A0_4 l0_4.length c0_4, .slice A0_5 l0_5.length c0_5]] w fun e_ w' => ∃ v, e_ = .returned (.tuple #[v, .int .i64 0]) ∧ Kd.R (Kd.int .u8) 5 w' w.heap.size (fun _ => True) v (writeB a0_0 l0_1 a0_2 l0_3 l0_4 l0_5) ∧ Below w.heap.size w w' := by
  have hu1 := Tryd.underlying27
  have hu2 := Tryd.underlying96
  have hu3 := Tryd.underlying75
  have hu4 := Tryd.underlying68
  have hcv := conv_lit
  have H := Aside0.mk h
  have K := Aside0.mk hk
  have HB := Aside0.mk (Below.refl w.heap.size w)
  have R1 := Aside0.mk (And.intro hr0_1 hc0_1)
  have R3 := Aside0.mk (And.intro hr0_3 hc0_3)
  have R4 := Aside0.mk (And.intro hr0_4 hc0_4)
  have R5 := Aside0.mk (And.intro hr0_5 hc0_5)
  have KL := Aside0.mk (And.intro hk.hnm (And.intro hk.hcode (And.intro hk.hdata (And.intro hk.hsyms hk.hrels))))
  clear h hk hr0_1 hc0_1 hr0_3 hc0_3 hr0_4 hc0_4 hr0_5 hc0_5
  go_enter Tryd.func9, Tryd.ntmps9
  go_wp2_with (first | ((with_reducible refine gate_dst (N := 1) rfl ?_); refine box_event ?hg (N := 1) ?hd (cs := #[.string a0_0, .slice A0_1 l0_1.length c0_1, .int .i64 a0_2, .slice A0_3 l0_3.length c0_3, .slice A0_4 l0_4.length c0_4, .slice A0_5 l0_5.length c0_5]) (t := 27) ?hr ?_; (case hd => rfl); (case hg => rfl); (case hr => first | (go_simp; done) | (go_simp; rfl)); intro gb hg_ w1 BK_ hb_; have BO := Aside0.mk (show w1.heap[gb]? = some (objCell a0_0 A0_1 l0_1.length c0_1 a0_2 A0_3 l0_3.length c0_3 A0_4 l0_4.length c0_4 A0_5 l0_5.length c0_5) from BK_); have HBn := Aside0.mk (bsQ hb_ HB.out); have GB := Aside0.mk (gwQ hg_ HB.out); clear HB BK_ hb_ hg_; have HB := HBn; clear HBn; have ha0 := blk_cell BO.out 0; have ha1 := blk_cell BO.out 1; have ha2 := blk_cell BO.out 2; have ha3 := blk_cell BO.out 3; have ha4 := blk_cell BO.out 4; have ha5 := blk_cell BO.out 5) | (go_at_call 11; refine (object_Check.calls _ _ _ _ _ _ _ _ _ _ _ _ _ _ 0 n _ (Kd.C_below R1.out.1 HB.out) R1.out.2 (Kd.C_below R3.out.1 HB.out) R3.out.2 (Kd.C_below R4.out.1 HB.out) R4.out.2 (Kd.C_below R5.out.1 HB.out) R5.out.2 H.out).mono ?_; rintro e_ w2 ⟨rfl, hb_⟩; have HBn := Aside0.mk (bsQ hb_ HB.out); have BOn := Aside0.mk (blk_below BO.out hb_); clear HB BO hb_ ha0 ha1 ha2 ha3 ha4 ha5; have HB := HBn; have BO := BOn; clear HBn BOn; have ha0 := blk_cell BO.out 0; have ha1 := blk_cell BO.out 1; have ha2 := blk_cell BO.out 2; have ha3 := blk_cell BO.out 3; have ha4 := blk_cell BO.out 4; have ha5 := blk_cell BO.out 5) | ((with_reducible refine gate_dst (N := 27) rfl ?_); refine box_event ?hg (N := 27) ?hd (cs := #[.slice (some ⟨w2.heap.size, 0, none⟩) 4 4]) (t := 96) ?hr ?_; (case hd => rfl); (case hg => rfl); (case hr => first | (go_simp; done) | (go_simp; rfl)); intro g hg_ w4 BK_ hb_; have HW := Aside0.mk (show WS w w4 g gb (objCell a0_0 A0_1 l0_1.length c0_1 a0_2 A0_3 l0_3.length c0_3 A0_4 l0_4.length c0_4 A0_5 l0_5.length c0_5) [80, 76, 79, 49] 4 from ⟨⟨_, bs1Q hb_ (below_alloc HB.out _), BK_, .inr ⟨⟨w2.heap.size, rfl, HB.out.size, blk_below (MapKept.heap_alloc w2 _).1 hb_⟩, rfl⟩, gw1Q hg_ (below_alloc HB.out _)⟩, blk_below (blk_below BO.out (below_alloc (Below.refl _ _) _)) hb_, Nat.le_refl _, by rw [hg_]; exact Nat.ne_of_lt (blk_lt (blk_below BO.out (below_alloc (Below.refl _ _) _))), fun cs e_ => (by injection e_ with _ e_ _; exact absurd e_ (by decide)), Nat.le_refl _⟩); clear HB BO BK_ hb_ hg_ ha0 ha1 ha2 ha3 ha4 ha5; have ha0 := blk_cell HW.out.box 0; have ha1 := blk_cell HW.out.box 1; have ha2 := blk_cell HW.out.box 2; have ha3 := blk_cell HW.out.box 3; have ha4 := blk_cell HW.out.box 4; have ha5 := blk_cell HW.out.box 5) | (go_at_call 41; refine (text.calls w _ g _ HW.out.pen a0_0 HW.out.lo (by have := HW.out.len; have := KL.out; (try have hq_ := HLT.out); have := KL.out.1; omega)).mono ?_; rintro e_ w9 ⟨rfl, hp_, ho_⟩; have HWn := Aside0.mk (HW.out.text KL.out.1 hp_ ho_); clear HW hp_ ho_ ha0 ha1 ha2 ha3 ha4 ha5; have HW := HWn; clear HWn; have ha0 := blk_cell HW.out.box 0; have ha1 := blk_cell HW.out.box 1; have ha2 := blk_cell HW.out.box 2; have ha3 := blk_cell HW.out.box 3; have ha4 := blk_cell HW.out.box 4; have ha5 := blk_cell HW.out.box 5) | (go_at_call 40; refine (four.calls w _ g _ HW.out.pen (l0_1.length : Int) (by omega) (by have := KL.out; omega) (by have := HW.out.len; have := KL.out; (try have hq_ := HLT.out); omega)).mono ?_; rintro e_ w9 ⟨rfl, hp_, ho_⟩; have HWn := Aside0.mk (HW.out.four hp_ ho_); clear HW hp_ ho_ ha0 ha1 ha2 ha3 ha4 ha5; have HW := HWn; clear HWn; have ha0 := blk_cell HW.out.box 0; have ha1 := blk_cell HW.out.box 1; have ha2 := blk_cell HW.out.box 2; have ha3 := blk_cell HW.out.box 3; have ha4 := blk_cell HW.out.box 4; have ha5 := blk_cell HW.out.box 5))
  have HW2 := HW.out
  generalize hP_ : ([80, 76, 79, 49] ++ beN (a0_0.size : Int) 4 ++ bytesOf a0_0 ++ beN (l0_1.length : Int) 4 : List Int) = P1 at HW2
  clear HW ha0 ha1 ha2 ha3 ha4 ha5
  have HW := Aside0.mk HW2
  have HP1 := Aside0.mk hP_
  clear HW2 hP_
  have ha0 := blk_cell HW.out.box 0
  have ha1 := blk_cell HW.out.box 1
  have ha2 := blk_cell HW.out.box 2
  have ha3 := blk_cell HW.out.box 3
  have ha4 := blk_cell HW.out.box 4
  have ha5 := blk_cell HW.out.box 5
  go_loopw [42] (fun u wr => ∃ i : Nat, u = .int .i64 (i : Int) ∧ i ≤ l0_1.length ∧ Aside0 (WS w wr g gb (objCell a0_0 A0_1 l0_1.length c0_1 a0_2 A0_3 l0_3.length c0_3 A0_4 l0_4.length c0_4 A0_5 l0_5.length c0_5) (P1 ++ (l0_1.take i).flatMap (fun x => beN x 4)) (36 + 4 * i))) (fun u _ => l0_1.length - (intOf u).toNat)
  case atStart => exact ⟨0, rfl, Nat.zero_le _, ⟨by simpa using HW.out⟩⟩
  case round =>
    clear HW
    obtain ⟨i, rfl, hile, HW⟩ := hrel
    by_cases hlt : i < l0_1.length
    · have p0 : (0 : Int) ≤ (i : Int) := by omega
      have q0 : (i : Int) < (l0_1.length : Int) := by omega
      obtain ⟨ad, e0, h0⟩ := Kd.at_int R1.out.1 (i : Int) p0 q0
      subst e0
      rw [show ((i : Int)).toNat = i by omega] at h0
      replace h0 := pw_cell_below HW.out.pen.low h0
      have hwd := K.out.hwords i hlt
      rw [rd_get hlt] at h0 hwd
      obtain ⟨x, hx⟩ : ∃ x, ∀ h : i < l0_1.length, x = l0_1[i] := ⟨l0_1[i], fun _ => rfl⟩
      rw [← hx hlt] at h0 hwd
      have HX := Aside0.mk hx
      have HXW := Aside0.mk hwd
      have HI := Aside0.mk (show wrap64 x = x by rw [wrap64_id (by omega) (by omega)])
      clear hx hwd
      have hltb : decide ((i : Int) < (l0_1.length : Int)) = true := decide_eq_true q0
      have HLT := Aside0.mk hlt
      have HWR := Aside0.mk (show wrap64 ((i : Int) + 1) = ((i + 1 : Nat) : Int) by rw [wrap64_id (by have := KL.out; omega) (by have := KL.out; omega)]; rfl)
      replace p0 := eq_true p0
      replace q0 := eq_true q0
      clear hlt hile
      have ha0 := blk_cell HW.out.box 0
      have ha1 := blk_cell HW.out.box 1
      have ha2 := blk_cell HW.out.box 2
      have ha3 := blk_cell HW.out.box 3
      have ha4 := blk_cell HW.out.box 4
      have ha5 := blk_cell HW.out.box 5
      go_wp2_with (first | (go_at_call 40; (try rw [HI.out]); refine (four.calls w _ g _ HW.out.pen x HXW.out.1 (by have := HXW.out; omega) (by have := HW.out.len; have := KL.out; (try have hq_ := HLT.out); omega)).mono ?_; rintro e_ w9 ⟨rfl, hp_, ho_⟩; have HWn := Aside0.mk (HW.out.four hp_ ho_); clear HW hp_ ho_ ha0 ha1 ha2 ha3 ha4 ha5; have HW := HWn; clear HWn; have ha0 := blk_cell HW.out.box 0; have ha1 := blk_cell HW.out.box 1; have ha2 := blk_cell HW.out.box 2; have ha3 := blk_cell HW.out.box 3; have ha4 := blk_cell HW.out.box 4; have ha5 := blk_cell HW.out.box 5))
      go_roundw
      case measure => have hq := HLT.out; (try rw [HWR.out]); simp only [intOf]; omega
      case rel => exact ⟨i + 1, by first | rfl | (rw [HWR.out]; done), by have := HLT.out; omega, ⟨by rw [flat_step _ _ _ _ HLT.out]; exact (by rw [← HX.out HLT.out]; exact (show WS _ _ _ _ _ _ _ from ⟨HW.out.pen, HW.out.box, by have := HW.out.len; omega, HW.out.ne, HW.out.ty, HW.out.lo⟩))⟩⟩
    · have hi0 : i = l0_1.length := by omega
      subst hi0
      have hltb : decide ((l0_1.length : Int) < (l0_1.length : Int)) = false := by simp
      clear hlt hile
      have HW2 := HW.out
      rw [List.take_length] at HW2
      clear HW
      have HW := Aside0.mk HW2
      clear HW2
      have ha0 := blk_cell HW.out.box 0
      have ha1 := blk_cell HW.out.box 1
      have ha2 := blk_cell HW.out.box 2
      have ha3 := blk_cell HW.out.box 3
      have ha4 := blk_cell HW.out.box 4
      have ha5 := blk_cell HW.out.box 5
      go_upto_region 14 with ((go_at_call 40; refine (four.calls w _ g _ HW.out.pen a0_2 K.out.hdat.1 (by have := K.out.hdat; omega) (by have := HW.out.len; have := KL.out; (try have hq_ := HLT.out); omega)).mono ?_; rintro e_ w9 ⟨rfl, hp_, ho_⟩; have HWn := Aside0.mk (HW.out.four hp_ ho_); clear HW hp_ ho_ ha0 ha1 ha2 ha3 ha4 ha5; have HW := HWn; clear HWn; have ha0 := blk_cell HW.out.box 0; have ha1 := blk_cell HW.out.box 1; have ha2 := blk_cell HW.out.box 2; have ha3 := blk_cell HW.out.box 3; have ha4 := blk_cell HW.out.box 4; have ha5 := blk_cell HW.out.box 5))
      go_wp2_with (first | (go_at_call 40; refine (four.calls w _ g _ HW.out.pen (l0_3.length : Int) (by omega) (by have := KL.out; omega) (by have := HW.out.len; have := KL.out; (try have hq_ := HLT.out); omega)).mono ?_; rintro e_ w9 ⟨rfl, hp_, ho_⟩; have HWn := Aside0.mk (HW.out.four hp_ ho_); clear HW hp_ ho_ ha0 ha1 ha2 ha3 ha4 ha5; have HW := HWn; clear HWn; have ha0 := blk_cell HW.out.box 0; have ha1 := blk_cell HW.out.box 1; have ha2 := blk_cell HW.out.box 2; have ha3 := blk_cell HW.out.box 3; have ha4 := blk_cell HW.out.box 4; have ha5 := blk_cell HW.out.box 5))
      have HW2 := HW.out
      generalize hP_ : (P1 ++ (l0_1.flatMap fun x => beN x 4) ++ beN a0_2 4 ++ beN (l0_3.length : Int) 4 : List Int) = P2 at HW2
      clear HW ha0 ha1 ha2 ha3 ha4 ha5
      have HW := Aside0.mk HW2
      have HP2 := Aside0.mk hP_
      clear HW2 hP_
      have HK2 := Aside0.mk (show (36 + 4 * l0_1.length + 4 + 4 : Nat) ≤ 65580 by have := KL.out; omega)
      have HW2 := HW.out
      have HW := Aside0.mk (show WS w _ g gb _ P2 65580 from ⟨HW2.pen, HW2.box, by have := HW2.len; have := HK2.out; omega, HW2.ne, HW2.ty, HW2.lo⟩)
      clear HW2 HK2
      have ha0 := blk_cell HW.out.box 0
      have ha1 := blk_cell HW.out.box 1
      have ha2 := blk_cell HW.out.box 2
      have ha3 := blk_cell HW.out.box 3
      have ha4 := blk_cell HW.out.box 4
      have ha5 := blk_cell HW.out.box 5
      go_loopw [63] (fun u wr => ∃ i : Nat, u = .int .i64 (i : Int) ∧ i ≤ l0_3.length ∧ Aside0 (WS w wr g gb (objCell a0_0 A0_1 l0_1.length c0_1 a0_2 A0_3 l0_3.length c0_3 A0_4 l0_4.length c0_4 A0_5 l0_5.length c0_5) (P2 ++ (l0_3.take i).flatMap (fun x => beN (mU x) 8)) (65580 + 8 * i))) (fun u _ => l0_3.length - (intOf u).toNat)
      case atStart => exact ⟨0, rfl, Nat.zero_le _, ⟨by simpa using HW.out⟩⟩
      case round =>
        clear HW
        obtain ⟨i, rfl, hile, HW⟩ := hrel
        by_cases hlt : i < l0_3.length
        · have p0 : (0 : Int) ≤ (i : Int) := by omega
          have q0 : (i : Int) < (l0_3.length : Int) := by omega
          obtain ⟨ad, e0, h0⟩ := Kd.at_int R3.out.1 (i : Int) p0 q0
          subst e0
          rw [show ((i : Int)).toNat = i by omega] at h0
          replace h0 := pw_cell_below HW.out.pen.low h0
          rw [rd_get hlt] at h0
          obtain ⟨x, hx⟩ : ∃ x, ∀ h : i < l0_3.length, x = l0_3[i] := ⟨l0_3[i], fun _ => rfl⟩
          rw [← hx hlt] at h0
          have HX := Aside0.mk hx
          clear hx
          have hltb : decide ((i : Int) < (l0_3.length : Int)) = true := decide_eq_true q0
          have HLT := Aside0.mk hlt
          have HWR := Aside0.mk (show wrap64 ((i : Int) + 1) = ((i + 1 : Nat) : Int) by rw [wrap64_id (by have := KL.out; omega) (by have := KL.out; omega)]; rfl)
          replace p0 := eq_true p0
          replace q0 := eq_true q0
          clear hlt hile
          have ha0 := blk_cell HW.out.box 0
          have ha1 := blk_cell HW.out.box 1
          have ha2 := blk_cell HW.out.box 2
          have ha3 := blk_cell HW.out.box 3
          have ha4 := blk_cell HW.out.box 4
          have ha5 := blk_cell HW.out.box 5
          go_wp2_with (first | (go_at_call 42; (try rw [u64_w]); refine (number.calls w _ g _ HW.out.pen (mU x) (u64_range x).1 (u64_range x).2 8 (by decide) (by have := HW.out.len; have := KL.out; (try have hq_ := HLT.out); omega)).mono ?_; rintro e_ w9 ⟨rfl, hp_, ho_⟩; have HWn := Aside0.mk (HW.out.eight hp_ ho_); clear HW hp_ ho_ ha0 ha1 ha2 ha3 ha4 ha5; have HW := HWn; clear HWn; have ha0 := blk_cell HW.out.box 0; have ha1 := blk_cell HW.out.box 1; have ha2 := blk_cell HW.out.box 2; have ha3 := blk_cell HW.out.box 3; have ha4 := blk_cell HW.out.box 4; have ha5 := blk_cell HW.out.box 5))
          go_roundw
          case measure => have hq := HLT.out; (try rw [HWR.out]); simp only [intOf]; omega
          case rel => exact ⟨i + 1, by first | rfl | (rw [HWR.out]; done), by have := HLT.out; omega, ⟨by rw [flat_step _ _ _ _ HLT.out]; exact (by rw [← HX.out HLT.out]; exact (show WS _ _ _ _ _ _ _ from ⟨HW.out.pen, HW.out.box, by have := HW.out.len; omega, HW.out.ne, HW.out.ty, HW.out.lo⟩))⟩⟩
        · have hi0 : i = l0_3.length := by omega
          subst hi0
          have hltb : decide ((l0_3.length : Int) < (l0_3.length : Int)) = false := by simp
          clear hlt hile
          have HW2 := HW.out
          rw [List.take_length] at HW2
          clear HW
          have HW := Aside0.mk HW2
          clear HW2
          have ha0 := blk_cell HW.out.box 0
          have ha1 := blk_cell HW.out.box 1
          have ha2 := blk_cell HW.out.box 2
          have ha3 := blk_cell HW.out.box 3
          have ha4 := blk_cell HW.out.box 4
          have ha5 := blk_cell HW.out.box 5
          go_wp2_with (first | (go_at_call 40; refine (four.calls w _ g _ HW.out.pen (l0_4.length : Int) (by omega) (by have := KL.out; omega) (by have := HW.out.len; have := KL.out; (try have hq_ := HLT.out); omega)).mono ?_; rintro e_ w9 ⟨rfl, hp_, ho_⟩; have HWn := Aside0.mk (HW.out.four hp_ ho_); clear HW hp_ ho_ ha0 ha1 ha2 ha3 ha4 ha5; have HW := HWn; clear HWn; have ha0 := blk_cell HW.out.box 0; have ha1 := blk_cell HW.out.box 1; have ha2 := blk_cell HW.out.box 2; have ha3 := blk_cell HW.out.box 3; have ha4 := blk_cell HW.out.box 4; have ha5 := blk_cell HW.out.box 5))
          have HW2 := HW.out
          generalize hP_ : (P2 ++ (l0_3.flatMap fun x => beN (mU x) 8) ++ beN (l0_4.length : Int) 4 : List Int) = P3 at HW2
          clear HW ha0 ha1 ha2 ha3 ha4 ha5
          have HW := Aside0.mk HW2
          have HP3 := Aside0.mk hP_
          clear HW2 hP_
          have HK2 := Aside0.mk (show (65580 + 8 * l0_3.length + 4 : Nat) ≤ 98400 by have := KL.out; omega)
          have HW2 := HW.out
          have HW := Aside0.mk (show WS w _ g gb _ P3 98400 from ⟨HW2.pen, HW2.box, by have := HW2.len; have := HK2.out; omega, HW2.ne, HW2.ty, HW2.lo⟩)
          clear HW2 HK2
          have ha0 := blk_cell HW.out.box 0
          have ha1 := blk_cell HW.out.box 1
          have ha2 := blk_cell HW.out.box 2
          have ha3 := blk_cell HW.out.box 3
          have ha4 := blk_cell HW.out.box 4
          have ha5 := blk_cell HW.out.box 5
          go_loopw [80] (fun u wr => ∃ i : Nat, u = .int .i64 (i : Int) ∧ i ≤ l0_4.length ∧ Aside0 (WS w wr g gb (objCell a0_0 A0_1 l0_1.length c0_1 a0_2 A0_3 l0_3.length c0_3 A0_4 l0_4.length c0_4 A0_5 l0_5.length c0_5) (P3 ++ (l0_4.take i).flatMap symB) (98400 + 36 * i))) (fun u _ => l0_4.length - (intOf u).toNat)
          case atStart => exact ⟨0, rfl, Nat.zero_le _, ⟨by simpa using HW.out⟩⟩
          case round =>
            clear HW
            obtain ⟨i, rfl, hile, HW⟩ := hrel
            by_cases hlt : i < l0_4.length
            · have p0 : (0 : Int) ≤ (i : Int) := by omega
              have q0 : (i : Int) < (l0_4.length : Int) := by omega
              obtain ⟨ad, e0, h0, h1, h2⟩ := at_T75 R4.out.1 (i : Int) p0 q0
              subst e0
              rw [show ((i : Int)).toNat = i by omega] at h0 h1 h2
              replace h0 := pw_cell_below HW.out.pen.low h0
              replace h1 := pw_cell_below HW.out.pen.low h1
              replace h2 := pw_cell_below HW.out.pen.low h2
              have hsy := K.out.hsym i hlt
              rw [sy_getW hlt] at h0 h1 h2 hsy
              obtain ⟨x, hx⟩ : ∃ x, ∀ h : i < l0_4.length, x = l0_4[i] := ⟨l0_4[i], fun _ => rfl⟩
              rw [← hx hlt] at h0 h1 h2 hsy
              have HX := Aside0.mk hx
              have HXW := Aside0.mk hsy
              clear hx hsy
              obtain ⟨xn, xk, xa⟩ := x
              simp only at h0 h1 h2
              have hxw := HXW.out
              simp only at hxw
              clear HXW
              have HXW := Aside0.mk hxw
              have HI := Aside0.mk (show wrap64 xk = xk by rw [wrap64_id (by omega) (by omega)])
              clear hxw
              have HLG := Aside0.mk HW.out.lt
              have hltb : decide ((i : Int) < (l0_4.length : Int)) = true := decide_eq_true q0
              have HLT := Aside0.mk hlt
              have HWR := Aside0.mk (show wrap64 ((i : Int) + 1) = ((i + 1 : Nat) : Int) by rw [wrap64_id (by have := KL.out; omega) (by have := KL.out; omega)]; rfl)
              replace p0 := eq_true p0
              replace q0 := eq_true q0
              clear hlt hile
              have ha0 := blk_cell HW.out.box 0
              have ha1 := blk_cell HW.out.box 1
              have ha2 := blk_cell HW.out.box 2
              have ha3 := blk_cell HW.out.box 3
              have ha4 := blk_cell HW.out.box 4
              have ha5 := blk_cell HW.out.box 5
              go_wp2_with (first | (go_at_call 41; have HWa := Aside0.mk (HW.out.below (below_alloc (Below.refl wr.heap.size wr) (.cells #[.string xn, .int .i8 xk, .int .i64 xa] 75))); have BS := Aside0.mk (MapKept.heap_alloc wr (.cells #[.string xn, .int .i8 xk, .int .i64 xa] 75)).1; refine (text.calls w _ g _ HWa.out.pen xn HWa.out.lo (by have := HW.out.len; have := KL.out; have := HLT.out; have := HXW.out.1; omega)).mono ?_; rintro e_ w9 ⟨rfl, hp_, ho_⟩; have HWn := Aside0.mk (HWa.out.text HXW.out.1 hp_ ho_); have BSn := Aside0.mk (ho_.blk BS.out (by have := HLG.out; omega) (fun cs e_ => (by injection e_ with _ e_ _; exact absurd e_ (by decide)))); clear BS; have BS := BSn; clear BSn; have hs0 := blk_cell BS.out 0; have hs1 := blk_cell BS.out 1; have hs2 := blk_cell BS.out 2; clear HW HWa hp_ ho_ ha0 ha1 ha2 ha3 ha4 ha5; have HW := HWn; clear HWn; have ha0 := blk_cell HW.out.box 0; have ha1 := blk_cell HW.out.box 1; have ha2 := blk_cell HW.out.box 2; have ha3 := blk_cell HW.out.box 3; have ha4 := blk_cell HW.out.box 4; have ha5 := blk_cell HW.out.box 5) | (go_at_call 40; (try rw [HI.out]); refine (four.calls w _ g _ HW.out.pen xk HXW.out.2.1.1 (by have := HXW.out.2.1; omega) (by have := HW.out.len; have := KL.out; (try have hq_ := HLT.out); omega)).mono ?_; rintro e_ w9 ⟨rfl, hp_, ho_⟩; have HWn := Aside0.mk (HW.out.four hp_ ho_); clear hs0 hs1 hs2; have BSn := Aside0.mk (ho_.blk BS.out (by have := HLG.out; omega) (fun cs e_ => (by injection e_ with _ e_ _; exact absurd e_ (by decide)))); clear BS; have BS := BSn; clear BSn; have hs0 := blk_cell BS.out 0; have hs1 := blk_cell BS.out 1; have hs2 := blk_cell BS.out 2; clear HW hp_ ho_ ha0 ha1 ha2 ha3 ha4 ha5; have HW := HWn; clear HWn; have ha0 := blk_cell HW.out.box 0; have ha1 := blk_cell HW.out.box 1; have ha2 := blk_cell HW.out.box 2; have ha3 := blk_cell HW.out.box 3; have ha4 := blk_cell HW.out.box 4; have ha5 := blk_cell HW.out.box 5) | (go_at_call 40; refine (four.calls w _ g _ HW.out.pen xa HXW.out.2.2.1 (by have := HXW.out.2.2; omega) (by have := HW.out.len; have := KL.out; (try have hq_ := HLT.out); omega)).mono ?_; rintro e_ w9 ⟨rfl, hp_, ho_⟩; have HWn := Aside0.mk (HW.out.four hp_ ho_); clear hs0 hs1 hs2; have BSn := Aside0.mk (ho_.blk BS.out (by have := HLG.out; omega) (fun cs e_ => (by injection e_ with _ e_ _; exact absurd e_ (by decide)))); clear BS; have BS := BSn; clear BSn; have hs0 := blk_cell BS.out 0; have hs1 := blk_cell BS.out 1; have hs2 := blk_cell BS.out 2; clear HW hp_ ho_ ha0 ha1 ha2 ha3 ha4 ha5; have HW := HWn; clear HWn; have ha0 := blk_cell HW.out.box 0; have ha1 := blk_cell HW.out.box 1; have ha2 := blk_cell HW.out.box 2; have ha3 := blk_cell HW.out.box 3; have ha4 := blk_cell HW.out.box 4; have ha5 := blk_cell HW.out.box 5))
              go_roundw
              case measure => have hq := HLT.out; (try rw [HWR.out]); simp only [intOf]; omega
              case rel => exact ⟨i + 1, by first | rfl | (rw [HWR.out]; done), by have := HLT.out; omega, ⟨by rw [flat_step _ _ _ _ HLT.out]; exact (by rw [← HX.out HLT.out]; have h_ := HW.out; simp only [symB, ← List.append_assoc]; exact (show WS _ _ _ _ _ _ _ from ⟨h_.pen, h_.box, by have := h_.len; omega, h_.ne, h_.ty, h_.lo⟩))⟩⟩
            · have hi0 : i = l0_4.length := by omega
              subst hi0
              have hltb : decide ((l0_4.length : Int) < (l0_4.length : Int)) = false := by simp
              clear hlt hile
              have HW2 := HW.out
              rw [List.take_length] at HW2
              clear HW
              have HW := Aside0.mk HW2
              clear HW2
              have ha0 := blk_cell HW.out.box 0
              have ha1 := blk_cell HW.out.box 1
              have ha2 := blk_cell HW.out.box 2
              have ha3 := blk_cell HW.out.box 3
              have ha4 := blk_cell HW.out.box 4
              have ha5 := blk_cell HW.out.box 5
              go_wp2_with (first | (go_at_call 40; refine (four.calls w _ g _ HW.out.pen (l0_5.length : Int) (by omega) (by have := KL.out; omega) (by have := HW.out.len; have := KL.out; (try have hq_ := HLT.out); omega)).mono ?_; rintro e_ w9 ⟨rfl, hp_, ho_⟩; have HWn := Aside0.mk (HW.out.four hp_ ho_); clear HW hp_ ho_ ha0 ha1 ha2 ha3 ha4 ha5; have HW := HWn; clear HWn; have ha0 := blk_cell HW.out.box 0; have ha1 := blk_cell HW.out.box 1; have ha2 := blk_cell HW.out.box 2; have ha3 := blk_cell HW.out.box 3; have ha4 := blk_cell HW.out.box 4; have ha5 := blk_cell HW.out.box 5))
              have HW2 := HW.out
              generalize hP_ : (P3 ++ (l0_4.flatMap symB) ++ beN (l0_5.length : Int) 4 : List Int) = P4 at HW2
              clear HW ha0 ha1 ha2 ha3 ha4 ha5
              have HW := Aside0.mk HW2
              have HP4 := Aside0.mk hP_
              clear HW2 hP_
              have HK2 := Aside0.mk (show (98400 + 36 * l0_4.length + 4 : Nat) ≤ 107620 by have := KL.out; omega)
              have HW2 := HW.out
              have HW := Aside0.mk (show WS w _ g gb _ P4 107620 from ⟨HW2.pen, HW2.box, by have := HW2.len; have := HK2.out; omega, HW2.ne, HW2.ty, HW2.lo⟩)
              clear HW2 HK2
              have ha0 := blk_cell HW.out.box 0
              have ha1 := blk_cell HW.out.box 1
              have ha2 := blk_cell HW.out.box 2
              have ha3 := blk_cell HW.out.box 3
              have ha4 := blk_cell HW.out.box 4
              have ha5 := blk_cell HW.out.box 5
              go_loopw [106] (fun u wr => ∃ i : Nat, u = .int .i64 (i : Int) ∧ i ≤ l0_5.length ∧ Aside0 (WS w wr g gb (objCell a0_0 A0_1 l0_1.length c0_1 a0_2 A0_3 l0_3.length c0_3 A0_4 l0_4.length c0_4 A0_5 l0_5.length c0_5) (P4 ++ (l0_5.take i).flatMap relB) (107620 + 8 * i))) (fun u _ => l0_5.length - (intOf u).toNat)
              case atStart => exact ⟨0, rfl, Nat.zero_le _, ⟨by simpa using HW.out⟩⟩
              case round =>
                clear HW
                obtain ⟨i, rfl, hile, HW⟩ := hrel
                by_cases hlt : i < l0_5.length
                · have p0 : (0 : Int) ≤ (i : Int) := by omega
                  have q0 : (i : Int) < (l0_5.length : Int) := by omega
                  obtain ⟨ad, e0, h0, h1⟩ := at_T68 R5.out.1 (i : Int) p0 q0
                  subst e0
                  rw [show ((i : Int)).toNat = i by omega] at h0 h1
                  replace h0 := pw_cell_below HW.out.pen.low h0
                  replace h1 := pw_cell_below HW.out.pen.low h1
                  have hsy := K.out.hrel i hlt
                  rw [rl_getW hlt] at h0 h1 hsy
                  obtain ⟨x, hx⟩ : ∃ x, ∀ h : i < l0_5.length, x = l0_5[i] := ⟨l0_5[i], fun _ => rfl⟩
                  rw [← hx hlt] at h0 h1 hsy
                  have HX := Aside0.mk hx
                  obtain ⟨xo, xs⟩ := x
                  simp only at h0 h1 hsy
                  have HXW := Aside0.mk hsy
                  clear hsy hx
                  have HLG := Aside0.mk HW.out.lt
                  have hltb : decide ((i : Int) < (l0_5.length : Int)) = true := decide_eq_true q0
                  have HLT := Aside0.mk hlt
                  have HWR := Aside0.mk (show wrap64 ((i : Int) + 1) = ((i + 1 : Nat) : Int) by rw [wrap64_id (by have := KL.out; omega) (by have := KL.out; omega)]; rfl)
                  replace p0 := eq_true p0
                  replace q0 := eq_true q0
                  clear hlt hile
                  have ha0 := blk_cell HW.out.box 0
                  have ha1 := blk_cell HW.out.box 1
                  have ha2 := blk_cell HW.out.box 2
                  have ha3 := blk_cell HW.out.box 3
                  have ha4 := blk_cell HW.out.box 4
                  have ha5 := blk_cell HW.out.box 5
                  go_wp2_with (first | (go_at_call 40; have HWa := Aside0.mk (HW.out.below (below_alloc (Below.refl wr.heap.size wr) (.cells #[.int .i64 xo, .int .i64 xs] 68))); have BS := Aside0.mk (MapKept.heap_alloc wr (.cells #[.int .i64 xo, .int .i64 xs] 68)).1; refine (four.calls w _ g _ HWa.out.pen xo HXW.out.1.1 (by have := HXW.out.1; omega) (by have := HW.out.len; have := KL.out; have := HLT.out; omega)).mono ?_; rintro e_ w9 ⟨rfl, hp_, ho_⟩; have HWn := Aside0.mk (HWa.out.four hp_ ho_); have BSn := Aside0.mk (ho_.blk BS.out (by have := HLG.out; omega) (fun cs e_ => (by injection e_ with _ e_ _; exact absurd e_ (by decide)))); clear BS; have BS := BSn; clear BSn; have hs0 := blk_cell BS.out 0; have hs1 := blk_cell BS.out 1; clear HW HWa hp_ ho_ ha0 ha1 ha2 ha3 ha4 ha5; have HW := HWn; clear HWn; have ha0 := blk_cell HW.out.box 0; have ha1 := blk_cell HW.out.box 1; have ha2 := blk_cell HW.out.box 2; have ha3 := blk_cell HW.out.box 3; have ha4 := blk_cell HW.out.box 4; have ha5 := blk_cell HW.out.box 5) | (go_at_call 40; refine (four.calls w _ g _ HW.out.pen xs HXW.out.2.1 (by have := HXW.out.2; omega) (by have := HW.out.len; have := KL.out; (try have hq_ := HLT.out); omega)).mono ?_; rintro e_ w9 ⟨rfl, hp_, ho_⟩; have HWn := Aside0.mk (HW.out.four hp_ ho_); clear hs0 hs1; have BSn := Aside0.mk (ho_.blk BS.out (by have := HLG.out; omega) (fun cs e_ => (by injection e_ with _ e_ _; exact absurd e_ (by decide)))); clear BS; have BS := BSn; clear BSn; have hs0 := blk_cell BS.out 0; have hs1 := blk_cell BS.out 1; clear HW hp_ ho_ ha0 ha1 ha2 ha3 ha4 ha5; have HW := HWn; clear HWn; have ha0 := blk_cell HW.out.box 0; have ha1 := blk_cell HW.out.box 1; have ha2 := blk_cell HW.out.box 2; have ha3 := blk_cell HW.out.box 3; have ha4 := blk_cell HW.out.box 4; have ha5 := blk_cell HW.out.box 5))
                  go_roundw
                  case measure => have hq := HLT.out; (try rw [HWR.out]); simp only [intOf]; omega
                  case rel => exact ⟨i + 1, by first | rfl | (rw [HWR.out]; done), by have := HLT.out; omega, ⟨by rw [flat_step _ _ _ _ HLT.out]; exact (by rw [← HX.out HLT.out]; have h_ := HW.out; simp only [relB, ← List.append_assoc]; exact (show WS _ _ _ _ _ _ _ from ⟨h_.pen, h_.box, by have := h_.len; omega, h_.ne, h_.ty, h_.lo⟩))⟩⟩
                · have hi0 : i = l0_5.length := by omega
                  subst hi0
                  have hltb : decide ((l0_5.length : Int) < (l0_5.length : Int)) = false := by simp
                  clear hlt hile
                  have HW2 := HW.out
                  rw [List.take_length] at HW2
                  clear HW
                  have HW := Aside0.mk HW2
                  clear HW2
                  have ha0 := blk_cell HW.out.box 0
                  have ha1 := blk_cell HW.out.box 1
                  have ha2 := blk_cell HW.out.box 2
                  have ha3 := blk_cell HW.out.box 3
                  have ha4 := blk_cell HW.out.box 4
                  have ha5 := blk_cell HW.out.box 5
                  have HW2 := HW.out
                  generalize hP_ : (P4 ++ l0_5.flatMap relB : List Int) = P5 at HW2
                  clear HW ha0 ha1 ha2 ha3 ha4 ha5
                  have HW := Aside0.mk HW2
                  have HP5 := Aside0.mk hP_
                  clear HW2 hP_
                  have HP := Aside0.mk (show headB a0_0 l0_1 a0_2 l0_3 l0_4 l0_5 = P5 by rw [← HP5.out, ← HP4.out, ← HP3.out, ← HP2.out, ← HP1.out]; unfold headB; simp only [List.append_assoc])
                  obtain ⟨⟨v, hv⟩, hbx, hln, hne, hty, hlo⟩ := HW.out
                  have HV := Aside0.mk hv
                  have HLO := Aside0.mk (show 4 < P5.length by rw [← HP.out]; exact headB_long _ _ _ _ _ _)
                  have HRW := Aside0.mk (HV.out.own.R HLO.out)
                  have HLN := Aside0.mk (show P5.length ≤ 238692 by have := KL.out; omega)
                  obtain ⟨Ao, co, eo⟩ := Kd.R_slice HRW.out
                  have HEO := Aside0.mk eo
                  clear hv hbx hln hne hty hlo HW
                  have hc0 : _ = some (Value.slice Ao P5.length co) := ((blk_cell HV.out.blk 0).trans rfl).trans (by rw [HEO.out]; rfl)
                  have HSR := Aside0.mk (sumN_range P5)
                  have HSRD : Aside0 (Kd.C (Kd.int .u8) _ Ao P5.length P5) := ⟨by have h := HRW.out; rw [HEO.out] at h; exact (Kd.R_reads' h).2.2⟩
                  go_wp2_with (first | (go_at_call 39; refine (sum.calls Ao co P5 _ HSRD.out (by have := HLN.out; omega)).mono ?_; rintro e_ w9 ⟨rfl, hb_⟩; have HV9 := Aside0.mk (HV.out.below hb_); clear hb_) | (go_at_call 40; (try rw [wrap64_id (x := sumN P5) (by have := HSR.out; omega) (by have := HSR.out; omega)]); refine (four.calls w _ g _ ⟨v, HV9.out⟩ (sumN P5) HSR.out.1 (by have := HSR.out; omega) (by have := HLN.out; omega)).mono ?_; rintro e_ w9 ⟨rfl, ⟨v9, hv9⟩, ho_⟩; have HZ := Aside0.mk hv9; have HZR := Aside0.mk (hv9.own.R (by rw [List.length_append]; have := HLO.out; omega)); have hz0 := (blk_cell hv9.blk 0).trans rfl; clear hc0 hv9 ho_))
                  try go_ret2
                  refine ⟨_, rfl, ?_, HZ.out.low⟩
                  unfold writeB
                  rw [HP.out]
                  exact HZR.out
end Go.Proofs.YtiaohbbafaaibabDoor.P

/- OWN TEXT: the plain reader: what wire.Read answers, over lists. -/
namespace Go.Proofs.YtiaohbbafaaibabDoor.P
open Go.RowKit Go.Maps Go.Proofs.YtiaohbbafaaibabDoorW.PrintWords Go.Proofs.YtiaohbbafaaibabDoorW.PrintLast Go.Proofs.YtiaohbbafaaibabDoorW.PrintMore Go.Proofs.YtiaohbbafaaibabDoor.Arr Go.Proofs.YtiaohbbafaaibabDoor.MapB
set_option linter.unusedVariables false
set_option linter.unusedSimpArgs false
def mag : List Int := [80, 76, 79, 49]
def magicE (l : List Int) : Nat → Option Int
  | 0 => none
  | i + 1 => match magicE l i with
    | some q => some q
    | none => if (i : Int) ≥ (l.length : Int) ∨ rd l (i : Int) ≠ rd mag (i : Int) then some (i : Int) else none
def f1 (l : List Int) (a : RO) : RO := { a with code := a.code ++ [(numR l 4 a.rs).1], rs := (numR l 4 a.rs).2 }
def f2 (l : List Int) (a : RO) : RO := { a with data := a.data ++ [wrap64 (numR l 8 a.rs).1], rs := (numR l 8 a.rs).2 }
def f3 (l : List Int) (a : RO) : RO := { a with syms := a.syms ++ [⟨(textR l a.rs).1, (countR l 3 (textR l a.rs).2).1, (countR l 2147483647 (countR l 3 (textR l a.rs).2).2).1⟩], rs := (countR l 2147483647 (countR l 3 (textR l a.rs).2).2).2 }
def f4 (l : List Int) (a : RO) : RO := { a with rels := a.rels ++ [⟨(countR l 2147483647 a.rs).1, (countR l 2147483647 (countR l 2147483647 a.rs).2).1⟩], rs := (countR l 2147483647 (countR l 2147483647 a.rs).2).2 }
def cntR (l : List Int) (lim : Int) (a : RO) : RO := { a with rs := (countR l lim a.rs).2 }
def ra0 (l : List Int) : RO := ⟨(textR l ⟨4, magicE l 4⟩).1, [], 0, [], [], [], (textR l ⟨4, magicE l 4⟩).2⟩
def ra1 (l : List Int) : RO := eachR (f1 l) RO.rs (countR l 16384 (ra0 l).rs).1.toNat (cntR l 16384 (ra0 l))
def ra2 (l : List Int) : RO := { cntR l 2147483647 (ra1 l) with dat := (countR l 2147483647 (ra1 l).rs).1 }
def ra3 (l : List Int) : RO := eachR (f2 l) RO.rs (countR l 4096 (ra2 l).rs).1.toNat (cntR l 4096 (ra2 l))
def ra4 (l : List Int) : RO := eachR (f3 l) RO.rs (countR l 256 (ra3 l).rs).1.toNat (cntR l 256 (ra3 l))
def ra5 (l : List Int) : RO := eachR (f4 l) RO.rs (countR l ((ra4 l).code.length : Int) (ra4 l).rs).1.toNat (cntR l ((ra4 l).code.length : Int) (ra4 l))
def a6 (l : List Int) : RO := { ra5 l with rs := (numR l 4 (ra5 l).rs).2 }
def endS (l : List Int) : RS := match (a6 l).rs.er with
  | some _ => (a6 l).rs
  | none => if (a6 l).rs.at_ < (l.length : Int) then failsR (a6 l).rs.at_ (a6 l).rs else (a6 l).rs
def chkR (l : List Int) : Int × Int := if (chkO (ra5 l).nm (ra5 l).code (ra5 l).dat (ra5 l).data (ra5 l).syms (ra5 l).rels).1 = 0 then (0, 0) else chkO (ra5 l).nm (ra5 l).code (ra5 l).dat (ra5 l).data (ra5 l).syms (ra5 l).rels
def readC (l : List Int) : Int × Int := match (endS l).er with
  | some x => (27, x)
  | none => if (numR l 4 (ra5 l).rs).1 = sumN (l.take (ra5 l).rs.at_.toNat) then chkR l else (28, (ra5 l).rs.at_)
theorem numR_none {l : List Int} {n : Nat} {s : RS} (h : (numR l n s).2.er = none) : s.er = none ∧ s.at_ + n ≤ (l.length : Int) ∧ (numR l n s).2.at_ = s.at_ + n := by
  unfold numR at h ⊢
  cases hs : s.er with
  | some q => rw [hs] at h; simp only [] at h; rw [hs] at h; cases h
  | none =>
    rw [hs] at h
    simp only [] at h ⊢
    by_cases hlt : (l.length : Int) - s.at_ < n
    · rw [if_pos hlt] at h; cases h
    · rw [if_neg hlt]
      exact ⟨trivial, by omega, rfl⟩
theorem eachR_keep {β : Type} (h : RO → β) (f : RO → RO) (hf : ∀ a, h (f a) = h a) (rs : RO → RS) : ∀ (n : Nat) (a : RO), h (eachR f rs n a) = h a
  | 0, _ => rfl
  | n + 1, a => by
    show h (if (rs a).er.isNone = true then eachR f rs n (f a) else a) = h a
    by_cases hb : (rs a).er.isNone = true
    · rw [if_pos hb, eachR_keep h f hf rs n, hf]
    · rw [if_neg hb]
theorem eachR_len (h : RO → Nat) (f : RO → RO) (hf : ∀ a, h (f a) = h a + 1) (rs : RO → RS) : ∀ (n : Nat) (a : RO), h (eachR f rs n a) ≤ h a + n
  | 0, _ => Nat.le_refl _
  | n + 1, a => by
    show h (if (rs a).er.isNone = true then eachR f rs n (f a) else a) ≤ _
    by_cases hb : (rs a).er.isNone = true
    · rw [if_pos hb]
      have := eachR_len h f hf rs n (f a)
      rw [hf] at this
      omega
    · rw [if_neg hb]
      omega
theorem ra2_data (l : List Int) : (ra2 l).data = [] := by
  show (ra1 l).data = []
  unfold ra1
  rw [eachR_keep RO.data (f1 l) (fun _ => rfl)]
  rfl
theorem ra3_syms (l : List Int) : (ra3 l).syms = [] := by
  unfold ra3
  rw [eachR_keep RO.syms (f2 l) (fun _ => rfl)]
  show (ra1 l).syms = []
  unfold ra1
  rw [eachR_keep RO.syms (f1 l) (fun _ => rfl)]
  rfl
theorem ra4_rels (l : List Int) : (ra4 l).rels = [] := by
  unfold ra4
  rw [eachR_keep RO.rels (f3 l) (fun _ => rfl)]
  show (ra3 l).rels = []
  unfold ra3
  rw [eachR_keep RO.rels (f2 l) (fun _ => rfl)]
  show (ra1 l).rels = []
  unfold ra1
  rw [eachR_keep RO.rels (f1 l) (fun _ => rfl)]
  rfl
theorem ra4_code (l : List Int) (hby : ∀ x ∈ l, 0 ≤ x ∧ x < 256) : (ra4 l).code.length ≤ 16384 := by
  unfold ra4
  rw [eachR_keep RO.code (f3 l) (fun _ => rfl)]
  show (ra3 l).code.length ≤ _
  unfold ra3
  rw [eachR_keep RO.code (f2 l) (fun _ => rfl)]
  show (ra1 l).code.length ≤ _
  have h1 := eachR_len (fun a => a.code.length) (f1 l) (fun a => by show (a.code ++ [_]).length = _; rw [List.length_append]; rfl) RO.rs (countR l 16384 (ra0 l).rs).1.toNat (cntR l 16384 (ra0 l))
  have h2 := countR_range l 16384 (ra0 l).rs hby (by decide)
  have h3 : (cntR l 16384 (ra0 l)).code.length = 0 := rfl
  show (eachR (f1 l) RO.rs (countR l 16384 (ra0 l).rs).1.toNat (cntR l 16384 (ra0 l))).code.length ≤ _
  omega
theorem eachR_all (P : RO → Prop) (f : RO → RO) (hf : ∀ a, P a → P (f a)) (rs : RO → RS) : ∀ (n : Nat) (a : RO), P a → P (eachR f rs n a)
  | 0, _, h => h
  | n + 1, a, h => by
    show P (if (rs a).er.isNone = true then eachR f rs n (f a) else a)
    by_cases hb : (rs a).er.isNone = true
    · rw [if_pos hb]; exact eachR_all P f hf rs n _ (hf a h)
    · rw [if_neg hb]; exact h
theorem ra5_words (l : List Int) (hby : ∀ x ∈ l, 0 ≤ x ∧ x < 256) : wordsO (ra5 l).code = true := by
  unfold ra5
  rw [eachR_keep RO.code (f4 l) (fun _ => rfl)]
  show wordsO (ra4 l).code = true
  unfold ra4
  rw [eachR_keep RO.code (f3 l) (fun _ => rfl)]
  show wordsO (ra3 l).code = true
  unfold ra3
  rw [eachR_keep RO.code (f2 l) (fun _ => rfl)]
  show wordsO (ra1 l).code = true
  unfold ra1
  refine eachR_all (fun a => wordsO a.code = true) (f1 l) (fun a h => ?_) RO.rs _ _ rfl
  show wordsO (a.code ++ [(numR l 4 a.rs).1]) = true
  have h1 := numR_range l 4 a.rs hby
  have h256 : (256 : Int) ^ 4 = 4294967296 := by decide
  rw [h256] at h1
  unfold wordsO at h ⊢
  rw [List.all_append, h, Bool.true_and, List.all_cons, List.all_nil, Bool.and_true, Bool.and_eq_true, decide_eq_true_eq, decide_eq_true_eq]
  omega
end Go.Proofs.YtiaohbbafaaibabDoor.P

/- errors.As at the reader's own error: the kit's worked example, turned to this program's numbers. -/
namespace Go.Proofs.YtiaohbbafaaibabDoor.P
open Go.RowKit Go.Extern.Stop Go.Stop Go.Extern

theorem as_nil (t : Value) (w : World) :
    Calls Tryd.prog 38 #[.nilIface, t] w fun e w' => e = .returned (.bool false) ∧ w' = w := by
  go_enter Tryd.func38, Tryd.ntmps38
  go_wp2
  go_ret
  exact ⟨rfl, rfl⟩

theorem As.valueOf27 (t : Addr) (w : World) : (ReflectliteValue.unpack (.iface 90 (.pointer (some t)))).run Tryd.prog w
    = .ok (.agg #[.pointer (some ⟨1, 90, none⟩), .pointer (some ⟨w.heap.size, 0, none⟩), .int .u64 150]) (w.alloc (.cells #[.pointer (some t)] 90)) := by kernel_rfl
theorem As.type27 (a : Addr) (w : World) : (ReflectliteValue.methodAny (ReflectliteValue.valueError "reflectlite.Value.Type" 0) (fun t _ _ _ => ReflectliteType.toType t) #[.agg #[.pointer (some ⟨1, 90, none⟩), .pointer (some a), .int .u64 150]]).run Tryd.prog w
    = .ok (.iface 161 (.agg #[.pointer (some ⟨1, 90, none⟩)])) w := by kernel_rfl
theorem As.methodKind (h : Value) (w : World) : (Go.method 302 161 (.agg #[h]) "Kind").run Tryd.prog w = .ok (97, h) w := by kernel_rfl
theorem As.kind27 (w : World) : ((ReflectliteType.abiMethod fun t => (fun a : Nat => Value.int IntKind.u8 (a : Int)) <$> Rtype.kind t) #[.pointer (some ⟨1, 90, none⟩)]).run Tryd.prog w = .ok (.int .u8 22) w := by kernel_rfl
theorem As.kind25 (w : World) : ((ReflectliteType.abiMethod fun t => (fun a : Nat => Value.int IntKind.u8 (a : Int)) <$> Rtype.kind t) #[.pointer (some ⟨1, 88, none⟩)]).run Tryd.prog w = .ok (.int .u8 22) w := by kernel_rfl

theorem rlm (z : Sem Value) (f : TypeId → Addr → Nat → Nat → Sem Value) (v : Value) :
    ReflectliteValue.method z f #[v] = (do match ← ReflectliteValue.parts v with | none => z | some (t, a, fl) => f t a fl (fl % 32)) := rfl
theorem As.parts27 (a : Addr) (w : World) : (ReflectliteValue.parts (.agg #[.pointer (some ⟨1, 90, none⟩), .pointer (some a), .int .u64 150])).run Tryd.prog w = .ok (some (90, a, 150)) w := by kernel_rfl
theorem As.isNil27 (a p : Addr) (W : World) (ha : W.cell? a = some (.pointer (some p))) :
    (ReflectliteValue.method (ReflectliteValue.valueError "reflectlite.Value.IsNil" 0) ReflectliteValue.isNil #[.agg #[.pointer (some ⟨1, 90, none⟩), .pointer (some a), .int .u64 150]]).run Tryd.prog W = .ok (.bool false) W := by
  rw [rlm]
  simp only [Sem.run_bind, As.parts27, Result.andThen]
  simp [ReflectliteValue.isNil, loadVar, isAgg, underlying, Tryd.underlying90, ha, Result.andThen]

theorem As.methodElem (h : Value) (w : World) : (Go.method 302 161 (.agg #[h]) "Elem").run Tryd.prog w = .ok (108, .agg #[h]) w := by kernel_rfl
theorem As.methodImplements (h : Value) (w : World) : (Go.method 302 161 (.agg #[h]) "Implements").run Tryd.prog w = .ok (109, .agg #[h]) w := by kernel_rfl
theorem As.methodAssignableTo (h : Value) (w : World) : (Go.method 302 161 (.agg #[h]) "AssignableTo").run Tryd.prog w = .ok (106, .agg #[h]) w := by kernel_rfl
theorem As.elem27 (w : World) : (ReflectliteType.method ReflectliteType.elem #[.agg #[.pointer (some ⟨1, 90, none⟩)]]).run Tryd.prog w = .ok (.iface 161 (.agg #[.pointer (some ⟨1, 88, none⟩)])) w := by kernel_rfl
theorem As.implements25 (w : World) : (ReflectliteType.relation "Implements" ReflectliteType.implements_ #[.agg #[.pointer (some ⟨1, 88, none⟩)], .iface 161 (.agg #[.pointer (some ⟨1, 79, none⟩)])]).run Tryd.prog w = .ok (.bool true) w := by kernel_rfl
theorem As.typeOf25 (v : Value) (w : World) : (ReflectliteType.typeOf #[.iface 88 v]).run Tryd.prog w = .ok (.iface 161 (.agg #[.pointer (some ⟨1, 88, none⟩)])) w := by kernel_rfl
theorem As.assignable25 (w : World) : (ReflectliteType.relation "AssignableTo" ReflectliteType.assignableTo #[.agg #[.pointer (some ⟨1, 88, none⟩)], .iface 161 (.agg #[.pointer (some ⟨1, 88, none⟩)])]).run Tryd.prog w = .ok (.bool true) w := by kernel_rfl
theorem As.valueOf25 (e : Addr) (w : World) : (ReflectliteValue.unpack (.iface 88 (.pointer (some e)))).run Tryd.prog w
    = .ok (.agg #[.pointer (some ⟨1, 88, none⟩), .pointer (some ⟨w.heap.size, 0, none⟩), .int .u64 150]) (w.alloc (.cells #[.pointer (some e)] 88)) := by kernel_rfl

theorem As.elemOf27 (w : World) : (Rtype.elem? 90).run Tryd.prog w = .ok (some 88) w := by kernel_rfl
theorem As.mk25 (p : Addr) (w : World) : (ReflectliteValue.mk 88 p ReflectliteValue.flagAddr).run Tryd.prog w = .ok (.agg #[.pointer (some ⟨1, 88, none⟩), .pointer (some p), .int .u64 406]) w := by kernel_rfl
theorem As.elemV27 (a p : Addr) (W : World) (ha : W.cell? a = some (.pointer (some p))) :
    (ReflectliteValue.method (ReflectliteValue.valueError "reflectlite.Value.Elem" 0) ReflectliteValue.elem #[.agg #[.pointer (some ⟨1, 90, none⟩), .pointer (some a), .int .u64 150]]).run Tryd.prog W
      = .ok (.agg #[.pointer (some ⟨1, 88, none⟩), .pointer (some p), .int .u64 406]) W := by
  rw [rlm]
  simp only [Sem.run_bind, As.parts27, Result.andThen]
  simp [ReflectliteValue.elem, loadVar, isAgg, underlying, Tryd.underlying90, ha, Result.andThen, As.elemOf27, As.mk25]
theorem rls (v x : Value) : ReflectliteValue.set #[v, x] = (do
    let (some (dst, a, fl), some (src, b, _)) := (← ReflectliteValue.parts v, ← ReflectliteValue.parts x)
      | unsupported (.noEntry "extern/(internal/reflectlite.Value).Set.zeroValue")
    if fl / ReflectliteValue.flagAddr % 2 == 0 then unsupported (.noEntry "extern/(internal/reflectlite.Value).Set.unaddressable")
    let val ← loadVar src b
    if ← Rtype.directlyAssignable dst src then storeVar dst a val
    else if ← Rtype.implements dst src then
      if (← Rtype.kind src) == 20 then
        match val with
        | .nilIface => unsupported (.noEntry "extern/reflectlite: a nil value of one interface type handed on as a value of another")
        | _ => storeVar dst a val
      else storeVar dst a (.iface src val)
    else panicString ("reflectlite.Set: value of type " ++ (← Rtype.spelt src) ++ " is not assignable to type " ++ (← Rtype.spelt dst))
    pure (.tuple #[])) := rfl
theorem As.parts25a (a : Addr) (w : World) : (ReflectliteValue.parts (.agg #[.pointer (some ⟨1, 88, none⟩), .pointer (some a), .int .u64 406])).run Tryd.prog w = .ok (some (88, a, 406)) w := by kernel_rfl
theorem As.parts25 (a : Addr) (w : World) : (ReflectliteValue.parts (.agg #[.pointer (some ⟨1, 88, none⟩), .pointer (some a), .int .u64 150])).run Tryd.prog w = .ok (some (88, a, 150)) w := by kernel_rfl
theorem As.direct25 (w : World) : (Rtype.directlyAssignable 88 88).run Tryd.prog w = .ok true w := by kernel_rfl
theorem As.set25 (ta b e : Addr) (old : Value) (W : World) (hb : W.cell? b = some (.pointer (some e))) (ht : W.cell? ta = some old) (hf : W.frozen? ta = false) :
    (ReflectliteValue.set #[.agg #[.pointer (some ⟨1, 88, none⟩), .pointer (some ta), .int .u64 406], .agg #[.pointer (some ⟨1, 88, none⟩), .pointer (some b), .int .u64 150]]).run Tryd.prog W
      = .ok (.tuple #[]) (W.setCell ta (.pointer (some e))) := by
  rw [rls]
  simp only [Sem.run_bind, As.parts25a, As.parts25, Result.andThen]
  simp [ReflectliteValue.flagAddr, loadVar, isAgg, underlying, Tryd.underlying88, hb, Result.andThen, As.direct25, storeVar, Value.cells, storeCells, Addr.add]
  rw [run_store Tryd.prog W ta _ _ (by rfl)]
  simp [ht, hf]

set_option maxHeartbeats 4000000 in
theorem as_hit (e t : Addr) (old : Value) (w : World) (hg : w.cell? ⟨0, 0, none⟩ = some (.iface 161 (.agg #[.pointer (some ⟨1, 79, none⟩)]))) (ht0 : w.cell? t = some old) (hf0 : w.frozen? t = false) :
    Calls Tryd.prog 38 #[.iface 88 (.pointer (some e)), .iface 90 (.pointer (some t))] w fun ev w' => ev = .returned (.bool true) ∧ w' = ((((w.alloc (.cells #[.pointer (some t)] 90)).alloc (.cells #[.pointer (some ⟨1, 90, none⟩), .pointer (some ⟨w.heap.size, 0, none⟩), .int .u64 150] 141)).alloc (.cells #[.pointer (some ⟨1, 90, none⟩), .pointer (some ⟨w.heap.size, 0, none⟩), .int .u64 150] 141)).alloc (.cells #[.pointer (some e)] 88)).setCell t (.pointer (some e)) := by
  have h6 := @run_callFunc_extern Tryd.prog 72 _ (fun args => ReflectliteValue.unpack (args.getD 0 (.tuple #[]))) Tryd.func72 (by kernel_rfl) (by kernel_rfl) (by kernel_rfl) (by kernel_rfl)
  have h7 := @run_callFunc_extern Tryd.prog 73 _ (ReflectliteValue.methodAny (ReflectliteValue.valueError "reflectlite.Value.Type" 0) (fun t _ _ _ => ReflectliteType.toType t)) Tryd.func73 (by kernel_rfl) (by kernel_rfl) (by kernel_rfl) (by kernel_rfl)
  have h8 := @run_callFunc_extern Tryd.prog 74 _ (ReflectliteValue.method (ReflectliteValue.valueError "reflectlite.Value.IsNil" 0) ReflectliteValue.isNil) Tryd.func74 (by kernel_rfl) (by kernel_rfl) (by kernel_rfl) (by kernel_rfl)
  have h27 := @run_callFunc_extern Tryd.prog 97 _ (ReflectliteType.abiMethod fun t => do pure (.int .u8 (← Rtype.kind t))) Tryd.func97 (by kernel_rfl) (by kernel_rfl) (by kernel_rfl) (by kernel_rfl)
  have h37 := @run_callFunc_extern Tryd.prog 108 _ (ReflectliteType.method ReflectliteType.elem) Tryd.func108 (by kernel_rfl) (by kernel_rfl) (by kernel_rfl) (by kernel_rfl)
  have h38 := @run_callFunc_extern Tryd.prog 109 _ (ReflectliteType.relation "Implements" ReflectliteType.implements_) Tryd.func109 (by kernel_rfl) (by kernel_rfl) (by kernel_rfl) (by kernel_rfl)
  have h10 := @run_callFunc_extern Tryd.prog 80 _ ReflectliteType.typeOf Tryd.func80 (by kernel_rfl) (by kernel_rfl) (by kernel_rfl) (by kernel_rfl)
  have h35 := @run_callFunc_extern Tryd.prog 106 _ (ReflectliteType.relation "AssignableTo" ReflectliteType.assignableTo) Tryd.func106 (by kernel_rfl) (by kernel_rfl) (by kernel_rfl) (by kernel_rfl)
  have h11 := @run_callFunc_extern Tryd.prog 81 _ (ReflectliteValue.method (ReflectliteValue.valueError "reflectlite.Value.Elem" 0) ReflectliteValue.elem) Tryd.func81 (by kernel_rfl) (by kernel_rfl) (by kernel_rfl) (by kernel_rfl)
  have h12 := @run_callFunc_extern Tryd.prog 82 _ ReflectliteValue.set Tryd.func82 (by kernel_rfl) (by kernel_rfl) (by kernel_rfl) (by kernel_rfl)
  have tO := As.typeOf25
  have mA := As.methodAssignableTo
  have a25 := As.assignable25
  have v25 := As.valueOf25
  have f6 := As.valueOf27
  have f7 := As.type27
  have mK := As.methodKind
  have mE := As.methodElem
  have mI := As.methodImplements
  have k27 := As.kind27
  have k25 := As.kind25
  have e27 := As.elem27
  have i25 := As.implements25
  have n8 := As.isNil27 ⟨w.heap.size, 0, none⟩ t ((w.alloc (.cells #[.pointer (some t)] 90)).alloc (.cells #[.pointer (some ⟨1, 90, none⟩), .pointer (some ⟨w.heap.size, 0, none⟩), .int .u64 150] 141)) (by simp)
  have hlt : 0 < w.heap.size := by
    rcases Nat.eq_zero_or_pos w.heap.size with h0 | h
    · simp [World.cell?, h0] at hg
    · exact h
  have hg2 : ((w.alloc (.cells #[.pointer (some t)] 90)).alloc (.cells #[.pointer (some ⟨1, 90, none⟩), .pointer (some ⟨w.heap.size, 0, none⟩), .int .u64 150] 141)).cell? ⟨0, 0, none⟩ = some (.iface 161 (.agg #[.pointer (some ⟨1, 79, none⟩)])) := by
    rw [World.cell?_alloc_lt _ _ ⟨0, 0, none⟩ (by simp), World.cell?_alloc_lt _ _ ⟨0, 0, none⟩ hlt]; exact hg
  have htl : t.block < w.heap.size := by
    rcases Nat.lt_or_ge t.block w.heap.size with h | h
    · exact h
    · simp [World.cell?, Array.getElem?_eq_none h] at ht0
  have el := As.elemV27 ⟨w.heap.size, 0, none⟩ t (((w.alloc (.cells #[.pointer (some t)] 90)).alloc (.cells #[.pointer (some ⟨1, 90, none⟩), .pointer (some ⟨w.heap.size, 0, none⟩), .int .u64 150] 141)).alloc (.cells #[.pointer (some ⟨1, 90, none⟩), .pointer (some ⟨w.heap.size, 0, none⟩), .int .u64 150] 141)) (by rw [World.cell?_alloc_lt _ _ ⟨w.heap.size, 0, none⟩ (by simp; omega)]; simp)
  have st := As.set25 t ⟨w.heap.size + 1 + 1 + 1, 0, none⟩ e old ((((w.alloc (.cells #[.pointer (some t)] 90)).alloc (.cells #[.pointer (some ⟨1, 90, none⟩), .pointer (some ⟨w.heap.size, 0, none⟩), .int .u64 150] 141)).alloc (.cells #[.pointer (some ⟨1, 90, none⟩), .pointer (some ⟨w.heap.size, 0, none⟩), .int .u64 150] 141)).alloc (.cells #[.pointer (some e)] 88))
    (by rw [World.cell?_alloc_at _ _ _ _ (by simp)]; rfl)
    (by rw [World.cell?_alloc_lt _ _ t (by simp; omega), World.cell?_alloc_lt _ _ t (by simp; omega), World.cell?_alloc_lt _ _ t (by simp; omega), World.cell?_alloc_lt _ _ t htl]; exact ht0)
    (by rw [World.frozen?_alloc_old _ _ t (by simp; omega), World.frozen?_alloc_old _ _ t (by simp; omega), World.frozen?_alloc_old _ _ t (by simp; omega), World.frozen?_alloc_old _ _ t (Nat.ne_of_lt htl)]; exact hf0)
  go_enter Tryd.func38, Tryd.ntmps38
  go_wp2
  refine wp_loop_rounds 1 ?_
  rw [rounds_succ]
  go_wp2
  go_ret
  exact ⟨rfl, rfl⟩
end Go.Proofs.YtiaohbbafaaibabDoor.P
