/- OWN TEXT and printed parts of this claim, laid together: HRead, HStdA, HStdB, HStdE. -/
import Derived.Test.YtiaohbbafaaibabDoorZlM10
import Derived.Test.YtiaohbbafaaibabDoorZlM11
import Derived.Test.YtiaohbbafaaibabDoorZlM9
import Derived.Test.YtiaohbbafaaibabDoorZlM6
import Derived.Test.YtiaohbbafaaibabDoorZlM5
import Derived.Deep.DeepCutAuto
/- OWN TEXT: wire.Read, walked. -/
namespace Go.Proofs.YtiaohbbafaaibabDoor.P
open Go.RowKit Go.Maps Go.Proofs.YtiaohbbafaaibabDoorW.PrintWords Go.Proofs.YtiaohbbafaaibabDoorW.PrintLast Go.Proofs.YtiaohbbafaaibabDoorW.PrintMore Go.Proofs.YtiaohbbafaaibabDoor.Arr Go.Proofs.YtiaohbbafaaibabDoor.MapB
set_option linter.unusedVariables false
set_option linter.unusedSimpArgs false
theorem as_calls (e t : Nat) (old : Value) (W : World) (hg : W.cell? ⟨0, 0, none⟩ = some (.iface 161 (.agg #[.pointer (some ⟨1, 79, none⟩)]))) (hb : W.heap[t]? = some (.cells #[old] 88 (0, 0))) :
  Calls Tryd.prog 38 #[.iface 88 (.pointer (some ⟨e, 0, none⟩)), .iface 90 (.pointer (some ⟨t, 0, none⟩))] W fun ev w' => ev = .returned (.bool true) ∧ W.grownBy w' (some t) ∧ w'.heap[t]? = some (.cells #[.pointer (some ⟨e, 0, none⟩)] 88 (0, 0)) := by
 refine (as_hit ⟨e, 0, none⟩ ⟨t, 0, none⟩ old W hg ((blk_cell hb 0).trans rfl) (blk_frozen hb 0)).mono ?_
 rintro ev w' ⟨rfl, rfl⟩
 have h4 := below_alloc (below_alloc (below_alloc (below_alloc (Below.refl W.heap.size W) (.cells #[.pointer (some ⟨t, 0, none⟩)] 90)) (.cells #[.pointer (some ⟨1, 90, none⟩), .pointer (some ⟨W.heap.size, 0, none⟩), .int .u64 150] 141)) (.cells #[.pointer (some ⟨1, 90, none⟩), .pointer (some ⟨W.heap.size, 0, none⟩), .int .u64 150] 141)) (.cells #[.pointer (some ⟨e, 0, none⟩)] 88)
 have hp := put_set (j := 0) (x := .pointer (some ⟨e, 0, none⟩)) (blk_below hb h4)
 exact ⟨rfl, grown_trans (grown_below h4) (put_grownN hp), hp.blk⟩
theorem step_store_whole {P : Program} {ops : Array Oper} {oi : Oper} {a : Act} {W : World} {K : Act → World → Prop} {Q : Exit → Act → World → Prop} (hw : Region.wanted oi (yielded ops a.tmps) = true) (hN : oi.dst = none) {t : TypeId} {p v : Operand} (ho : oi.op = .store t p v) (g : Nat) (old cs : Array Value) (e : TypeId) (hp : a.eval p = .pointer (some ⟨g, 0, none⟩)) (hv : a.eval v = .agg cs)
  (hb : W.heap[g]? = some (.cells old e (0, 0))) (hi : (P.info? t).map (·.size) = some cs.size) (hsz : old.size = cs.size) (h1 : cs.all (·.oneCell') = true) (h : ∀ w1, Put W w1 g cs e → K a w1) :
  if Region.wanted oi (yielded ops a.tmps) = true then Oper.wp P oi a W K Q else K (a.put none undef) W := by
 have hrun : (execOp a.eval oi).run P W = .ok .skip (W.setRow g cs) := by
  unfold execOp
  have := run_storeVar_row (P := P) W g e t old cs hb hi hsz h1
  simp only [ho, hp, hv, Instr.storeAt, Instr.sureAddr, Sem.run_bind, Sem.run_pure, this, Result.andThen_ok]
 exact skip_ hw hN hrun (h _ (put_row hb))
theorem results_cell_tmp2 {P : Program} {fn : Func} {p t u : Tmp} {ty : TypeId} (h : fn.results = #[.cell p ty, .tmp t, .tmp u]) (tmps : Array Value) (w : World) (g : Nat) (e : TypeId) (cs : Array Value) (fr : Nat × Nat) (d : TypeDesc)
  (hp : tmps.getD p undef = .pointer (some ⟨g, 0, none⟩)) (hg : w.heap[g]? = some (.cells cs e fr))
  (hu : P.underlying ty = some d) (hd : (match d with | .struct _ | .array _ _ => true | _ => false) = true) (hi : (P.info? ty).map (·.size) = some cs.size) :
  (results fn tmps).run P w = .ok (.tuple #[.agg cs, tmps.getD t undef, tmps.getD u undef]) w := by
 have hp' : tmps[p]?.getD undef = .pointer (some ⟨g, 0, none⟩) := by simpa using hp
 simp [results, h, hp', asAddr, run_loadVar_row w g e ty cs fr d hg hu hd hi, Sem.run_bind, Result.andThen]
theorem obj_oneR (s : ByteArray) (A1 : Option Addr) (n1 c1 : Nat) (a : Int) (A3 : Option Addr) (n3 c3 : Nat) (A4 : Option Addr) (n4 c4 : Nat) (A5 : Option Addr) (n5 c5 : Nat) : ((#[.string s, .slice A1 n1 c1, .int .i64 a, .slice A3 n3 c3, .slice A4 n4 c4, .slice A5 n5 c5] : Array Value).all fun v => v.oneCell') = true := by kernel_rfl
theorem mag_cell (i : Nat) (h : i < 4) : (#[.int .u8 80, .int .u8 76, .int .u8 79, .int .u8 49] : Array Value)[i]? = some (.int .u8 (rd mag (i : Int))) := by
 match i, h with
 | 0, _ => rfl
 | 1, _ => rfl
 | 2, _ => rfl
 | 3, _ => rfl

theorem ev1.calls (w0 W : World) (r p g q : Nat) (A : Option Addr) (c : Nat) (l : List Int) (a : RO) (h : RdO w0 W r p g q A c l a) (hC : Kd.C (Kd.int .u8) w0 A l.length l) (hcc : l.length ≤ c) (hl : l.length ≤ 1099511627776) (hby : ∀ x ∈ l, 0 ≤ x ∧ x < 256) (n : Nat) (hn : a.code.length + n ≤ 16384) :
  Calls Tryd.prog 30 #[.pointer (some ⟨r, 0, none⟩), .int .i64 (n : Int), .func (.func 32) #[] #[.pointer (some ⟨g, 0, none⟩), .pointer (some ⟨p, 0, none⟩)]] W fun e w' => e = .returned (.tuple #[]) ∧ RdO w0 w' r p g q A c l (eachR (f1 l) RO.rs n a) := by
 refine (each1.calls (fun j b W => RdO w0 W r p g q A c l b ∧ b.code.length + j ≤ 16384) RO.rs (f1 l) w0 r A c l (fun _ _ _ h => h.1.rd) #[.pointer (some ⟨g, 0, none⟩), .pointer (some ⟨p, 0, none⟩)] (fun j b W hb _ => ?_) a W n ⟨h, hn⟩ (by omega)).mono ?_
 ·
  refine (read1.calls w0 W r p g q A c l b hb.1 hC hcc hl hby (by have := hb.2; omega)).mono ?_
  rintro e w' ⟨rfl, hr⟩
  exact ⟨rfl, hr, by show (b.code ++ [_]).length + j ≤ 16384; rw [List.length_append]; have := hb.2; simp only [List.length_cons, List.length_nil]; omega⟩
 ·
  rintro e w' ⟨rfl, j, hr⟩
  exact ⟨rfl, hr.1⟩
theorem ev2.calls (w0 W : World) (r p g q : Nat) (A : Option Addr) (c : Nat) (l : List Int) (a : RO) (h : RdO w0 W r p g q A c l a) (hC : Kd.C (Kd.int .u8) w0 A l.length l) (hcc : l.length ≤ c) (hl : l.length ≤ 1099511627776) (hby : ∀ x ∈ l, 0 ≤ x ∧ x < 256) (n : Nat) (hn : a.data.length + n ≤ 16384) :
  Calls Tryd.prog 30 #[.pointer (some ⟨r, 0, none⟩), .int .i64 (n : Int), .func (.func 34) #[] #[.pointer (some ⟨g, 0, none⟩), .pointer (some ⟨p, 0, none⟩)]] W fun e w' => e = .returned (.tuple #[]) ∧ RdO w0 w' r p g q A c l (eachR (f2 l) RO.rs n a) := by
 refine (each2.calls (fun j b W => RdO w0 W r p g q A c l b ∧ b.data.length + j ≤ 16384) RO.rs (f2 l) w0 r A c l (fun _ _ _ h => h.1.rd) #[.pointer (some ⟨g, 0, none⟩), .pointer (some ⟨p, 0, none⟩)] (fun j b W hb _ => ?_) a W n ⟨h, hn⟩ (by omega)).mono ?_
 ·
  refine (read2.calls w0 W r p g q A c l b hb.1 hC hcc hl hby (by have := hb.2; omega)).mono ?_
  rintro e w' ⟨rfl, hr⟩
  exact ⟨rfl, hr, by show (b.data ++ [_]).length + j ≤ 16384; rw [List.length_append]; have := hb.2; simp only [List.length_cons, List.length_nil]; omega⟩
 ·
  rintro e w' ⟨rfl, j, hr⟩
  exact ⟨rfl, hr.1⟩
theorem ev3.calls (w0 W : World) (r p g q : Nat) (A : Option Addr) (c : Nat) (l : List Int) (a : RO) (h : RdO w0 W r p g q A c l a) (hC : Kd.C (Kd.int .u8) w0 A l.length l) (hcc : l.length ≤ c) (hl : l.length ≤ 1099511627776) (hby : ∀ x ∈ l, 0 ≤ x ∧ x < 256) (n : Nat) (hn : a.syms.length + n ≤ 16384) :
  Calls Tryd.prog 30 #[.pointer (some ⟨r, 0, none⟩), .int .i64 (n : Int), .func (.func 36) #[] #[.pointer (some ⟨p, 0, none⟩), .pointer (some ⟨g, 0, none⟩)]] W fun e w' => e = .returned (.tuple #[]) ∧ RdO w0 w' r p g q A c l (eachR (f3 l) RO.rs n a) := by
 refine (each3.calls (fun j b W => RdO w0 W r p g q A c l b ∧ b.syms.length + j ≤ 16384) RO.rs (f3 l) w0 r A c l (fun _ _ _ h => h.1.rd) #[.pointer (some ⟨p, 0, none⟩), .pointer (some ⟨g, 0, none⟩)] (fun j b W hb _ => ?_) a W n ⟨h, hn⟩ (by omega)).mono ?_
 ·
  refine (read3.calls w0 W r p g q A c l b hb.1 hC hcc hl hby (by have := hb.2; omega)).mono ?_
  rintro e w' ⟨rfl, hr⟩
  exact ⟨rfl, hr, by show (b.syms ++ [_]).length + j ≤ 16384; rw [List.length_append]; have := hb.2; simp only [List.length_cons, List.length_nil]; omega⟩
 ·
  rintro e w' ⟨rfl, j, hr⟩
  exact ⟨rfl, hr.1⟩
theorem ev4.calls (w0 W : World) (r p g q : Nat) (A : Option Addr) (c : Nat) (l : List Int) (a : RO) (h : RdO w0 W r p g q A c l a) (hC : Kd.C (Kd.int .u8) w0 A l.length l) (hcc : l.length ≤ c) (hl : l.length ≤ 1099511627776) (hby : ∀ x ∈ l, 0 ≤ x ∧ x < 256) (n : Nat) (hn : a.rels.length + n ≤ 16384) :
  Calls Tryd.prog 30 #[.pointer (some ⟨r, 0, none⟩), .int .i64 (n : Int), .func (.func 37) #[] #[.pointer (some ⟨p, 0, none⟩), .pointer (some ⟨g, 0, none⟩)]] W fun e w' => e = .returned (.tuple #[]) ∧ RdO w0 w' r p g q A c l (eachR (f4 l) RO.rs n a) := by
 refine (each4.calls (fun j b W => RdO w0 W r p g q A c l b ∧ b.rels.length + j ≤ 16384) RO.rs (f4 l) w0 r A c l (fun _ _ _ h => h.1.rd) #[.pointer (some ⟨p, 0, none⟩), .pointer (some ⟨g, 0, none⟩)] (fun j b W hb _ => ?_) a W n ⟨h, hn⟩ (by omega)).mono ?_
 ·
  refine (read4.calls w0 W r p g q A c l b hb.1 hC hcc hl hby (by have := hb.2; omega)).mono ?_
  rintro e w' ⟨rfl, hr⟩
  exact ⟨rfl, hr, by show (b.rels ++ [_]).length + j ≤ 16384; rw [List.length_append]; have := hb.2; simp only [List.length_cons, List.length_nil]; omega⟩
 ·
  rintro e w' ⟨rfl, j, hr⟩
  exact ⟨rfl, hr.1⟩
theorem RdO.setDat {w0 W : World} {r p g q : Nat} {A : Option Addr} {c : Nat} {l : List Int} {a : RO} {x : Int} (h : RdO w0 W r p g q A c l a) : RdO w0 (W.setCell ⟨g, 2, none⟩ (.int .i64 x)) r p g q A c l { a with dat := x } := by
 obtain ⟨v1, v3, v4, v5, ho⟩ := h.obj
 have hp := put_set (j := 2) (x := .int .i64 x) ho.blk
 have G := put_grownN hp
 exact ⟨h.rd.other ho.blk (by decide) (by decide) h.gb G, (G.block p (blk_lt h.ptr) (fun z => ne_types h.ptr ho.blk (by decide) (Option.some.inj z))).trans h.ptr, ⟨(G.block q (blk_lt h.res.1) (fun z => h.res.2 (Option.some.inj z))).trans h.res.1, h.res.2⟩, ⟨v1, v3, v4, v5, hp.blk, Kd.R_grown1 ho.r1 rfl G (Kd.R_ne ho.r1 ho.blk (by decide)), Kd.R_grown1 ho.r3 rfl G (Kd.R_ne ho.r3 ho.blk (by decide)), Kd.R_grown1 ho.r4 rfl G (Kd.R_ne ho.r4 ho.blk (by decide)), Kd.R_grown1 ho.r5 rfl G (Kd.R_ne ho.r5 ho.blk (by decide))⟩, h.gb⟩
structure RdM (w0 W : World) (r p q li : Nat) (A : Option Addr) (c : Nat) (l : List Int) (s : RS) : Prop where
  rd : Rd w0 W r A c l s
  ptr : W.heap[p]? = some (.cells #[.pointer (some ⟨r, 0, none⟩)] 77 (0, 0))
  res : W.heap[q]? = some (.cells zObj 27 (0, 0))
  lit : W.heap[li]? = some (.cells #[.int .u8 80, .int .u8 76, .int .u8 79, .int .u8 49] 5 (4, 5))
theorem RdM.step {w0 W W1 : World} {r p q li : Nat} {A : Option Addr} {c : Nat} {l : List Int} {s s1 : RS} (h : RdM w0 W r p q li A c l s) (hr : Rd w0 W1 r A c l s1) (k : W.grownBy W1 (some r)) : RdM w0 W1 r p q li A c l s1 := by
 obtain ⟨v, hb, _⟩ := h.rd.blk
 exact ⟨hr, (k.block p (blk_lt h.ptr) (fun z => ne_types h.ptr hb (by decide) (Option.some.inj z))).trans h.ptr, (k.block q (blk_lt h.res) (fun z => ne_types h.res hb (by decide) (Option.some.inj z))).trans h.res, (k.block li (blk_lt h.lit) (fun z => ne_types h.lit hb (by decide) (Option.some.inj z))).trans h.lit⟩
set_option maxHeartbeats 60000000 in
set_option maxRecDepth 100000 in
theorem wread.calls (A : Option Addr) (c : Nat) (l : List Int) (w : World) (hC : Kd.C (Kd.int .u8) w A l.length l) (hcc : l.length ≤ c) (hl : l.length ≤ 1099511627776) (hby : ∀ x ∈ l, 0 ≤ x ∧ x < 256) (hgl : w.cell? ⟨0, 0, none⟩ = some (.iface 161 (.agg #[.pointer (some ⟨1, 79, none⟩)]))) :
    Calls Tryd.prog 7 #[.slice A l.length c] w fun e w' => ∃ ov, e = .returned (.tuple #[.agg ov, .int .i64 (readC l).1, .int .i64 (readC l).2]) ∧ Below w.heap.size w w' ∧ ((readC l).1 = 0 → ∃ v1 v3 v4 v5, ov = #[.string (ra5 l).nm, v1, .int .i64 (ra5 l).dat, v3, v4, v5] ∧ Kd.R (Kd.int .u32) 63 w' w.heap.size (fun _ => True) v1 (ra5 l).code ∧ Kd.R (Kd.int .i64) 2 w' w.heap.size (fun _ => True) v3 (ra5 l).data ∧ Kd.R k75 75 w' w.heap.size (fun _ => True) v4 (ra5 l).syms ∧ Kd.R k68 68 w' w.heap.size (fun _ => True) v5 (ra5 l).rels) ∧ ((readC l).1 ≠ 0 → ov = zObj) := by
  have HGL := Aside0.mk hgl
  have hu1 := Tryd.underlying27
  have hu2 := Tryd.underlying81
  have hu3 := Tryd.underlying28
  have hu4 := Tryd.underlying5
  have hcv := conv_lit
  have HC := Aside0.mk hC
  have HCC := Aside0.mk hcc
  have HL := Aside0.mk hl
  have HBY := Aside0.mk hby
  have HB := Aside0.mk (Below.refl w.heap.size w)
  clear hC hcc hl hby hgl
  go_enter Tryd.func7, Tryd.ntmps7
  go_upto_region 2 with (first | ((with_reducible refine gate_dst (N := 2) rfl ?_); refine box_event ?hg (N := 2) ?hd (cs := zObj) (t := 27) ?hr ?_; (case hd => rfl); (case hg => rfl); (case hr => first | (go_simp; done) | (go_simp; rfl)); intro q hq_ w1 BQ_ hb_; have QW := Aside0.mk (gwQ hq_ HB.out); replace HB := Aside0.mk (bsQ hb_ HB.out); have BQ := Aside0.mk BQ_; clear BQ_ hb_ hq_) | ((with_reducible refine gate_dst (N := 16) rfl ?_); refine box_event ?hg (N := 16) ?hd (cs := #[.slice A l.length c, .int .i64 0, .nilIface]) (t := 81) ?hr ?_; (case hd => rfl); (case hg => rfl); (case hr => first | (go_simp; done) | (go_simp; rfl)); intro r hr_ w2 BR_ hb_; have GR := Aside0.mk (gwQ hr_ HB.out); replace HB := Aside0.mk (bsQ hb_ HB.out); replace BQ := Aside0.mk (blk_below BQ.out hb_); have BR := Aside0.mk BR_; clear BR_ hr_ hb_))
  have hbx := below_alloc (Below.refl w2.heap.size w2) (.cells #[.pointer (some ⟨r, 0, none⟩)] 77)
  have BP := Aside0.mk (MapKept.heap_alloc w2 (.cells #[.pointer (some ⟨r, 0, none⟩)] 77)).1
  have BRn := Aside0.mk (blk_below BR.out hbx)
  have BQn := Aside0.mk (blk_below BQ.out hbx)
  have HBn := Aside0.mk (below_alloc HB.out (.cells #[.pointer (some ⟨r, 0, none⟩)] 77))
  clear hbx HB BR BQ
  have HB := HBn
  have BR := BRn
  have BQ := BQn
  clear HBn BRn BQn
  generalize w2.alloc (.cells #[.pointer (some ⟨r, 0, none⟩)] 77) = w3 at HB BR BQ BP ⊢
  generalize w2.heap.size = p at BP ⊢
  have hba := below_alloc (Below.refl w3.heap.size w3) (.cells #[.int .u8 80, .int .u8 76, .int .u8 79, .int .u8 49] 5 (4, 5))
  have HM := Aside0.mk (show RdM w (w3.alloc (.cells #[.int .u8 80, .int .u8 76, .int .u8 79, .int .u8 49] 5 (4, 5))) r p q w3.heap.size A c l ⟨((0 : Nat) : Int), magicE l 0⟩ from ⟨⟨below_alloc HB.out _, ⟨.nilIface, blk_below BR.out hba, rfl⟩, GR.out, Int.le_refl _, by show (0 : Int) ≤ _; omega, fun _ => by show (0 : Int) ≤ _; omega⟩, blk_below BP.out hba, blk_below BQ.out hba, (MapKept.heap_alloc w3 _).1⟩)
  clear hba HB BR BP BQ
  go_wp2
  go_loopw [20] (fun u20 wr => ∃ i : Nat, u20 = .int .i64 (i : Int) ∧ i ≤ 4 ∧ Aside0 (RdM w wr r p q w3.heap.size A c l ⟨(i : Int), magicE l i⟩)) (fun u20 _ => 4 - (intOf u20).toNat)
  case atStart => exact ⟨0, rfl, by omega, HM⟩
  case round =>
    clear HM hcv
    obtain ⟨i, rfl, hile, HM⟩ := hrel
    generalize w3.heap.size = li at HM ⊢
    obtain ⟨v, hb, he⟩ := HM.out.rd.blk
    have hd0 := (blk_cell hb 0).trans rfl
    have hd1 : wr.cell? ⟨r, 1, none⟩ = some (.int .i64 (i : Int)) := (blk_cell hb 1).trans rfl
    have hg1 := blk_frozen hb 1
    have hpp : wr.cell? ⟨p, 0, none⟩ = some (.pointer (some ⟨r, 0, none⟩)) := (blk_cell HM.out.ptr 0).trans rfl
    have HEV := Aside0.mk he
    clear he
    by_cases hlt : i < 4
    · have p0 : (0 : Int) ≤ (i : Int) := by omega
      have q0 : (i : Int) < (4 : Int) := by omega
      have hm0 : wr.cell? ⟨li, i, none⟩ = some (.int .u8 (rd mag (i : Int))) := (cell_of_row wr li i _ _ _ HM.out.lit).trans (mag_cell i hlt)
      have hltb : decide ((i : Int) < (4 : Int)) = true := decide_eq_true q0
      have HLT := Aside0.mk hlt
      have HBB := Aside0.mk hb
      obtain ⟨mg, hmg⟩ : ∃ mg, mg = rd mag (i : Int) := ⟨_, rfl⟩
      rw [← hmg] at hm0
      have HMG := Aside0.mk hmg
      clear hb hlt hile hmg
      by_cases hge : (i : Int) ≥ (l.length : Int)
      · have hgb : (l.length ≤ i) = True := eq_true (by omega)
        have HBAD := Aside0.mk (show failsR (i : Int) ⟨(i : Int), magicE l i⟩ = ⟨(i : Int), magicE l (i + 1)⟩ by unfold failsR; simp only [magicE]; cases magicE l i with | some q => rfl | none => simp only []; rw [if_pos (.inl hge)])
        have HBN := Aside0.mk (show ∃ q, magicE l (i + 1) = some q by have h := HBAD.out; obtain ⟨q, hq⟩ := failsR_er (i : Int) ⟨(i : Int), magicE l i⟩; rw [h] at hq; exact ⟨q, hq⟩)
        clear hge
        go_wp2_with ((go_at_call 28; refine (fails.calls w wr r _ c l _ HM.out.rd (i : Int)).mono ?_; rw [HBAD.out]; rintro e_ w5 ⟨rfl, hr_, hg_⟩; have HM1 := Aside0.mk (HM.out.step hr_ hg_); obtain ⟨v1, hb1, hev⟩ := hr_.blk; have HE1 := Aside0.mk hev; clear hev; have HB1 := Aside0.mk hb1; have he0 := (blk_cell hb1 0).trans rfl; have he1 : w5.cell? ⟨r, 1, none⟩ = some (.int .i64 (i : Int)) := (blk_cell hb1 1).trans rfl; have hef := blk_frozen hb1 1; have hep : w5.cell? ⟨p, 0, none⟩ = some (.pointer (some ⟨r, 0, none⟩)) := (blk_cell HM1.out.ptr 0).trans rfl; clear hr_ hg_ hb1 hd0 hd1 hg1 hpp hm0))
        go_roundw
        case measure => have hq := HLT.out; simp only [intOf]; omega
        case rel =>
          have hx := HM1.out.rd.put (v := .nilIface) (y := 0) (x := v1) _ (put_set (j := 1) (x := .int .i64 ((i : Int) + 1)) HB1.out) ⟨((i + 1 : Nat) : Int), magicE l (i + 1)⟩ rfl HE1.out (by show (0 : Int) ≤ ((i + 1 : Nat) : Int); omega) (by have := HLT.out; show ((i + 1 : Nat) : Int) ≤ _; omega) (fun e => by obtain ⟨q, hq⟩ := HBN.out; rw [show magicE l (i + 1) = none from e] at hq; cases hq)
          exact ⟨i + 1, rfl, by have := HLT.out; omega, ⟨HM1.out.step hx.1 hx.2⟩⟩
      · have hgb : (l.length ≤ i) = False := eq_false (by omega)
        have HLL := Aside0.mk (show i < l.length by omega)
        obtain ⟨ad, e0, h0⟩ := Kd.at_int HC.out (i : Int) p0 (by omega)
        subst e0
        rw [show ((i : Int)).toNat = i by omega] at h0
        replace h0 := pw_cell_below HM.out.rd.low h0
        obtain ⟨x, hx⟩ : ∃ x, x = rd l (i : Int) := ⟨_, rfl⟩
        rw [← hx] at h0
        have HXX := Aside0.mk hx
        have q1 : (i : Int) < (l.length : Int) := by omega
        replace p0 := eq_true p0
        replace q1 := eq_true q1
        clear hx hge
        by_cases hne : x = mg
        · subst hne
          have HOK := Aside0.mk (show magicE l (i + 1) = magicE l i by simp only [magicE]; cases magicE l i with | some q => rfl | none => simp only []; rw [if_neg (fun h => h.elim (fun h => by have := HLL.out; omega) (fun h => h (by rw [← HXX.out, ← HMG.out])))])
          go_wp2
          go_roundw
          case measure => have hq := HLT.out; simp only [intOf]; omega
          case rel =>
            have hx := HM.out.rd.put (v := .nilIface) (y := 0) (x := v) _ (put_set (j := 1) (x := .int .i64 ((i : Int) + 1)) HBB.out) ⟨((i + 1 : Nat) : Int), magicE l (i + 1)⟩ rfl (by rw [HOK.out]; exact HEV.out) (by show (0 : Int) ≤ ((i + 1 : Nat) : Int); omega) (by have := HLT.out; show ((i + 1 : Nat) : Int) ≤ _; omega) (fun e => by have := HLL.out; show ((i + 1 : Nat) : Int) ≤ _; omega)
            exact ⟨i + 1, rfl, by have := HLT.out; omega, ⟨HM.out.step hx.1 hx.2⟩⟩
        · have hnb : (x == mg) = false := beq_eq_false_iff_ne.mpr hne
          have HBAD := Aside0.mk (show failsR (i : Int) ⟨(i : Int), magicE l i⟩ = ⟨(i : Int), magicE l (i + 1)⟩ by unfold failsR; simp only [magicE]; cases magicE l i with | some q => rfl | none => simp only []; rw [if_pos (.inr (fun h => hne (by rw [HXX.out, HMG.out]; exact h)))])
          have HBN := Aside0.mk (show ∃ q, magicE l (i + 1) = some q by have h := HBAD.out; obtain ⟨q, hq⟩ := failsR_er (i : Int) ⟨(i : Int), magicE l i⟩; rw [h] at hq; exact ⟨q, hq⟩)
          clear hne
          go_wp2_with ((go_at_call 28; refine (fails.calls w wr r _ c l _ HM.out.rd (i : Int)).mono ?_; rw [HBAD.out]; rintro e_ w5 ⟨rfl, hr_, hg_⟩; have HM1 := Aside0.mk (HM.out.step hr_ hg_); obtain ⟨v1, hb1, hev⟩ := hr_.blk; have HE1 := Aside0.mk hev; clear hev; have HB1 := Aside0.mk hb1; have he0 := (blk_cell hb1 0).trans rfl; have he1 : w5.cell? ⟨r, 1, none⟩ = some (.int .i64 (i : Int)) := (blk_cell hb1 1).trans rfl; have hef := blk_frozen hb1 1; have hep : w5.cell? ⟨p, 0, none⟩ = some (.pointer (some ⟨r, 0, none⟩)) := (blk_cell HM1.out.ptr 0).trans rfl; clear hr_ hg_ hb1 hd0 hd1 hg1 hpp hm0))
          go_roundw
          case measure => have hq := HLT.out; simp only [intOf]; omega
          case rel =>
            have hx := HM1.out.rd.put (v := .nilIface) (y := 0) (x := v1) _ (put_set (j := 1) (x := .int .i64 ((i : Int) + 1)) HB1.out) ⟨((i + 1 : Nat) : Int), magicE l (i + 1)⟩ rfl HE1.out (by show (0 : Int) ≤ ((i + 1 : Nat) : Int); omega) (by have := HLT.out; show ((i + 1 : Nat) : Int) ≤ _; omega) (fun e => by obtain ⟨q, hq⟩ := HBN.out; rw [show magicE l (i + 1) = none from e] at hq; cases hq)
            exact ⟨i + 1, rfl, by have := HLT.out; omega, ⟨HM1.out.step hx.1 hx.2⟩⟩
    · have hi0 : i = 4 := by omega
      subst hi0
      have hltb : decide (((4 : Nat) : Int) < (4 : Int)) = false := by simp
      clear hlt hile hb hd0 hd1 hg1 HEV
      go_upto_region 10 with ((go_at_call 29; refine (rtext.calls w wr r A c l _ HM.out.rd HC.out HCC.out HL.out HBY.out).mono ?_; rintro e_ w1 ⟨rfl, hr_, hg_⟩; have HM1 := Aside0.mk (HM.out.step hr_ hg_); have hpp1 : w1.cell? ⟨p, 0, none⟩ = some (.pointer (some ⟨r, 0, none⟩)) := (blk_cell HM1.out.ptr 0).trans rfl; clear hr_ hg_ HM hpp))
      have hbx := below_alloc (Below.refl w1.heap.size w1) (.cells #[.string (textR l ⟨((4 : Nat) : Int), magicE l 4⟩).1, .slice none 0 0, .int .i64 0, .slice none 0 0, .slice none 0 0, .slice none 0 0] 27)
      have H := Aside0.mk (show RdO w (w1.alloc (.cells #[.string (textR l ⟨((4 : Nat) : Int), magicE l 4⟩).1, .slice none 0 0, .int .i64 0, .slice none 0 0, .slice none 0 0, .slice none 0 0] 27)).drew r p w1.heap.size q A c l (ra0 l) from
        RdO.below (W := w1.alloc (.cells #[.string (textR l ⟨((4 : Nat) : Int), magicE l 4⟩).1, .slice none 0 0, .int .i64 0, .slice none 0 0, .slice none 0 0, .slice none 0 0] 27)) ⟨HM1.out.rd.below hbx, blk_below HM1.out.ptr hbx, ⟨blk_below HM1.out.res hbx, Nat.ne_of_lt (blk_lt HM1.out.res)⟩, ⟨.slice none 0 0, .slice none 0 0, .slice none 0 0, .slice none 0 0, (MapKept.heap_alloc w1 _).1, Kd.R_nil _ _ _ _ (fun _ => True), Kd.R_nil _ _ _ _ (fun _ => True), Kd.R_nil _ _ _ _ (fun _ => True), Kd.R_nil _ _ _ _ (fun _ => True)⟩, HM1.out.rd.low.size⟩ (below_drew (Below.refl _ _)))
      have hpp : (w1.alloc (.cells #[.string (textR l ⟨((4 : Nat) : Int), magicE l 4⟩).1, .slice none 0 0, .int .i64 0, .slice none 0 0, .slice none 0 0, .slice none 0 0] 27)).drew.cell? ⟨p, 0, none⟩ = some (.pointer (some ⟨r, 0, none⟩)) := (blk_cell H.out.ptr 0).trans rfl
      clear hbx HM1 hpp1
      refine start_ (n := 5) (S := fun w' => w'.cell? ⟨p, 0, none⟩ = some (.pointer (some ⟨r, 0, none⟩))) (ds := [4]) #[false, false, false, false, false] (by kernel_rfl) rfl rfl hpp (fun hHeld => ?_)
      generalize (w1.alloc (.cells #[.string (textR l ⟨((4 : Nat) : Int), magicE l 4⟩).1, .slice none 0 0, .int .i64 0, .slice none 0 0, .slice none 0 0, .slice none 0 0] 27)).drew = wd at H hpp hHeld ⊢
      generalize w1.heap.size = g at H ⊢
      refine take_ (i := 0) (N := some 51) (v := ?_) (a' := ?_) #[true, false, false, false, false] rfl rfl (by kernel_rfl) (fun _ _ _ h => h) (Or.inl ⟨by rfl, ?_⟩) hHeld ?_ ?_
      rotate_left
      ·
        rintro w' s0
        go_simp
        with_reducible rfl
      rotate_left
      ·
        simp only [Act.put, List.setIfInBounds_toArray, List.set_cons_zero, List.set_cons_succ, i64_w, i32_w]
        rfl
      refine take_ (i := 1) (N := some 52) (v := ?_) (a' := ?_) #[true, true, false, false, false] rfl rfl (by kernel_rfl) (fun _ _ _ h => h) (Or.inl ⟨by rfl, ?_⟩) hHeld ?_ ?_
      rotate_left
      ·
        rintro w' s0
        go_simp
        with_reducible rfl
      rotate_left
      ·
        simp only [Act.put, List.setIfInBounds_toArray, List.set_cons_zero, List.set_cons_succ, i64_w, i32_w]
        rfl
      refine pure_ (i := 3) (N := some 54) (v := ?_) (a' := ?_) #[true, true, false, true, false] rfl rfl (by kernel_rfl) (fun _ _ _ h => h) (Or.inl ⟨by rfl, ?_⟩) ?_ ?_
      rotate_left
      ·
        intro w'
        go_simp
        with_reducible rfl
      rotate_left
      ·
        simp only [Act.put, List.setIfInBounds_toArray, List.set_cons_zero, List.set_cons_succ, i64_w, i32_w]
        rfl
      refine one_ (i := 2) (N := some 53) #[true, true, true, true, false] rfl rfl (by kernel_rfl) (by decide) (fun K hK => ?_)
      refine call_ 31 #[.pointer (some ⟨r, 0, none⟩), .int .i64 16384] rfl rfl (by first | rfl | (go_simp; done) | (go_simp; rfl)) ?_
      refine (count.calls w _ r A c l (ra0 l).rs H.out.rd HC.out HCC.out HL.out HBY.out 16384).mono ?_
      rintro e_ w2 ⟨rfl, hr_, hg_⟩
      refine ⟨_, rfl, ?_⟩
      have H2 := Aside0.mk (show RdO w w2 r p g q A c l (cntR l 16384 (ra0 l)) from H.out.step hr_ hg_)
      have hpp2 : w2.cell? ⟨p, 0, none⟩ = some (.pointer (some ⟨r, 0, none⟩)) := (blk_cell H2.out.ptr 0).trans rfl
      refine hK.out _ _ hpp2 (fun hHeld => ?_)
      clear hr_ hg_ H hpp
      clear hK K
      refine norm_ (a' := ?_) ?_ ?_
      rotate_left
      ·
        show Act.put _ (some 53) _ = _
        simp only [Act.put, List.setIfInBounds_toArray, List.set_cons_zero, List.set_cons_succ, i64_w, i32_w]
        rfl
      refine last_ (i := 4) (N := some 55) #[true, true, true, true, true] rfl rfl (by kernel_rfl) (by decide) (fun K hK => ?_)
      refine call_ 30 #[.pointer (some ⟨r, 0, none⟩), .int .i64 (countR l 16384 (ra0 l).rs).1, .func (.func 32) #[] #[.pointer (some ⟨g, 0, none⟩), .pointer (some ⟨p, 0, none⟩)]] rfl rfl (by first | rfl | (go_simp; done) | (go_simp; rfl)) ?_
      have hrg := countR_range l 16384 (ra0 l).rs HBY.out (by omega)
      have hcall := ev1.calls w w2 r p g q A c l (cntR l 16384 (ra0 l)) H2.out HC.out HCC.out HL.out HBY.out (countR l 16384 (ra0 l).rs).1.toNat (by show 0 + _ ≤ _; omega)
      rw [Int.toNat_of_nonneg hrg.1] at hcall
      refine hcall.mono ?_
      rintro e_ w3 ⟨rfl, h3⟩
      refine ⟨_, rfl, ?_⟩
      have H := Aside0.mk (show RdO w w3 r p g q A c l (ra1 l) from h3)
      have hpp : w3.cell? ⟨p, 0, none⟩ = some (.pointer (some ⟨r, 0, none⟩)) := (blk_cell H.out.ptr 0).trans rfl
      refine hK.out _ _ ?_
      clear hrg hcall h3 H2 hpp2
      clear hK K
      refine norm_ (a' := ?_) ?_ ?_
      rotate_left
      ·
        show Act.put _ (some 55) _ = _
        simp only [Act.put, List.setIfInBounds_toArray, List.set_cons_zero, List.set_cons_succ, i64_w, i32_w]
        rfl
      refine done_ (by kernel_rfl) ?_
      generalize w3 = W3 at H hpp ⊢
      go_upto_region 12 with ((go_at_call 31; refine (count.calls w _ r A c l (ra1 l).rs H.out.rd HC.out HCC.out HL.out HBY.out 2147483647).mono ?_; rintro e_ w4 ⟨rfl, hr_, hg_⟩; have H4 := Aside0.mk (show RdO w w4 r p g q A c l (cntR l 2147483647 (ra1 l)) from H.out.step hr_ hg_); have hpp4 : w4.cell? ⟨p, 0, none⟩ = some (.pointer (some ⟨r, 0, none⟩)) := (blk_cell H4.out.ptr 0).trans rfl; obtain ⟨v1, v3, v4, v5, ho_⟩ := H4.out.obj; have hg2 := (blk_cell ho_.blk 2).trans rfl; have hgf := blk_frozen ho_.blk 2; clear hr_ hg_ ho_ H hpp))
      have H := Aside0.mk (show RdO w (w4.setCell ⟨g, 2, none⟩ (.int .i64 (countR l 2147483647 (ra1 l).rs).1)).drew r p g q A c l (ra2 l) from H4.out.setDat.below (below_drew (Below.refl _ _)))
      have hpp : (w4.setCell ⟨g, 2, none⟩ (.int .i64 (countR l 2147483647 (ra1 l).rs).1)).drew.cell? ⟨p, 0, none⟩ = some (.pointer (some ⟨r, 0, none⟩)) := (blk_cell H.out.ptr 0).trans rfl
      clear H4 hpp4 hg2 hgf
      refine start_ (n := 5) (S := fun w' => w'.cell? ⟨p, 0, none⟩ = some (.pointer (some ⟨r, 0, none⟩))) (ds := [4]) #[false, false, false, false, false] (by kernel_rfl) rfl rfl hpp (fun hHeld => ?_)
      generalize (w4.setCell ⟨g, 2, none⟩ (.int .i64 (countR l 2147483647 (ra1 l).rs).1)).drew = wd at H hpp hHeld ⊢
      refine take_ (i := 0) (N := some 59) (v := ?_) (a' := ?_) #[true, false, false, false, false] rfl rfl (by kernel_rfl) (fun _ _ _ h => h) (Or.inl ⟨by rfl, ?_⟩) hHeld ?_ ?_
      rotate_left
      ·
        rintro w' s0
        go_simp
        with_reducible rfl
      rotate_left
      ·
        simp only [Act.put, List.setIfInBounds_toArray, List.set_cons_zero, List.set_cons_succ, i64_w, i32_w]
        rfl
      refine take_ (i := 1) (N := some 60) (v := ?_) (a' := ?_) #[true, true, false, false, false] rfl rfl (by kernel_rfl) (fun _ _ _ h => h) (Or.inl ⟨by rfl, ?_⟩) hHeld ?_ ?_
      rotate_left
      ·
        rintro w' s0
        go_simp
        with_reducible rfl
      rotate_left
      ·
        simp only [Act.put, List.setIfInBounds_toArray, List.set_cons_zero, List.set_cons_succ, i64_w, i32_w]
        rfl
      refine pure_ (i := 3) (N := some 62) (v := ?_) (a' := ?_) #[true, true, false, true, false] rfl rfl (by kernel_rfl) (fun _ _ _ h => h) (Or.inl ⟨by rfl, ?_⟩) ?_ ?_
      rotate_left
      ·
        intro w'
        go_simp
        with_reducible rfl
      rotate_left
      ·
        simp only [Act.put, List.setIfInBounds_toArray, List.set_cons_zero, List.set_cons_succ, i64_w, i32_w]
        rfl
      refine one_ (i := 2) (N := some 61) #[true, true, true, true, false] rfl rfl (by kernel_rfl) (by decide) (fun K hK => ?_)
      refine call_ 31 #[.pointer (some ⟨r, 0, none⟩), .int .i64 4096] rfl rfl (by first | rfl | (go_simp; done) | (go_simp; rfl)) ?_
      refine (count.calls w _ r A c l (ra2 l).rs H.out.rd HC.out HCC.out HL.out HBY.out 4096).mono ?_
      rintro e_ w2 ⟨rfl, hr_, hg_⟩
      refine ⟨_, rfl, ?_⟩
      have H2 := Aside0.mk (show RdO w w2 r p g q A c l (cntR l 4096 (ra2 l)) from H.out.step hr_ hg_)
      have hpp2 : w2.cell? ⟨p, 0, none⟩ = some (.pointer (some ⟨r, 0, none⟩)) := (blk_cell H2.out.ptr 0).trans rfl
      refine hK.out _ _ hpp2 (fun hHeld => ?_)
      clear hr_ hg_ H hpp
      clear hK K
      refine norm_ (a' := ?_) ?_ ?_
      rotate_left
      ·
        show Act.put _ (some 61) _ = _
        simp only [Act.put, List.setIfInBounds_toArray, List.set_cons_zero, List.set_cons_succ, i64_w, i32_w]
        rfl
      refine last_ (i := 4) (N := some 63) #[true, true, true, true, true] rfl rfl (by kernel_rfl) (by decide) (fun K hK => ?_)
      refine call_ 30 #[.pointer (some ⟨r, 0, none⟩), .int .i64 (countR l 4096 (ra2 l).rs).1, .func (.func 34) #[] #[.pointer (some ⟨g, 0, none⟩), .pointer (some ⟨p, 0, none⟩)]] rfl rfl (by first | rfl | (go_simp; done) | (go_simp; rfl)) ?_
      have hrg := countR_range l 4096 (ra2 l).rs HBY.out (by omega)
      have hcall := ev2.calls w w2 r p g q A c l (cntR l 4096 (ra2 l)) H2.out HC.out HCC.out HL.out HBY.out (countR l 4096 (ra2 l).rs).1.toNat (by show (ra2 l).data.length + _ ≤ _; rw [ra2_data]; show 0 + _ ≤ _; omega)
      rw [Int.toNat_of_nonneg hrg.1] at hcall
      refine hcall.mono ?_
      rintro e_ w3 ⟨rfl, h3⟩
      refine ⟨_, rfl, ?_⟩
      have H := Aside0.mk (show RdO w w3 r p g q A c l (ra3 l) from h3)
      have hpp : w3.cell? ⟨p, 0, none⟩ = some (.pointer (some ⟨r, 0, none⟩)) := (blk_cell H.out.ptr 0).trans rfl
      refine hK.out _ _ ?_
      clear hrg hcall h3 H2 hpp2
      clear hK K
      refine norm_ (a' := ?_) ?_ ?_
      rotate_left
      ·
        show Act.put _ (some 63) _ = _
        simp only [Act.put, List.setIfInBounds_toArray, List.set_cons_zero, List.set_cons_succ, i64_w, i32_w]
        rfl
      refine done_ (by kernel_rfl) ?_
      generalize w3 = W3 at H hpp ⊢
      go_upto_region 13 with (fail)
      have Hn := Aside0.mk (H.out.below (below_drew (Below.refl _ _)))
      clear H hpp
      have H := Hn
      clear Hn
      have hpp : W3.drew.cell? ⟨p, 0, none⟩ = some (.pointer (some ⟨r, 0, none⟩)) := (blk_cell H.out.ptr 0).trans rfl
      refine start_ (n := 5) (S := fun w' => w'.cell? ⟨p, 0, none⟩ = some (.pointer (some ⟨r, 0, none⟩))) (ds := [4]) #[false, false, false, false, false] (by kernel_rfl) rfl rfl hpp (fun hHeld => ?_)
      generalize W3.drew = wd at H hpp hHeld ⊢
      refine take_ (i := 0) (N := some 64) (v := ?_) (a' := ?_) #[true, false, false, false, false] rfl rfl (by kernel_rfl) (fun _ _ _ h => h) (Or.inl ⟨by rfl, ?_⟩) hHeld ?_ ?_
      rotate_left
      ·
        rintro w' s0
        go_simp
        with_reducible rfl
      rotate_left
      ·
        simp only [Act.put, List.setIfInBounds_toArray, List.set_cons_zero, List.set_cons_succ, i64_w, i32_w]
        rfl
      refine take_ (i := 1) (N := some 65) (v := ?_) (a' := ?_) #[true, true, false, false, false] rfl rfl (by kernel_rfl) (fun _ _ _ h => h) (Or.inl ⟨by rfl, ?_⟩) hHeld ?_ ?_
      rotate_left
      ·
        rintro w' s0
        go_simp
        with_reducible rfl
      rotate_left
      ·
        simp only [Act.put, List.setIfInBounds_toArray, List.set_cons_zero, List.set_cons_succ, i64_w, i32_w]
        rfl
      refine pure_ (i := 3) (N := some 67) (v := ?_) (a' := ?_) #[true, true, false, true, false] rfl rfl (by kernel_rfl) (fun _ _ _ h => h) (Or.inl ⟨by rfl, ?_⟩) ?_ ?_
      rotate_left
      ·
        intro w'
        go_simp
        with_reducible rfl
      rotate_left
      ·
        simp only [Act.put, List.setIfInBounds_toArray, List.set_cons_zero, List.set_cons_succ, i64_w, i32_w]
        rfl
      refine one_ (i := 2) (N := some 66) #[true, true, true, true, false] rfl rfl (by kernel_rfl) (by decide) (fun K hK => ?_)
      refine call_ 31 #[.pointer (some ⟨r, 0, none⟩), .int .i64 256] rfl rfl (by first | rfl | (go_simp; done) | (go_simp; rfl)) ?_
      refine (count.calls w _ r A c l (ra3 l).rs H.out.rd HC.out HCC.out HL.out HBY.out 256).mono ?_
      rintro e_ w2 ⟨rfl, hr_, hg_⟩
      refine ⟨_, rfl, ?_⟩
      have H2 := Aside0.mk (show RdO w w2 r p g q A c l (cntR l 256 (ra3 l)) from H.out.step hr_ hg_)
      have hpp2 : w2.cell? ⟨p, 0, none⟩ = some (.pointer (some ⟨r, 0, none⟩)) := (blk_cell H2.out.ptr 0).trans rfl
      refine hK.out _ _ hpp2 (fun hHeld => ?_)
      clear hr_ hg_ H hpp
      clear hK K
      refine norm_ (a' := ?_) ?_ ?_
      rotate_left
      ·
        show Act.put _ (some 66) _ = _
        simp only [Act.put, List.setIfInBounds_toArray, List.set_cons_zero, List.set_cons_succ, i64_w, i32_w]
        rfl
      refine last_ (i := 4) (N := some 68) #[true, true, true, true, true] rfl rfl (by kernel_rfl) (by decide) (fun K hK => ?_)
      refine call_ 30 #[.pointer (some ⟨r, 0, none⟩), .int .i64 (countR l 256 (ra3 l).rs).1, .func (.func 36) #[] #[.pointer (some ⟨p, 0, none⟩), .pointer (some ⟨g, 0, none⟩)]] rfl rfl (by first | rfl | (go_simp; done) | (go_simp; rfl)) ?_
      have hrg := countR_range l 256 (ra3 l).rs HBY.out (by omega)
      have hcall := ev3.calls w w2 r p g q A c l (cntR l 256 (ra3 l)) H2.out HC.out HCC.out HL.out HBY.out (countR l 256 (ra3 l).rs).1.toNat (by show (ra3 l).syms.length + _ ≤ _; rw [ra3_syms]; show 0 + _ ≤ _; omega)
      rw [Int.toNat_of_nonneg hrg.1] at hcall
      refine hcall.mono ?_
      rintro e_ w3 ⟨rfl, h3⟩
      refine ⟨_, rfl, ?_⟩
      have H := Aside0.mk (show RdO w w3 r p g q A c l (ra4 l) from h3)
      have hpp : w3.cell? ⟨p, 0, none⟩ = some (.pointer (some ⟨r, 0, none⟩)) := (blk_cell H.out.ptr 0).trans rfl
      refine hK.out _ _ ?_
      clear hrg hcall h3 H2 hpp2
      clear hK K
      refine norm_ (a' := ?_) ?_ ?_
      rotate_left
      ·
        show Act.put _ (some 68) _ = _
        simp only [Act.put, List.setIfInBounds_toArray, List.set_cons_zero, List.set_cons_succ, i64_w, i32_w]
        rfl
      refine done_ (by kernel_rfl) ?_
      generalize w3 = W3 at H hpp ⊢
      go_upto_region 14 with (fail)
      have Hn := Aside0.mk (H.out.below (below_drew (Below.refl _ _)))
      clear H hpp
      have H := Hn
      clear Hn
      have hpp : W3.drew.cell? ⟨p, 0, none⟩ = some (.pointer (some ⟨r, 0, none⟩)) := (blk_cell H.out.ptr 0).trans rfl
      obtain ⟨v1, v3, v4, v5, ho_⟩ := H.out.obj
      obtain ⟨Ac, cc, ec⟩ := Kd.R_slice ho_.r1
      subst ec
      have HO4 := Aside0.mk ho_
      have hcc1 : W3.drew.cell? ⟨g, 1, none⟩ = some (.slice Ac (ra4 l).code.length cc) := (blk_cell HO4.out.blk 1).trans rfl
      have HCL := Aside0.mk (ra4_code l HBY.out)
      clear ho_
      refine start_ (n := 8) (S := fun w' => w'.cell? ⟨p, 0, none⟩ = some (.pointer (some ⟨r, 0, none⟩)) ∧ w'.cell? ⟨g, 1, none⟩ = some (.slice Ac (ra4 l).code.length cc)) (ds := [7]) #[false, false, false, false, false, false, false, false] (by kernel_rfl) rfl rfl ⟨hpp, hcc1⟩ (fun hHeld => ?_)
      generalize W3.drew = wd at H hpp hHeld hcc1 HO4 ⊢
      refine take_ (i := 0) (N := some 69) (v := ?_) (a' := ?_) #[true, false, false, false, false, false, false, false] rfl rfl (by kernel_rfl) (fun _ _ _ h => h) (Or.inl ⟨by rfl, ?_⟩) hHeld ?_ ?_
      rotate_left
      ·
        rintro w' ⟨s0, s1⟩
        go_simp
        with_reducible rfl
      rotate_left
      ·
        simp only [Act.put, List.setIfInBounds_toArray, List.set_cons_zero, List.set_cons_succ, i64_w, i32_w]
        rfl
      refine take_ (i := 1) (N := some 70) (v := ?_) (a' := ?_) #[true, true, false, false, false, false, false, false] rfl rfl (by kernel_rfl) (fun _ _ _ h => h) (Or.inl ⟨by rfl, ?_⟩) hHeld ?_ ?_
      rotate_left
      ·
        rintro w' ⟨s0, s1⟩
        go_simp
        with_reducible rfl
      rotate_left
      ·
        simp only [Act.put, List.setIfInBounds_toArray, List.set_cons_zero, List.set_cons_succ, i64_w, i32_w]
        rfl
      refine pure_ (i := 2) (N := some 71) (v := ?_) (a' := ?_) #[true, true, true, false, false, false, false, false] rfl rfl (by kernel_rfl) (fun _ _ _ h => h) (Or.inl ⟨by rfl, ?_⟩) ?_ ?_
      rotate_left
      ·
        intro w'
        go_simp
        with_reducible rfl
      rotate_left
      ·
        simp only [Act.put, List.setIfInBounds_toArray, List.set_cons_zero, List.set_cons_succ, i64_w, i32_w]
        rfl
      refine take_ (i := 3) (N := some 72) (v := ?_) (a' := ?_) #[true, true, true, true, false, false, false, false] rfl rfl (by kernel_rfl) (fun _ _ _ h => h) (Or.inl ⟨by rfl, ?_⟩) hHeld ?_ ?_
      rotate_left
      ·
        rintro w' ⟨s0, s1⟩
        go_simp
        with_reducible rfl
      rotate_left
      ·
        simp only [Act.put, List.setIfInBounds_toArray, List.set_cons_zero, List.set_cons_succ, i64_w, i32_w]
        rfl
      refine pure_ (i := 4) (N := some 73) (v := ?_) (a' := ?_) #[true, true, true, true, true, false, false, false] rfl rfl (by kernel_rfl) (fun _ _ _ h => h) (Or.inl ⟨by rfl, ?_⟩) ?_ ?_
      rotate_left
      ·
        intro w'
        go_simp
        with_reducible rfl
      rotate_left
      ·
        simp only [Act.put, List.setIfInBounds_toArray, List.set_cons_zero, List.set_cons_succ, i64_w, i32_w]
        rfl
      refine pure_ (i := 6) (N := some 75) (v := ?_) (a' := ?_) #[true, true, true, true, true, false, true, false] rfl rfl (by kernel_rfl) (fun _ _ _ h => h) (Or.inl ⟨by rfl, ?_⟩) ?_ ?_
      rotate_left
      ·
        intro w'
        go_simp
        with_reducible rfl
      rotate_left
      ·
        simp only [Act.put, List.setIfInBounds_toArray, List.set_cons_zero, List.set_cons_succ, i64_w, i32_w]
        rfl
      refine one_ (i := 5) (N := some 74) #[true, true, true, true, true, true, true, false] rfl rfl (by kernel_rfl) (by decide) (fun K hK => ?_)
      refine call_ 31 #[.pointer (some ⟨r, 0, none⟩), .int .i64 ((ra4 l).code.length : Int)] rfl rfl (by first | rfl | (go_simp; done) | (go_simp; rfl)) ?_
      refine (count.calls w _ r A c l (ra4 l).rs H.out.rd HC.out HCC.out HL.out HBY.out ((ra4 l).code.length : Int)).mono ?_
      rintro e_ w2 ⟨rfl, hr_, hg_⟩
      refine ⟨_, rfl, ?_⟩
      have H2 := Aside0.mk (show RdO w w2 r p g q A c l (cntR l ((ra4 l).code.length : Int) (ra4 l)) from H.out.step hr_ hg_)
      have hpp2 : w2.cell? ⟨p, 0, none⟩ = some (.pointer (some ⟨r, 0, none⟩)) := (blk_cell H2.out.ptr 0).trans rfl
      obtain ⟨vr, hvr, _⟩ := H.out.rd.blk
      have hcc2 : w2.cell? ⟨g, 1, none⟩ = some (.slice Ac (ra4 l).code.length cc) := (blk_cell (HO4.out.grown (s := (countR l ((ra4 l).code.length : Int) (ra4 l).rs).2) hvr hg_).blk 1).trans rfl
      refine hK.out _ _ ⟨hpp2, hcc2⟩ (fun hHeld => ?_)
      clear hr_ hg_ H hpp hcc1 hvr HO4
      clear hK K
      refine norm_ (a' := ?_) ?_ ?_
      rotate_left
      ·
        show Act.put _ (some 74) _ = _
        simp only [Act.put, List.setIfInBounds_toArray, List.set_cons_zero, List.set_cons_succ, i64_w, i32_w]
        rfl
      refine last_ (i := 7) (N := some 76) #[true, true, true, true, true, true, true, true] rfl rfl (by kernel_rfl) (by decide) (fun K hK => ?_)
      refine call_ 30 #[.pointer (some ⟨r, 0, none⟩), .int .i64 (countR l ((ra4 l).code.length : Int) (ra4 l).rs).1, .func (.func 37) #[] #[.pointer (some ⟨p, 0, none⟩), .pointer (some ⟨g, 0, none⟩)]] rfl rfl (by first | rfl | (go_simp; done) | (go_simp; rfl)) ?_
      have hrg := countR_range l ((ra4 l).code.length : Int) (ra4 l).rs HBY.out (by omega)
      have hcall := ev4.calls w w2 r p g q A c l (cntR l ((ra4 l).code.length : Int) (ra4 l)) H2.out HC.out HCC.out HL.out HBY.out (countR l ((ra4 l).code.length : Int) (ra4 l).rs).1.toNat (by have := HCL.out; show (ra4 l).rels.length + _ ≤ _; rw [ra4_rels]; show 0 + _ ≤ _; omega)
      rw [Int.toNat_of_nonneg hrg.1] at hcall
      refine hcall.mono ?_
      rintro e_ w3 ⟨rfl, h3⟩
      refine ⟨_, rfl, ?_⟩
      have H := Aside0.mk (show RdO w w3 r p g q A c l (ra5 l) from h3)
      have hpp : w3.cell? ⟨p, 0, none⟩ = some (.pointer (some ⟨r, 0, none⟩)) := (blk_cell H.out.ptr 0).trans rfl
      refine hK.out _ _ ?_
      clear hrg hcall h3 H2 hpp2 hcc2
      clear hK K
      refine norm_ (a' := ?_) ?_ ?_
      rotate_left
      ·
        show Act.put _ (some 76) _ = _
        simp only [Act.put, List.setIfInBounds_toArray, List.set_cons_zero, List.set_cons_succ, i64_w, i32_w]
        rfl
      refine done_ (by kernel_rfl) ?_
      generalize w3 = W3 at H hpp ⊢
      obtain ⟨v, hb, _⟩ := H.out.rd.blk
      have RA0 := Aside0.mk H.out.rd.at0
      have he1 := (blk_cell hb 1).trans rfl
      clear hb
      go_upto_region 17 with ((go_at_call 33; refine (num32.calls w _ r A c l (ra5 l).rs H.out.rd HC.out HCC.out HL.out HBY.out).mono ?_; rintro e_ w6 ⟨rfl, hr_, hg_⟩; have H6 := Aside0.mk (show RdO w w6 r p g q A c l (a6 l) from H.out.step hr_ hg_); have hpp6 : w6.cell? ⟨p, 0, none⟩ = some (.pointer (some ⟨r, 0, none⟩)) := (blk_cell H6.out.ptr 0).trans rfl; clear hr_ hg_ H hpp he1))
      obtain ⟨v6, hb, he⟩ := H6.out.rd.blk
      have hd0 := (blk_cell hb 0).trans rfl
      have hd1 : w6.cell? ⟨r, 1, none⟩ = some (.int .i64 (a6 l).rs.at_) := (blk_cell hb 1).trans rfl
      have hd2 := (blk_cell hb 2).trans rfl
      clear hb
      cases hs : (a6 l).rs.er with
      | some x =>
        rw [hs] at he
        obtain ⟨ee, rfl, hee, hxe⟩ := he
        have HRC := Aside0.mk (show readC l = (27, x) by unfold readC endS; rw [hs]; simp only []; rw [hs])
        have HXE := Aside0.mk hxe
        clear hs hee hxe
        go_upto_region 20 with (fail)
        have hbx := below_alloc (Below.refl w6.heap.size w6) (.cells #[.pointer none] 88)
        have H7 := Aside0.mk (H6.out.below hbx)
        have HT := Aside0.mk (MapKept.heap_alloc w6 (.cells #[.pointer none] 88)).1
        have HXE7 := Aside0.mk (blk_below HXE.out hbx)
        have HTW := Aside0.mk (show w.heap.size ≤ w6.heap.size from H6.out.rd.low.size)
        have hk0 : (w6.alloc (.cells #[.pointer none] 88)).cell? ⟨p, 0, none⟩ = some (.pointer (some ⟨r, 0, none⟩)) := (blk_cell H7.out.ptr 0).trans rfl
        have hk2 := (World.cell?_alloc_lt w6 (.cells #[.pointer none] 88) _ (World.block_lt_of_cell? _ _ hd2)).trans hd2
        have HG7 := Aside0.mk (pw_cell_below H7.out.rd.low HGL.out)
        clear hbx H6 hpp6 hd0 hd1 hd2 HXE
        generalize w6.alloc (.cells #[.pointer none] 88) = w7 at H7 HT HXE7 hk0 hk2 HG7 ⊢
        generalize w6.heap.size = t at HT HTW ⊢
        try clear hx_
        go_upto_region 21 with ((go_at_call 38; refine (as_calls ee t (.pointer none) _ HG7.out HT.out).mono ?_; rintro e_ w8 ⟨rfl, hg8, hb8⟩; have HB8 := Aside0.mk hb8; have HG8 := Aside0.mk hg8; clear hg8 hb8 hk0 hk2))
        have HE8 := Aside0.mk ((HG8.out.block ee (blk_lt HXE7.out) (fun z => ne_types HXE7.out HT.out (by decide) (Option.some.inj z))).trans HXE7.out)
        have HQ8 := Aside0.mk ((HG8.out.block q (blk_lt H7.out.res.1) (fun z => ne_types H7.out.res.1 HT.out (by decide) (Option.some.inj z))).trans H7.out.res.1)
        have HL8 := Aside0.mk (below_drew (below_grown H7.out.rd.low HTW.out HG8.out))
        have HQW := Aside0.mk (show w.heap.size ≤ q from QW.out)
        have hz1 : w8.drew.cell? ⟨t, 0, none⟩ = some (.pointer (some ⟨ee, 0, none⟩)) := (blk_cell HB8.out 0).trans rfl
        have hz2 : w8.drew.cell? ⟨ee, 0, none⟩ = some (.int .i64 x) := (blk_cell HE8.out 0).trans rfl
        have HQ9 := Aside0.mk (show w8.drew.heap[q]? = some (.cells zObj 27 (0, 0)) from HQ8.out)
        have HB8D := Aside0.mk (show w8.drew.heap[t]? = some (.cells #[.pointer (some ⟨ee, 0, none⟩)] 88 (0, 0)) from HB8.out)
        have HE8D := Aside0.mk (show w8.drew.heap[ee]? = some (.cells #[.int .i64 x] 92 (0, 0)) from HE8.out)
        have hu5 := Tryd.underlying92
        clear H7 HT HXE7 HG7 HG8 HE8 HQ8 HB8
        refine start_ (n := 8) (S := fun w' => w'.cell? ⟨t, 0, none⟩ = some (.pointer (some ⟨ee, 0, none⟩)) ∧ w'.cell? ⟨ee, 0, none⟩ = some (.int .i64 x) ∧ w'.heap[q]? = some (.cells zObj 27 (0, 0)) ∧ Below w.heap.size w w') (ds := []) #[false, false, false, false, false, false, false, false] (by kernel_rfl) rfl rfl ⟨hz1, hz2, HQ9.out, HL8.out⟩ (fun hHeld => ?_)
        refine pure_ (i := 0) (N := some 109) (v := ?_) (a' := ?_) #[true, false, false, false, false, false, false, false] rfl rfl (by kernel_rfl) (fun _ _ _ h => h) (Or.inl ⟨by rfl, ?_⟩) ?_ ?_
        rotate_left
        ·
          intro w'
          go_simp
          with_reducible rfl
        rotate_left
        ·
          simp only [Act.put, List.setIfInBounds_toArray, List.set_cons_zero, List.set_cons_succ, i64_w, i32_w]
          rfl
        refine take_ (i := 1) (N := some 110) (v := ?_) (a' := ?_) #[true, true, false, false, false, false, false, false] rfl rfl (by kernel_rfl) (fun _ _ _ h => h) (Or.inl ⟨by rfl, ?_⟩) hHeld ?_ ?_
        rotate_left
        ·
          rintro w' ⟨s0, s1, _, _⟩
          go_simp
          with_reducible rfl
        rotate_left
        ·
          simp only [Act.put, List.setIfInBounds_toArray, List.set_cons_zero, List.set_cons_succ, i64_w, i32_w]
          rfl
        refine pure_ (i := 2) (N := some 111) (v := ?_) (a' := ?_) #[true, true, true, false, false, false, false, false] rfl rfl (by kernel_rfl) (fun _ _ _ h => h) (Or.inl ⟨by rfl, ?_⟩) ?_ ?_
        rotate_left
        ·
          intro w'
          go_simp
          with_reducible rfl
        rotate_left
        ·
          simp only [Act.put, List.setIfInBounds_toArray, List.set_cons_zero, List.set_cons_succ, i64_w, i32_w]
          rfl
        refine pure_ (i := 3) (N := some 112) (v := ?_) (a' := ?_) #[true, true, true, true, false, false, false, false] rfl rfl (by kernel_rfl) (fun _ _ _ h => h) (Or.inl ⟨by rfl, ?_⟩) ?_ ?_
        rotate_left
        ·
          intro w'
          go_simp
          with_reducible rfl
        rotate_left
        ·
          simp only [Act.put, List.setIfInBounds_toArray, List.set_cons_zero, List.set_cons_succ, i64_w, i32_w]
          rfl
        refine take_ (i := 4) (N := some 113) (v := ?_) (a' := ?_) #[true, true, true, true, true, false, false, false] rfl rfl (by kernel_rfl) (fun _ _ _ h => h) (Or.inl ⟨by rfl, ?_⟩) hHeld ?_ ?_
        rotate_left
        ·
          rintro w' ⟨s0, s1, _, _⟩
          go_simp
          with_reducible rfl
        rotate_left
        ·
          simp only [Act.put, List.setIfInBounds_toArray, List.set_cons_zero, List.set_cons_succ, i64_w, i32_w]
          rfl
        refine one_ (i := 5) (N := none) #[true, true, true, true, true, true, false, false] rfl rfl (by kernel_rfl) (by decide) (fun K hK => ?_)
        refine step_store_whole (by rfl) rfl rfl q zObj zObj 27 rfl (by first | rfl | (go_simp; rfl)) HQ9.out (by kernel_rfl) rfl (by kernel_rfl) ?_
        intro w9 hp9
        have HL9 := Aside0.mk (hp9.below HL8.out HQW.out)
        have hq9 := hp9.blk
        refine hK.out _ _ ⟨(blk_cell ((hp9.far t (fun z => ne_types HB8D.out HQ9.out (by decide) z)).trans HB8D.out) 0).trans rfl, (blk_cell ((hp9.far ee (fun z => ne_types HE8D.out HQ9.out (by decide) z)).trans HE8D.out) 0).trans rfl, hq9, HL9.out⟩ (fun hHeld => ?_)
        clear hz1 hz2 HQ9 HL8 HB8D HE8D hK K
        refine pure_ (i := 6) (N := some 3) (v := ?_) (a' := ?_) #[true, true, true, true, true, true, true, false] rfl rfl (by kernel_rfl) (fun _ _ _ h => h) (Or.inl ⟨by rfl, ?_⟩) ?_ ?_
        rotate_left
        ·
          intro w'
          go_simp
          with_reducible rfl
        rotate_left
        ·
          simp only [Act.put, List.setIfInBounds_toArray, List.set_cons_zero, List.set_cons_succ, i64_w, i32_w]
          rfl
        refine pure_ (i := 7) (N := some 4) (v := ?_) (a' := ?_) #[true, true, true, true, true, true, true, true] rfl rfl (by kernel_rfl) (fun _ _ _ h => h) (Or.inl ⟨by rfl, ?_⟩) ?_ ?_
        rotate_left
        ·
          intro w'
          go_simp
          with_reducible rfl
        rotate_left
        ·
          simp only [Act.put, List.setIfInBounds_toArray, List.set_cons_zero, List.set_cons_succ, i64_w, i32_w]
          rfl
        refine done_ (by kernel_rfl) ?_
        go_wp2
        refine bodyPost_ret (results_cell_tmp2 rfl _ _ q 27 zObj (0, 0) _ rfl hq9 hu1 rfl (by kernel_rfl)) rfl ?_
        rw [HRC.out]
        exact ⟨zObj, rfl, HL9.out, fun h => absurd h (show ¬ (27 : Int) = 0 by decide), fun _ => rfl⟩
      | none =>
        rw [hs] at he
        obtain rfl : v6 = .nilIface := he
        by_cases hlt : (a6 l).rs.at_ < (l.length : Int)
        · have hltb : decide ((a6 l).rs.at_ < (l.length : Int)) = true := decide_eq_true hlt
          have HRC := Aside0.mk (show readC l = (27, (a6 l).rs.at_) by unfold readC endS; rw [hs]; simp only []; rw [if_pos hlt]; unfold failsR; rw [hs])
          have HFS := Aside0.mk (show failsR (a6 l).rs.at_ (a6 l).rs = ⟨(a6 l).rs.at_, some (a6 l).rs.at_⟩ by unfold failsR; rw [hs])
          clear hs hlt
          go_upto_region 18 with (fail)
          clear hltb
          have H6d := Aside0.mk (H6.out.below (below_drew (Below.refl _ _)))
          have hppd : w6.drew.cell? ⟨p, 0, none⟩ = some (.pointer (some ⟨r, 0, none⟩)) := hpp6
          have hd1d : w6.drew.cell? ⟨r, 1, none⟩ = some (.int .i64 (a6 l).rs.at_) := hd1
          clear H6 hpp6 hd0 hd1 hd2
          refine start_ (n := 6) (S := fun w' => w'.cell? ⟨p, 0, none⟩ = some (.pointer (some ⟨r, 0, none⟩)) ∧ w'.cell? ⟨r, 1, none⟩ = some (.int .i64 (a6 l).rs.at_)) (ds := [5]) #[false, false, false, false, false, false] (by kernel_rfl) rfl rfl ⟨hppd, hd1d⟩ (fun hHeld => ?_)
          generalize w6.drew = wd at H6d hppd hd1d hHeld ⊢
          refine take_ (i := 0) (N := some 97) (v := ?_) (a' := ?_) #[true, false, false, false, false, false] rfl rfl (by kernel_rfl) (fun _ _ _ h => h) (Or.inl ⟨by rfl, ?_⟩) hHeld ?_ ?_
          rotate_left
          ·
            rintro w' ⟨s0, s1⟩
            go_simp
            with_reducible rfl
          rotate_left
          ·
            simp only [Act.put, List.setIfInBounds_toArray, List.set_cons_zero, List.set_cons_succ, i64_w, i32_w]
            rfl
          refine take_ (i := 1) (N := some 98) (v := ?_) (a' := ?_) #[true, true, false, false, false, false] rfl rfl (by kernel_rfl) (fun _ _ _ h => h) (Or.inl ⟨by rfl, ?_⟩) hHeld ?_ ?_
          rotate_left
          ·
            rintro w' ⟨s0, s1⟩
            go_simp
            with_reducible rfl
          rotate_left
          ·
            simp only [Act.put, List.setIfInBounds_toArray, List.set_cons_zero, List.set_cons_succ, i64_w, i32_w]
            rfl
          refine pure_ (i := 2) (N := some 99) (v := ?_) (a' := ?_) #[true, true, true, false, false, false] rfl rfl (by kernel_rfl) (fun _ _ _ h => h) (Or.inl ⟨by rfl, ?_⟩) ?_ ?_
          rotate_left
          ·
            intro w'
            go_simp
            with_reducible rfl
          rotate_left
          ·
            simp only [Act.put, List.setIfInBounds_toArray, List.set_cons_zero, List.set_cons_succ, i64_w, i32_w]
            rfl
          refine pure_ (i := 3) (N := some 100) (v := ?_) (a' := ?_) #[true, true, true, true, false, false] rfl rfl (by kernel_rfl) (fun _ _ _ h => h) (Or.inl ⟨by rfl, ?_⟩) ?_ ?_
          rotate_left
          ·
            intro w'
            go_simp
            with_reducible rfl
          rotate_left
          ·
            simp only [Act.put, List.setIfInBounds_toArray, List.set_cons_zero, List.set_cons_succ, i64_w, i32_w]
            rfl
          refine take_ (i := 4) (N := some 101) (v := ?_) (a' := ?_) #[true, true, true, true, true, false] rfl rfl (by kernel_rfl) (fun _ _ _ h => h) (Or.inl ⟨by rfl, ?_⟩) hHeld ?_ ?_
          rotate_left
          ·
            rintro w' ⟨s0, s1⟩
            go_simp
            with_reducible rfl
          rotate_left
          ·
            simp only [Act.put, List.setIfInBounds_toArray, List.set_cons_zero, List.set_cons_succ, i64_w, i32_w]
            rfl
          refine last_ (i := 5) (N := some 102) #[true, true, true, true, true, true] rfl rfl (by kernel_rfl) (by decide) (fun K hK => ?_)
          refine call_ 28 #[.pointer (some ⟨r, 0, none⟩), .int .i64 (a6 l).rs.at_] rfl rfl (by first | rfl | (go_simp; done) | (go_simp; rfl)) ?_
          refine (fails.calls w _ r A c l (a6 l).rs H6d.out.rd (a6 l).rs.at_).mono ?_
          rw [HFS.out]
          rintro e_ w8 ⟨rfl, hr_, hg_⟩
          refine ⟨_, rfl, ?_⟩
          have H6 := Aside0.mk (H6d.out.step hr_ hg_)
          have hpp6 : w8.cell? ⟨p, 0, none⟩ = some (.pointer (some ⟨r, 0, none⟩)) := (blk_cell H6.out.ptr 0).trans rfl
          obtain ⟨v8, hb, he⟩ := hr_.blk
          obtain ⟨ee, rfl, hee, hxe⟩ := he
          have hd0 := (blk_cell hb 0).trans rfl
          have hd1 := (blk_cell hb 1).trans rfl
          have hd2 := (blk_cell hb 2).trans rfl
          have HXE := Aside0.mk hxe
          refine hK.out _ _ ?_
          clear hr_ hg_ hb hee hxe H6d hppd hd1d
          clear hK K
          refine norm_ (a' := ?_) ?_ ?_
          rotate_left
          ·
            show Act.put _ (some 102) _ = _
            simp only [Act.put, List.setIfInBounds_toArray, List.set_cons_zero, List.set_cons_succ, i64_w, i32_w]
            rfl
          refine done_ (by kernel_rfl) ?_
          generalize hx_ : (a6 l).rs.at_ = x at HXE HRC ⊢
          generalize w8 = w6 at H6 hpp6 hd0 hd1 hd2 HXE ⊢
          go_upto_region 20 with (fail)
          have hbx := below_alloc (Below.refl w6.heap.size w6) (.cells #[.pointer none] 88)
          have H7 := Aside0.mk (H6.out.below hbx)
          have HT := Aside0.mk (MapKept.heap_alloc w6 (.cells #[.pointer none] 88)).1
          have HXE7 := Aside0.mk (blk_below HXE.out hbx)
          have HTW := Aside0.mk (show w.heap.size ≤ w6.heap.size from H6.out.rd.low.size)
          have hk0 : (w6.alloc (.cells #[.pointer none] 88)).cell? ⟨p, 0, none⟩ = some (.pointer (some ⟨r, 0, none⟩)) := (blk_cell H7.out.ptr 0).trans rfl
          have hk2 := (World.cell?_alloc_lt w6 (.cells #[.pointer none] 88) _ (World.block_lt_of_cell? _ _ hd2)).trans hd2
          have HG7 := Aside0.mk (pw_cell_below H7.out.rd.low HGL.out)
          clear hbx H6 hpp6 hd0 hd1 hd2 HXE
          generalize w6.alloc (.cells #[.pointer none] 88) = w7 at H7 HT HXE7 hk0 hk2 HG7 ⊢
          generalize w6.heap.size = t at HT HTW ⊢
          try clear hx_
          go_upto_region 21 with ((go_at_call 38; refine (as_calls ee t (.pointer none) _ HG7.out HT.out).mono ?_; rintro e_ w8 ⟨rfl, hg8, hb8⟩; have HB8 := Aside0.mk hb8; have HG8 := Aside0.mk hg8; clear hg8 hb8 hk0 hk2))
          have HE8 := Aside0.mk ((HG8.out.block ee (blk_lt HXE7.out) (fun z => ne_types HXE7.out HT.out (by decide) (Option.some.inj z))).trans HXE7.out)
          have HQ8 := Aside0.mk ((HG8.out.block q (blk_lt H7.out.res.1) (fun z => ne_types H7.out.res.1 HT.out (by decide) (Option.some.inj z))).trans H7.out.res.1)
          have HL8 := Aside0.mk (below_drew (below_grown H7.out.rd.low HTW.out HG8.out))
          have HQW := Aside0.mk (show w.heap.size ≤ q from QW.out)
          have hz1 : w8.drew.cell? ⟨t, 0, none⟩ = some (.pointer (some ⟨ee, 0, none⟩)) := (blk_cell HB8.out 0).trans rfl
          have hz2 : w8.drew.cell? ⟨ee, 0, none⟩ = some (.int .i64 x) := (blk_cell HE8.out 0).trans rfl
          have HQ9 := Aside0.mk (show w8.drew.heap[q]? = some (.cells zObj 27 (0, 0)) from HQ8.out)
          have HB8D := Aside0.mk (show w8.drew.heap[t]? = some (.cells #[.pointer (some ⟨ee, 0, none⟩)] 88 (0, 0)) from HB8.out)
          have HE8D := Aside0.mk (show w8.drew.heap[ee]? = some (.cells #[.int .i64 x] 92 (0, 0)) from HE8.out)
          have hu5 := Tryd.underlying92
          clear H7 HT HXE7 HG7 HG8 HE8 HQ8 HB8
          refine start_ (n := 8) (S := fun w' => w'.cell? ⟨t, 0, none⟩ = some (.pointer (some ⟨ee, 0, none⟩)) ∧ w'.cell? ⟨ee, 0, none⟩ = some (.int .i64 x) ∧ w'.heap[q]? = some (.cells zObj 27 (0, 0)) ∧ Below w.heap.size w w') (ds := []) #[false, false, false, false, false, false, false, false] (by kernel_rfl) rfl rfl ⟨hz1, hz2, HQ9.out, HL8.out⟩ (fun hHeld => ?_)
          refine pure_ (i := 0) (N := some 109) (v := ?_) (a' := ?_) #[true, false, false, false, false, false, false, false] rfl rfl (by kernel_rfl) (fun _ _ _ h => h) (Or.inl ⟨by rfl, ?_⟩) ?_ ?_
          rotate_left
          ·
            intro w'
            go_simp
            with_reducible rfl
          rotate_left
          ·
            simp only [Act.put, List.setIfInBounds_toArray, List.set_cons_zero, List.set_cons_succ, i64_w, i32_w]
            rfl
          refine take_ (i := 1) (N := some 110) (v := ?_) (a' := ?_) #[true, true, false, false, false, false, false, false] rfl rfl (by kernel_rfl) (fun _ _ _ h => h) (Or.inl ⟨by rfl, ?_⟩) hHeld ?_ ?_
          rotate_left
          ·
            rintro w' ⟨s0, s1, _, _⟩
            go_simp
            with_reducible rfl
          rotate_left
          ·
            simp only [Act.put, List.setIfInBounds_toArray, List.set_cons_zero, List.set_cons_succ, i64_w, i32_w]
            rfl
          refine pure_ (i := 2) (N := some 111) (v := ?_) (a' := ?_) #[true, true, true, false, false, false, false, false] rfl rfl (by kernel_rfl) (fun _ _ _ h => h) (Or.inl ⟨by rfl, ?_⟩) ?_ ?_
          rotate_left
          ·
            intro w'
            go_simp
            with_reducible rfl
          rotate_left
          ·
            simp only [Act.put, List.setIfInBounds_toArray, List.set_cons_zero, List.set_cons_succ, i64_w, i32_w]
            rfl
          refine pure_ (i := 3) (N := some 112) (v := ?_) (a' := ?_) #[true, true, true, true, false, false, false, false] rfl rfl (by kernel_rfl) (fun _ _ _ h => h) (Or.inl ⟨by rfl, ?_⟩) ?_ ?_
          rotate_left
          ·
            intro w'
            go_simp
            with_reducible rfl
          rotate_left
          ·
            simp only [Act.put, List.setIfInBounds_toArray, List.set_cons_zero, List.set_cons_succ, i64_w, i32_w]
            rfl
          refine take_ (i := 4) (N := some 113) (v := ?_) (a' := ?_) #[true, true, true, true, true, false, false, false] rfl rfl (by kernel_rfl) (fun _ _ _ h => h) (Or.inl ⟨by rfl, ?_⟩) hHeld ?_ ?_
          rotate_left
          ·
            rintro w' ⟨s0, s1, _, _⟩
            go_simp
            with_reducible rfl
          rotate_left
          ·
            simp only [Act.put, List.setIfInBounds_toArray, List.set_cons_zero, List.set_cons_succ, i64_w, i32_w]
            rfl
          refine one_ (i := 5) (N := none) #[true, true, true, true, true, true, false, false] rfl rfl (by kernel_rfl) (by decide) (fun K hK => ?_)
          refine step_store_whole (by rfl) rfl rfl q zObj zObj 27 rfl (by first | rfl | (go_simp; rfl)) HQ9.out (by kernel_rfl) rfl (by kernel_rfl) ?_
          intro w9 hp9
          have HL9 := Aside0.mk (hp9.below HL8.out HQW.out)
          have hq9 := hp9.blk
          refine hK.out _ _ ⟨(blk_cell ((hp9.far t (fun z => ne_types HB8D.out HQ9.out (by decide) z)).trans HB8D.out) 0).trans rfl, (blk_cell ((hp9.far ee (fun z => ne_types HE8D.out HQ9.out (by decide) z)).trans HE8D.out) 0).trans rfl, hq9, HL9.out⟩ (fun hHeld => ?_)
          clear hz1 hz2 HQ9 HL8 HB8D HE8D hK K
          refine pure_ (i := 6) (N := some 3) (v := ?_) (a' := ?_) #[true, true, true, true, true, true, true, false] rfl rfl (by kernel_rfl) (fun _ _ _ h => h) (Or.inl ⟨by rfl, ?_⟩) ?_ ?_
          rotate_left
          ·
            intro w'
            go_simp
            with_reducible rfl
          rotate_left
          ·
            simp only [Act.put, List.setIfInBounds_toArray, List.set_cons_zero, List.set_cons_succ, i64_w, i32_w]
            rfl
          refine pure_ (i := 7) (N := some 4) (v := ?_) (a' := ?_) #[true, true, true, true, true, true, true, true] rfl rfl (by kernel_rfl) (fun _ _ _ h => h) (Or.inl ⟨by rfl, ?_⟩) ?_ ?_
          rotate_left
          ·
            intro w'
            go_simp
            with_reducible rfl
          rotate_left
          ·
            simp only [Act.put, List.setIfInBounds_toArray, List.set_cons_zero, List.set_cons_succ, i64_w, i32_w]
            rfl
          refine done_ (by kernel_rfl) ?_
          go_wp2
          refine bodyPost_ret (results_cell_tmp2 rfl _ _ q 27 zObj (0, 0) _ rfl hq9 hu1 rfl (by kernel_rfl)) rfl ?_
          rw [HRC.out]
          exact ⟨zObj, rfl, HL9.out, fun h => absurd h (show ¬ (27 : Int) = 0 by decide), fun _ => rfl⟩
        · have hltb : decide ((a6 l).rs.at_ < (l.length : Int)) = false := decide_eq_false hlt
          have HRC := Aside0.mk (show readC l = if (numR l 4 (ra5 l).rs).1 = sumN (l.take (ra5 l).rs.at_.toNat) then chkR l else (28, (ra5 l).rs.at_) by unfold readC endS; rw [hs]; simp only []; rw [if_neg hlt, hs])
          have hnn := numR_none (l := l) (n := 4) (s := (ra5 l).rs) hs
          clear hs hlt
          go_upto_region 20 with (fail)
          clear hltb
          have hbx := below_alloc (Below.refl w6.heap.size w6) (.cells #[.pointer none] 88)
          have H7 := Aside0.mk (H6.out.below hbx)
          have hk0 : (w6.alloc (.cells #[.pointer none] 88)).cell? ⟨p, 0, none⟩ = some (.pointer (some ⟨r, 0, none⟩)) := (blk_cell H7.out.ptr 0).trans rfl
          have hk2 := (World.cell?_alloc_lt w6 (.cells #[.pointer none] 88) _ (World.block_lt_of_cell? _ _ hd2)).trans hd2
          clear hbx H6 hpp6 hd0 hd1 hd2
          generalize w6.alloc (.cells #[.pointer none] 88) = w7 at H7 hk0 hk2 ⊢
          generalize w6.heap.size = t
          obtain ⟨m, hm⟩ : ∃ m : Nat, (ra5 l).rs.at_ = (m : Int) := ⟨(ra5 l).rs.at_.toNat, by
            have h0 := H7.out.rd.at0
            have h1 : (a6 l).rs.at_ = (ra5 l).rs.at_ + 4 := hnn.2.2
            by_cases h2 : 0 ≤ (ra5 l).rs.at_
            · omega
            · exact absurd (RA0.out) h2⟩
          have hml : m ≤ l.length := by have := hnn.2.1; omega
          have htl : (l.take m).length = m := by rw [List.length_take]; omega
          have hsum := sum.calls A c (l.take m) w7 (Kd.C_take (Kd.C_below HC.out H7.out.rd.low) hml) (by rw [htl]; have := HL.out; omega)
          rw [htl] at hsum
          have HSUM := Aside0.mk hsum
          have HM := Aside0.mk hm
          have p0 : (0 : Int) ≤ (m : Int) := by omega
          have p1 : (m : Int) ≤ (c : Int) := by have := HCC.out; omega
          rw [hm] at HRC ⊢
          rw [Int.toNat_natCast] at HRC
          clear hnn hml htl hsum hm
          obtain ⟨sv, hsv⟩ : ∃ sv, sv = (numR l 4 (ra5 l).rs).1 := ⟨_, rfl⟩
          rw [← hsv] at HRC ⊢
          have HSV := Aside0.mk hsv
          clear hsv
          obtain ⟨sm, hsm⟩ : ∃ sm, sm = sumN (l.take m) := ⟨_, rfl⟩
          rw [← hsm] at HRC HSUM
          have HSM := Aside0.mk hsm
          clear hsm
          by_cases heq : sv = sm
          · have hbn : (sv != sm) = false := by rw [heq]; simp
            have HRC1 := Aside0.mk (show readC l = chkR l by rw [HRC.out, if_pos heq])
            clear heq HRC
            go_upto_region 24 with (first | (go_at_call 38; refine (as_nil _ _).mono ?_; rintro e_ w8 ⟨rfl, rfl⟩) | (go_at_call 39; refine HSUM.out.mono ?_; rintro e_ w8 ⟨rfl, hb_⟩; have H8 := Aside0.mk (H7.out.below hb_); clear hb_ H7 hk0 hk2))
            obtain ⟨v1, v3, v4, v5, ho_⟩ := H8.out.obj
            obtain ⟨A1, c1, e1⟩ := Kd.R_slice ho_.r1
            obtain ⟨A3, c3, e3⟩ := Kd.R_slice ho_.r3
            obtain ⟨A4, c4, e4⟩ := Kd.R_slice ho_.r4
            obtain ⟨A5, c5, e5⟩ := Kd.R_slice ho_.r5
            subst e1 e3 e4 e5
            have HO := Aside0.mk (show OB4 w8 w.heap.size g (ra5 l) (.slice A1 (ra5 l).code.length c1) (.slice A3 (ra5 l).data.length c3) (.slice A4 (ra5 l).syms.length c4) (.slice A5 (ra5 l).rels.length c5) from ⟨ho_.blk, ho_.r1, ho_.r3, ho_.r4, ho_.r5⟩)
            clear ho_
            obtain ⟨ce, cn, hce⟩ : ∃ ce cn, chkO (ra5 l).nm (ra5 l).code (ra5 l).dat (ra5 l).data (ra5 l).syms (ra5 l).rels = (ce, cn) := ⟨_, _, rfl⟩
            have HCK := Aside0.mk (show object_Check.f (ra5 l).nm (ra5 l).code (ra5 l).dat (ra5 l).data (ra5 l).syms (ra5 l).rels = some (ce, cn) by unfold object_Check.f; rw [if_pos (ra5_words l HBY.out), hce])
            have HRC3 := Aside0.mk (show readC l = if ce = 0 then (0, 0) else (ce, cn) by rw [HRC1.out]; unfold chkR; rw [hce])
            clear hce HRC1
            have hc0 := (blk_cell HO.out.blk 0).trans rfl
            have hc1 := (blk_cell HO.out.blk 1).trans rfl
            have hc2 := (blk_cell HO.out.blk 2).trans rfl
            have hc3 := (blk_cell HO.out.blk 3).trans rfl
            have hc4 := (blk_cell HO.out.blk 4).trans rfl
            have hc5 := (blk_cell HO.out.blk 5).trans rfl
            by_cases hz : ce = 0
            · subst hz
              have HRC2 := Aside0.mk (show readC l = (0, 0) by rw [HRC3.out, if_pos rfl])
              clear HRC3
              go_wp2_with (first | (go_at_call 11; refine (object_Check.calls _ _ _ _ _ _ _ _ _ _ _ _ _ _ 0 cn _ (Kd.R_reads' HO.out.r1).2.2 (Kd.R_reads' HO.out.r1).2.1 (Kd.R_reads' HO.out.r3).2.2 (Kd.R_reads' HO.out.r3).2.1 (Kd.R_reads' HO.out.r4).2.2 (Kd.R_reads' HO.out.r4).2.1 (Kd.R_reads' HO.out.r5).2.2 (Kd.R_reads' HO.out.r5).2.1 HCK.out).mono ?_; rintro e_ w9 ⟨rfl, hb_⟩; have H9 := Aside0.mk (H8.out.below hb_); have HO9 := Aside0.mk (HO.out.below hb_); clear H8 HO hb_ hc0 hc1 hc2 hc3 hc4 hc5; have hc0 := (blk_cell HO9.out.blk 0).trans rfl; have hc1 := (blk_cell HO9.out.blk 1).trans rfl; have hc2 := (blk_cell HO9.out.blk 2).trans rfl; have hc3 := (blk_cell HO9.out.blk 3).trans rfl; have hc4 := (blk_cell HO9.out.blk 4).trans rfl; have hc5 := (blk_cell HO9.out.blk 5).trans rfl) | ((with_reducible refine gate_store (t := 27) rfl ?_); refine wpList_store_whole rfl rfl rfl q _ #[.string (ra5 l).nm, .slice A1 (ra5 l).code.length c1, .int .i64 (ra5 l).dat, .slice A3 (ra5 l).data.length c3, .slice A4 (ra5 l).syms.length c4, .slice A5 (ra5 l).rels.length c5] _ rfl rfl H9.out.res.1 (by kernel_rfl) rfl (obj_oneR _ _ _ _ _ _ _ _ _ _ _ _ _ _) ?_; intro w10 hp9; have HL9 := Aside0.mk (hp9.below H9.out.rd.low QW.out); have hq9 := hp9.blk; have HR9 := Aside0.mk (And.intro (Kd.R_grown1 HO9.out.r1 rfl (put_grownN hp9) (Kd.R_ne HO9.out.r1 H9.out.res.1 (by decide))) (And.intro (Kd.R_grown1 HO9.out.r3 rfl (put_grownN hp9) (Kd.R_ne HO9.out.r3 H9.out.res.1 (by decide))) (And.intro (Kd.R_grown1 HO9.out.r4 rfl (put_grownN hp9) (Kd.R_ne HO9.out.r4 H9.out.res.1 (by decide))) (Kd.R_grown1 HO9.out.r5 rfl (put_grownN hp9) (Kd.R_ne HO9.out.r5 H9.out.res.1 (by decide)))))); clear hp9 hc0 hc1 hc2 hc3 hc4 hc5))
              try go_wp2
              refine bodyPost_ret (results_cell_tmp2 rfl _ _ q 27 #[.string (ra5 l).nm, .slice A1 (ra5 l).code.length c1, .int .i64 (ra5 l).dat, .slice A3 (ra5 l).data.length c3, .slice A4 (ra5 l).syms.length c4, .slice A5 (ra5 l).rels.length c5] (0, 0) _ rfl hq9 hu1 rfl (by kernel_rfl)) rfl ?_
              rw [HRC2.out]
              exact ⟨_, rfl, HL9.out, fun _ => ⟨_, _, _, _, rfl, HR9.out.1, HR9.out.2.1, HR9.out.2.2.1, HR9.out.2.2.2⟩, fun h => absurd rfl h⟩
            · have HRC2 := Aside0.mk (show readC l = (ce, cn) by rw [HRC3.out, if_neg hz])
              have hbz : (ce != 0) = true := bne_iff_ne.mpr hz
              have HZ := Aside0.mk hz
              clear hz HRC3
              go_wp2_with (first | (go_at_call 11; refine (object_Check.calls _ _ _ _ _ _ _ _ _ _ _ _ _ _ ce cn _ (Kd.R_reads' HO.out.r1).2.2 (Kd.R_reads' HO.out.r1).2.1 (Kd.R_reads' HO.out.r3).2.2 (Kd.R_reads' HO.out.r3).2.1 (Kd.R_reads' HO.out.r4).2.2 (Kd.R_reads' HO.out.r4).2.1 (Kd.R_reads' HO.out.r5).2.2 (Kd.R_reads' HO.out.r5).2.1 HCK.out).mono ?_; rintro e_ w9 ⟨rfl, hb_⟩; have H9 := Aside0.mk (H8.out.below hb_); have HO9 := Aside0.mk (HO.out.below hb_); clear H8 HO hb_ hc0 hc1 hc2 hc3 hc4 hc5; have hc0 := (blk_cell HO9.out.blk 0).trans rfl; have hc1 := (blk_cell HO9.out.blk 1).trans rfl; have hc2 := (blk_cell HO9.out.blk 2).trans rfl; have hc3 := (blk_cell HO9.out.blk 3).trans rfl; have hc4 := (blk_cell HO9.out.blk 4).trans rfl; have hc5 := (blk_cell HO9.out.blk 5).trans rfl) | ((with_reducible refine gate_store (t := 27) rfl ?_); refine wpList_store_whole rfl rfl rfl q _ zObj _ rfl rfl H9.out.res.1 (by kernel_rfl) rfl (by kernel_rfl) ?_; intro w10 hp9; have HL9 := Aside0.mk (hp9.below H9.out.rd.low QW.out); have hq9 := hp9.blk; clear hp9 hc0 hc1 hc2 hc3 hc4 hc5))
              try go_wp2
              refine bodyPost_ret (results_cell_tmp2 rfl _ _ q 27 zObj (0, 0) _ rfl hq9 hu1 rfl (by kernel_rfl)) rfl ?_
              rw [HRC2.out]
              exact ⟨zObj, rfl, HL9.out, fun h => absurd h HZ.out, fun _ => rfl⟩
          · have hbn : (sv != sm) = true := bne_iff_ne.mpr heq
            have HRC2 := Aside0.mk (show readC l = (28, (m : Int)) by rw [HRC.out, if_neg heq])
            clear heq HRC
            go_wp2_with (first | (go_at_call 38; refine (as_nil _ _).mono ?_; rintro e_ w8 ⟨rfl, rfl⟩) | (go_at_call 39; refine HSUM.out.mono ?_; rintro e_ w8 ⟨rfl, hb_⟩; have H8 := Aside0.mk (H7.out.below hb_); clear hb_ H7 hk0 hk2) | ((with_reducible refine gate_store (t := 27) rfl ?_); refine wpList_store_whole rfl rfl rfl q _ zObj _ rfl rfl H8.out.res.1 (by kernel_rfl) rfl (by kernel_rfl) ?_; intro w9 hp9; have HL9 := Aside0.mk (hp9.below H8.out.rd.low QW.out); have hq9 := hp9.blk; clear hp9))
            try go_wp2
            refine bodyPost_ret (results_cell_tmp2 rfl _ _ q 27 zObj (0, 0) _ rfl hq9 hu1 rfl (by kernel_rfl)) rfl ?_
            rw [HRC2.out]
            exact ⟨zObj, rfl, HL9.out, fun h => absurd h (show ¬ (28 : Int) = 0 by decide), fun _ => rfl⟩
end Go.Proofs.YtiaohbbafaaibabDoor.P

/- OWN TEXT: the law LinkStands, walked: all but the loop's round. -/
namespace Go.Proofs.YtiaohbbafaaibabDoor.P
open Go.RowKit Go.Maps Go.Proofs.YtiaohbbafaaibabDoorW.PrintWords Go.Proofs.YtiaohbbafaaibabDoorW.PrintLast Go.Proofs.YtiaohbbafaaibabDoorW.PrintMore Go.Proofs.YtiaohbbafaaibabDoor.Arr Go.Proofs.YtiaohbbafaaibabDoor.MapB Go.Proofs.YtiaohbbafaaibabDoor.SymM
set_option linter.unusedVariables false
set_option linter.unusedSimpArgs false
structure Cut (p : Prop) : Prop where mk :: (out : p)
theorem info_objL : (Tryd.prog.info? 27).map (fun i => (i.zero, i.size, i.bytes)) = some (some (.agg #[(.string ⟨#[]⟩), (.slice none 0 0), (.int .i64 0), (.slice none 0 0), (.slice none 0 0), (.slice none 0 0)]), 6, 120) := by kernel_rfl
theorem take_ob {l : List ObjT} {i : Nat} (h : i < l.length) : l.take (i + 1) = l.take i ++ [ob l i] := by
 rw [List.take_succ_eq_append_getElem h]
 congr 2
 unfold ob rd_T27
 rw [Int.toNat_natCast, List.getD_eq_getElem?_getD, List.getElem?_eq_getElem h]
 rfl
set_option maxHeartbeats 60000000 in
set_option maxRecDepth 100000 in
noncomputable def standA : Σ' P : Prop, (Cut P → ∀ (A0 : Option Addr) (c0 : Nat) (l : List ObjT) (entry : ByteArray) (mem : Int) (w : World) (hC : Kd.C k27 w A0 l.length l) (hlc : l.length ≤ c0) (hgl : w.cell? ⟨0, 0, none⟩ = some (.iface 161 (.agg #[.pointer (some ⟨1, 79, none⟩)]))) (kh : Nat) (hv : Bool) (hhv : pleatlaw09_heavy.f kh l = some hv)
    (hlite : hv = false → Small l ∧ (∃ kc d r2 r3 r4, pleatref00_CopyObjects.f kc l = some l ∧ resolveR l = some (d, r2, r3, r4)) ∧ ∀ i, i < l.length → pleatref00_CopyObject.f (ob l i).f0 (ob l i).f1 (ob l i).f2 (ob l i).f3 (ob l i).f4 (ob l i).f5 = some ((ob l i).f0, (ob l i).f1, (ob l i).f2, (ob l i).f3, (ob l i).f4, (ob l i).f5))
    (h64 : ∀ i, i < l.length → ∀ x ∈ (ob l i).f3, -9223372036854775808 ≤ x ∧ x < 9223372036854775808),
    Calls Tryd.prog 4 #[.slice A0 l.length c0, .string entry, .int .i64 mem] w fun e w' => e = .returned (.bool true) ∧ Below w.heap.size w w') := by
  apply PSigma.mk
  intro cutO A0 c0 l entry mem w hC hlc hgl kh hv hhv hlite h64
  have hu1 := Tryd.underlying27
  have hu2 := Tryd.underlying46
  have hu3 := Tryd.underlying59
  have HGL := Aside0.mk hgl
  have HV := Aside0.mk hhv
  have HC := Aside0.mk hC
  have HLC := Aside0.mk hlc
  have H64 := Aside0.mk h64
  have HB := Aside0.mk (Below.refl w.heap.size w)
  clear hgl hhv hC hlc h64
  cases hv with
  | true =>
    clear hlite
    go_enter Tryd.func4, Tryd.ntmps4
    go_wp2_with (first | (go_at_call 14; refine (pleatlaw09_heavy.calls kh A0 c0 l true _ HC.out HLC.out HV.out).mono ?_; rintro e_ w1 ⟨rfl, hd_⟩; have hb_ := hd_.below; clear hd_; have HBn := Aside0.mk (below_then HB.out HB.out.size hb_); clear HB  hb_; have HB := HBn; clear HBn; ) | (go_at_call 15; refine (lives9.calls _).mono ?_; rintro e_ wl ⟨rfl, hb_⟩; have HBn := Aside0.mk (below_then HB.out HB.out.size hb_); clear HB  hb_; have HB := HBn; clear HBn; ))
    go_ret
    exact ⟨rfl, HB.out⟩
  | false =>
    obtain ⟨hsm, ⟨kc, d, r2, r3, r4, hcp, hrs⟩, hcos⟩ := hlite rfl
    have HSM := Aside0.mk hsm
    have HCP := Aside0.mk hcp
    have HRS := Aside0.mk hrs
    have HCOS := Aside0.mk hcos
    clear hlite hsm hcp hrs hcos
    by_cases c8 : (entry.size : Int) > 65536
    · have cb : decide ((entry.size : Int) > 65536) = true := decide_eq_true c8
      clear c8
      go_enter Tryd.func4, Tryd.ntmps4
      go_wp2_with (first | (go_at_call 14; refine (pleatlaw09_heavy.calls kh A0 c0 l false _ HC.out HLC.out HV.out).mono ?_; rintro e_ w1 ⟨rfl, hd_⟩; have hb_ := hd_.below; clear hd_; have HBn := Aside0.mk (below_then HB.out HB.out.size hb_); clear HB  hb_; have HB := HBn; clear HBn; ) | (go_at_call 15; refine (lives9.calls _).mono ?_; rintro e_ wl ⟨rfl, hb_⟩; have HBn := Aside0.mk (below_then HB.out HB.out.size hb_); clear HB  hb_; have HB := HBn; clear HBn; ))
      go_ret
      exact ⟨rfl, HB.out⟩
    have cb : decide ((entry.size : Int) > 65536) = false := decide_eq_false c8
    clear c8
    obtain ⟨TT, hTT⟩ : ∃ TT, txtL l d entry mem r2 = TT := ⟨_, rfl⟩
    obtain ⟨MM, hMM⟩ : ∃ MM, memL l entry mem r2 = MM := ⟨_, rfl⟩
    obtain ⟨EN, hEN⟩ : ∃ EN, entL l entry mem r2 = EN := ⟨_, rfl⟩
    obtain ⟨ER, hER⟩ : ∃ ER, errL l entry mem r2 = ER := ⟨_, rfl⟩
    have HTT := Aside0.mk hTT
    have HMM := Aside0.mk hMM
    have HEN := Aside0.mk hEN
    have HER := Aside0.mk hER
    clear hTT hMM hEN hER
    go_enter Tryd.func4, Tryd.ntmps4
    go_upto_region 3 with (first | (go_at_call 14; refine (pleatlaw09_heavy.calls kh A0 c0 l false _ HC.out HLC.out HV.out).mono ?_; rintro e_ w1 ⟨rfl, hd_⟩; have hb_ := hd_.below; clear hd_; have HBn := Aside0.mk (below_then HB.out HB.out.size hb_); clear HB  hb_; have HB := HBn; clear HBn; ))
    go_upto_region 4 with (first | (go_at_call 17; refine (pleatref00_CopyObjects.calls kc A0 c0 l l _ (Kd.C_below HC.out HB.out) HLC.out HCP.out).mono ?_; rintro e_ w2 ⟨v, rfl, hs_, hb_⟩; obtain ⟨Ac, cc, ec⟩ := Kd.S_slice hs_; subst ec; have HS := Aside0.mk (Kd.S_reads' hs_); have HBn := Aside0.mk (below_then HB.out HB.out.size hb_); clear HB  hb_ hs_; have HB := HBn; clear HBn; ) | (go_at_call 16; refine (linkS.calls Ac cc l entry mem d r2 r3 r4 _ HS.out.2.2 HS.out.2.1 HSM.out HRS.out).mono ?_; rintro e_ w3 ⟨vT, vM, i_, n_, rfl, ht_, hm_, hb_, _⟩; rw [HTT.out] at ht_; rw [HMM.out] at hm_; rw [HEN.out, HER.out]; obtain ⟨AT, cT, e1_⟩ := Kd.R_slice ht_; obtain ⟨AM, cM, e2_⟩ := Kd.R_slice hm_; subst e1_ e2_; have HTC := Aside0.mk (Kd.R_reads' ht_); have HMC := Aside0.mk (Kd.R_reads' hm_); have HBn := Aside0.mk (below_then HB.out HB.out.size hb_); clear HB  hb_ ht_ hm_ HS; have HB := HBn; clear HBn; ) | ((with_reducible refine gate_dst (N := 7) rfl ?_); refine box_event ?hg (N := 7) ?hd (cs := #[.slice none 0 0, .int .i64 0, .slice none 0 0]) (t := 46) ?hr ?_; (case hd => rfl); (case hg => rfl); (case hr => first | (go_simp; done) | (go_simp; rfl)); intro g7 hg_ w7_ BK_ hb_; have BZ := Aside0.mk BK_; have LZ := Aside0.mk hb_; have GZ := Aside0.mk (Nat.le_of_eq hg_.symm); clear BK_ hb_ hg_) | ((with_reducible refine gate_store (t := 46) rfl ?_); refine wpList_store_whole rfl rfl rfl g7 _ #[.slice AT TT.length cT, .int .i64 EN, .slice AM MM.length cM] _ rfl rfl BZ.out (by kernel_rfl) rfl (img_one _ _ _ _ _ _ _) ?_; intro w7b_ hp_; have hb_ := hp_.below LZ.out GZ.out; have BX := Aside0.mk hp_.blk; clear BZ LZ GZ hp_; have HBn := Aside0.mk (below_then HB.out HB.out.size hb_); have HTCn := Aside0.mk (And.intro HTC.out.1 (And.intro HTC.out.2.1 (Kd.C_below HTC.out.2.2 hb_))); have HMCn := Aside0.mk (And.intro HMC.out.1 (And.intro HMC.out.2.1 (Kd.C_below HMC.out.2.2 hb_))); clear HB HTC HMC  hb_; have HB := HBn; clear HBn; have HTC := HTCn; clear HTCn; have HMC := HMCn; clear HMCn; ))
    by_cases hz : ER = 0
    rotate_left
    · have hzb : (ER != 0) = true := bne_iff_ne.mpr hz
      obtain rfl : TT = [] := by rw [← HTT.out]; unfold txtL; rw [HER.out, if_pos hz]
      obtain rfl : MM = [] := by rw [← HMM.out]; unfold memL; rw [HER.out, if_pos hz]
      have hx0 := blk_cell BX.out 0
      have hx1 := blk_cell BX.out 1
      have hx2 := blk_cell BX.out 2
      clear hz
      go_wp2_with (first | (go_at_call 15; refine (lives9.calls _).mono ?_; rintro e_ wl ⟨rfl, hb_⟩; replace HB := Aside0.mk (below_then HB.out HB.out.size hb_); have HTCn := Aside0.mk (And.intro HTC.out.1 (And.intro HTC.out.2.1 (Kd.C_below HTC.out.2.2 hb_))); have HMCn := Aside0.mk (And.intro HMC.out.1 (And.intro HMC.out.2.1 (Kd.C_below HMC.out.2.2 hb_))); have BXn := Aside0.mk (blk_below BX.out hb_); clear HTC HMC BX hx0 hx1 hx2 hb_; have HTC := HTCn; clear HTCn; have HMC := HMCn; clear HMCn; have BX := BXn; clear BXn; have hx0 := blk_cell BX.out 0; have hx1 := blk_cell BX.out 1; have hx2 := blk_cell BX.out 2; ))
      go_ret
      exact ⟨rfl, HB.out⟩
    subst hz
    obtain ⟨hr2, oo, aa, hstd⟩ := std_of HSM.out HRS.out HER.out
    subst hr2
    rw [HTT.out, HMM.out, HEN.out] at hstd
    have HST := Aside0.mk hstd
    obtain ⟨ki, hki⟩ := hstd.img.rounds
    have HKI := Aside0.mk hki
    have HCI := Aside0.mk (copyImgE (en := EN) hstd.t0.2 (show MM.length ≤ 4096 by have := hstd.ml; have := hstd.m0; omega))
    clear hstd hki
    have hx0 := blk_cell BX.out 0
    have hx1 := blk_cell BX.out 1
    have hx2 := blk_cell BX.out 2
    go_upto_region 7 with (first | (go_at_call 19; refine (pleatref00_CopyImage.calls _ _ TT EN _ _ MM TT EN MM _ HTC.out.2.2 HTC.out.2.1 HMC.out.2.2 HMC.out.2.1 HCI.out).mono ?_; rintro e_ w5 ⟨v0, v2, rfl, h0_, h2_, hb_⟩; obtain ⟨AT2, cT2, e1_⟩ := Kd.R_slice h0_; obtain ⟨AM2, cM2, e2_⟩ := Kd.R_slice h2_; subst e1_ e2_; have HT2 := Aside0.mk (Kd.R_reads' h0_); have HM2 := Aside0.mk (Kd.R_reads' h2_); replace HB := Aside0.mk (below_then HB.out HB.out.size hb_); have HTCn := Aside0.mk (And.intro HTC.out.1 (And.intro HTC.out.2.1 (Kd.C_below HTC.out.2.2 hb_))); have HMCn := Aside0.mk (And.intro HMC.out.1 (And.intro HMC.out.2.1 (Kd.C_below HMC.out.2.2 hb_))); have BXn := Aside0.mk (blk_below BX.out hb_); clear HTC HMC BX hx0 hx1 hx2 hb_ h0_ h2_; have HTC := HTCn; clear HTCn; have HMC := HMCn; clear HMCn; have BX := BXn; clear BXn; have hx0 := blk_cell BX.out 0; have hx1 := blk_cell BX.out 1; have hx2 := blk_cell BX.out 2; ) | (go_at_call 18; refine (image_Check.calls ki _ _ TT EN _ _ MM 0 0 _ HT2.out.2.2 HT2.out.2.1 HM2.out.2.2 HM2.out.2.1 HKI.out).mono ?_; rintro e_ w6 ⟨rfl, hb_⟩; replace HB := Aside0.mk (below_then HB.out HB.out.size hb_); have HTCn := Aside0.mk (And.intro HTC.out.1 (And.intro HTC.out.2.1 (Kd.C_below HTC.out.2.2 hb_))); have HMCn := Aside0.mk (And.intro HMC.out.1 (And.intro HMC.out.2.1 (Kd.C_below HMC.out.2.2 hb_))); have BXn := Aside0.mk (blk_below BX.out hb_); clear HTC HMC BX hx0 hx1 hx2 hb_ HT2 HM2; have HTC := HTCn; clear HTCn; have HMC := HMCn; clear HMCn; have BX := BXn; clear BXn; have hx0 := blk_cell BX.out 0; have hx1 := blk_cell BX.out 1; have hx2 := blk_cell BX.out 2; ))
    go_upto_region 8 with (first | (go_at_call 17; refine (pleatref00_CopyObjects.calls kc A0 c0 l l _ (Kd.C_below HC.out HB.out) HLC.out HCP.out).mono ?_; rintro e_ w2 ⟨v, rfl, hs_, hb_⟩; obtain ⟨Ac, cc, ec⟩ := Kd.S_slice hs_; subst ec; have HS := Aside0.mk (Kd.S_reads' hs_); replace HB := Aside0.mk (below_then HB.out HB.out.size hb_); have HTCn := Aside0.mk (And.intro HTC.out.1 (And.intro HTC.out.2.1 (Kd.C_below HTC.out.2.2 hb_))); have HMCn := Aside0.mk (And.intro HMC.out.1 (And.intro HMC.out.2.1 (Kd.C_below HMC.out.2.2 hb_))); have BXn := Aside0.mk (blk_below BX.out hb_); clear HTC HMC BX hx0 hx1 hx2 hb_ hs_; have HTC := HTCn; clear HTCn; have HMC := HMCn; clear HMCn; have BX := BXn; clear BXn; have hx0 := blk_cell BX.out 0; have hx1 := blk_cell BX.out 1; have hx2 := blk_cell BX.out 2; ) | (go_at_call 20; refine (callsIn_wide.1 (bases_in Fence.wide 3 trivial trivial trivial rfl (by decide) Ac cc l _ HS.out.2.2 (fun i h => by have := HSM.out.code i h; omega) HSM.out.len)).mono ?_; rintro e_ w7 ⟨v, rfl, hr_, hb_⟩; rw [HST.out.bs] at hr_ ⊢; obtain ⟨AB, cB, e_⟩ := Kd.R_slice hr_; subst e_; have hr2_ := Kd.R_reads' hr_; rw [BL_len] at hr2_ ⊢; have HBA := Aside0.mk hr2_; replace HB := Aside0.mk (below_then HB.out HB.out.size hb_); have HTCn := Aside0.mk (And.intro HTC.out.1 (And.intro HTC.out.2.1 (Kd.C_below HTC.out.2.2 hb_))); have HMCn := Aside0.mk (And.intro HMC.out.1 (And.intro HMC.out.2.1 (Kd.C_below HMC.out.2.2 hb_))); have BXn := Aside0.mk (blk_below BX.out hb_); clear HTC HMC BX hx0 hx1 hx2 hb_ hr_ hr2_ HS; have HTC := HTCn; clear HTCn; have HMC := HMCn; clear HMCn; have BX := BXn; clear BXn; have hx0 := blk_cell BX.out 0; have hx1 := blk_cell BX.out 1; have hx2 := blk_cell BX.out 2; ))
    go_upto_region 9 with (first | (go_at_call 17; refine (pleatref00_CopyObjects.calls kc A0 c0 l l _ (Kd.C_below HC.out HB.out) HLC.out HCP.out).mono ?_; rintro e_ w2 ⟨v, rfl, hs_, hb_⟩; obtain ⟨Ac, cc, ec⟩ := Kd.S_slice hs_; subst ec; have HS := Aside0.mk (Kd.S_reads' hs_); replace HB := Aside0.mk (below_then HB.out HB.out.size hb_); have HTCn := Aside0.mk (And.intro HTC.out.1 (And.intro HTC.out.2.1 (Kd.C_below HTC.out.2.2 hb_))); have HMCn := Aside0.mk (And.intro HMC.out.1 (And.intro HMC.out.2.1 (Kd.C_below HMC.out.2.2 hb_))); have BXn := Aside0.mk (blk_below BX.out hb_); have HBAn := Aside0.mk (And.intro HBA.out.1 (And.intro HBA.out.2.1 (Kd.C_below HBA.out.2.2 hb_))); clear HTC HMC BX HBA hx0 hx1 hx2 hb_ hs_; have HTC := HTCn; clear HTCn; have HMC := HMCn; clear HMCn; have BX := BXn; clear BXn; have HBA := HBAn; clear HBAn; have hx0 := blk_cell BX.out 0; have hx1 := blk_cell BX.out 1; have hx2 := blk_cell BX.out 2; ) | (go_at_call 21; refine (symRes.calls Ac cc l _ d 0 r3 r4 HS.out.2.2 (fun i h => by have := HSM.out.syms i h; omega) HRS.out).mono ?_; rintro e_ w8 ⟨dv, rfl, hR_, hb_⟩; obtain ⟨AD, cD, e_, hle_, hCd_⟩ := Kd.S_reads (show Kd.S (Kd.slice 59 k59) 62 _ _ _ dv d from hR_); subst e_; have hdl_ := HST.out.lk.lok.dl; rw [hdl_] at hCd_ ⊢; have HDC := Aside0.mk hCd_; replace HB := Aside0.mk (below_then HB.out HB.out.size hb_); have HTCn := Aside0.mk (And.intro HTC.out.1 (And.intro HTC.out.2.1 (Kd.C_below HTC.out.2.2 hb_))); have HMCn := Aside0.mk (And.intro HMC.out.1 (And.intro HMC.out.2.1 (Kd.C_below HMC.out.2.2 hb_))); have BXn := Aside0.mk (blk_below BX.out hb_); have HBAn := Aside0.mk (And.intro HBA.out.1 (And.intro HBA.out.2.1 (Kd.C_below HBA.out.2.2 hb_))); clear HTC HMC BX HBA hx0 hx1 hx2 hb_ hR_ hle_ hCd_ hdl_ HS; have HTC := HTCn; clear HTCn; have HMC := HMCn; clear HMCn; have BX := BXn; clear BXn; have HBA := HBAn; clear HBAn; have hx0 := blk_cell BX.out 0; have hx1 := blk_cell BX.out 1; have hx2 := blk_cell BX.out 2; ))
    go_upto_region 10 with (first | (go_at_call 17; refine (pleatref00_CopyObjects.calls kc A0 c0 l l _ (Kd.C_below HC.out HB.out) HLC.out HCP.out).mono ?_; rintro e_ w2 ⟨v, rfl, hs_, hb_⟩; obtain ⟨Ac, cc, ec⟩ := Kd.S_slice hs_; subst ec; have HS := Aside0.mk (Kd.S_reads' hs_); replace HB := Aside0.mk (below_then HB.out HB.out.size hb_); have HTCn := Aside0.mk (And.intro HTC.out.1 (And.intro HTC.out.2.1 (Kd.C_below HTC.out.2.2 hb_))); have HMCn := Aside0.mk (And.intro HMC.out.1 (And.intro HMC.out.2.1 (Kd.C_below HMC.out.2.2 hb_))); have BXn := Aside0.mk (blk_below BX.out hb_); have HBAn := Aside0.mk (And.intro HBA.out.1 (And.intro HBA.out.2.1 (Kd.C_below HBA.out.2.2 hb_))); have HDCn := Aside0.mk (Kd.C_below HDC.out hb_); clear HTC HMC BX HBA HDC hx0 hx1 hx2 hb_ hs_; have HTC := HTCn; clear HTCn; have HMC := HMCn; clear HMCn; have BX := BXn; clear BXn; have HBA := HBAn; clear HBAn; have HDC := HDCn; clear HDCn; have hx0 := blk_cell BX.out 0; have hx1 := blk_cell BX.out 1; have hx2 := blk_cell BX.out 2; ) | (go_at_call 22; refine (symFind.calls Ac cc l entry _ HS.out.2.2 HSM.out.len (fun i h => by have := HSM.out.syms i h; omega)).mono ?_; rintro e_ w9 he_; rw [HST.out.fd] at he_; obtain ⟨rfl, hb_⟩ := he_; replace HB := Aside0.mk (below_then HB.out HB.out.size hb_); have HTCn := Aside0.mk (And.intro HTC.out.1 (And.intro HTC.out.2.1 (Kd.C_below HTC.out.2.2 hb_))); have HMCn := Aside0.mk (And.intro HMC.out.1 (And.intro HMC.out.2.1 (Kd.C_below HMC.out.2.2 hb_))); have BXn := Aside0.mk (blk_below BX.out hb_); have HBAn := Aside0.mk (And.intro HBA.out.1 (And.intro HBA.out.2.1 (Kd.C_below HBA.out.2.2 hb_))); have HDCn := Aside0.mk (Kd.C_below HDC.out hb_); clear HTC HMC BX HBA HDC hx0 hx1 hx2 hb_ HS; have HTC := HTCn; clear HTCn; have HMC := HMCn; clear HMCn; have BX := BXn; clear BXn; have HBA := HBAn; clear HBAn; have HDC := HDCn; clear HDCn; have hx0 := blk_cell BX.out 0; have hx1 := blk_cell BX.out 1; have hx2 := blk_cell BX.out 2; ) | ((with_reducible refine gate_dst (N := 19) rfl ?_); refine box_event ?hg (N := 19) ?hd (cs := #[.int .i64 0, .int .i64 0]) (t := 59) ?hr ?_; (case hd => rfl); (case hg => rfl); (case hr => first | (go_simp; done) | (go_simp; rfl)); intro g19 hg_ w19_ BK_ hb_; have BZ := Aside0.mk BK_; have LZ := Aside0.mk hb_; have GZ := Aside0.mk (Nat.le_of_eq hg_.symm); clear BK_ hb_ hg_) | ((with_reducible refine gate_store (t := 59) rfl ?_); refine wpList_store_whole rfl rfl rfl g19 _ #[.int .i64 (oo : Int), .int .i64 aa] _ rfl rfl BZ.out (by kernel_rfl) rfl (def_one _ _) ?_; intro w19b_ hp_; have hb_ := hp_.below LZ.out GZ.out; have BF := Aside0.mk hp_.blk; clear BZ LZ GZ hp_; replace HB := Aside0.mk (below_then HB.out HB.out.size hb_); have HTCn := Aside0.mk (And.intro HTC.out.1 (And.intro HTC.out.2.1 (Kd.C_below HTC.out.2.2 hb_))); have HMCn := Aside0.mk (And.intro HMC.out.1 (And.intro HMC.out.2.1 (Kd.C_below HMC.out.2.2 hb_))); have BXn := Aside0.mk (blk_below BX.out hb_); have HBAn := Aside0.mk (And.intro HBA.out.1 (And.intro HBA.out.2.1 (Kd.C_below HBA.out.2.2 hb_))); have HDCn := Aside0.mk (Kd.C_below HDC.out hb_); clear HTC HMC BX HBA HDC hx0 hx1 hx2 hb_; have HTC := HTCn; clear HTCn; have HMC := HMCn; clear HMCn; have BX := BXn; clear BXn; have HBA := HBAn; clear HBAn; have HDC := HDCn; clear HDCn; have hx0 := blk_cell BX.out 0; have hx1 := blk_cell BX.out 1; have hx2 := blk_cell BX.out 2; ))
    have hml : ((MM.length : Int) != mem) = false := by rw [HST.out.ml]; simp
    go_wp2
    clear hx0 hx1 hx2 hml
    go_loopw [21, 22, 23] (fun u21 u22 u23 wr => ∃ (i : Nat) (v : Value), u21 = v ∧ u22 = .int .i64 (baseL l i : Int) ∧ u23 = .int .i64 (i : Int) ∧ i ≤ l.length ∧ Aside0 (Below w19b_.heap.size w19b_ wr) ∧ Aside0 (Kd.R k27 27 wr w19b_.heap.size (fun _ => True) v (l.take i))) (fun _ _ u23 _ => l.length - (intOf u23).toNat)
    case atStart => exact ⟨0, _, rfl, rfl, rfl, Nat.zero_le _, ⟨Below.refl _ _⟩, ⟨Kd.R_nil _ _ _ _ _⟩⟩
    case round =>
      obtain ⟨i, v, rfl, rfl, rfl, hile, HL9, HRD⟩ := hrel
      by_cases hlt : i < l.length
      ·
        repeat revert ‹_›
        intro h_
        exact h_.out
      ·
        obtain rfl : i = l.length := by omega
        have hltb : decide ((l.length : Int) < (l.length : Int)) = false := by simp
        have h_ := HRD.out
        rw [List.take_length] at h_
        obtain ⟨Ar, cr, er⟩ := Kd.R_slice h_
        subst er
        have HR2 := Aside0.mk (Kd.R_reads' h_)
        obtain ⟨kq, hkq⟩ := (eqImgE (T := TT) (en := EN) (M := MM) HST.out.t0.2 (by have := HST.out.ml; have := HST.out.m0; omega)).rounds
        have HKQ := Aside0.mk hkq
        clear h_ hlt hile HRD hkq
        rw [← HST.out.tl]
        go_wp2_with (first | (go_at_call 16; refine (linkS.calls Ar cr l entry mem d 0 r3 r4 _ HR2.out.2.2 HR2.out.2.1 HSM.out HRS.out).mono ?_; rintro e_ w51 ⟨vT, vM, i2_, n2_, rfl, ht_, hm_, hb_, _⟩; rw [HTT.out] at ht_; rw [HMM.out] at hm_; rw [HEN.out, HER.out]; obtain ⟨AT3, cT3, e1_⟩ := Kd.R_slice ht_; obtain ⟨AM3, cM3, e2_⟩ := Kd.R_slice hm_; subst e1_ e2_; have HT3 := Aside0.mk (Kd.R_reads' ht_); have HM3 := Aside0.mk (Kd.R_reads' hm_); have HL9n := Aside0.mk (below_then HL9.out HL9.out.size hb_); clear HL9  hb_ ht_ hm_ HR2; have HL9 := HL9n; clear HL9n; ) | ((with_reducible refine gate_dst (N := 42) rfl ?_); refine box_event ?hg (N := 42) ?hd (cs := #[.slice none 0 0, .int .i64 0, .slice none 0 0]) (t := 46) ?hr ?_; (case hd => rfl); (case hg => rfl); (case hr => first | (go_simp; done) | (go_simp; rfl)); intro g42 hg_ w42_ BK_ hb_; have BZ := Aside0.mk BK_; have LZ := Aside0.mk hb_; have GZ := Aside0.mk (Nat.le_of_eq hg_.symm); clear BK_ hb_ hg_) | ((with_reducible refine gate_store (t := 46) rfl ?_); refine wpList_store_whole rfl rfl rfl g42 _ #[.slice AT3 TT.length cT3, .int .i64 EN, .slice AM3 MM.length cM3] _ rfl rfl BZ.out (by kernel_rfl) rfl (img_one _ _ _ _ _ _ _) ?_; intro w42b_ hp_; have hb_ := hp_.below LZ.out GZ.out; have BW := Aside0.mk hp_.blk; clear BZ LZ GZ hp_; have HL9n := Aside0.mk (below_then HL9.out HL9.out.size hb_); have HT3n := Aside0.mk (And.intro HT3.out.1 (And.intro HT3.out.2.1 (Kd.C_below HT3.out.2.2 hb_))); have HM3n := Aside0.mk (And.intro HM3.out.1 (And.intro HM3.out.2.1 (Kd.C_below HM3.out.2.2 hb_))); clear HL9 HT3 HM3  hb_; have HL9 := HL9n; clear HL9n; have HT3 := HT3n; clear HT3n; have HM3 := HM3n; clear HM3n; have hx0 := blk_cell (blk_below BX.out HL9.out) 0; have hw0 := blk_cell BW.out 0; have hx1 := blk_cell (blk_below BX.out HL9.out) 1; have hw1 := blk_cell BW.out 1; have hx2 := blk_cell (blk_below BX.out HL9.out) 2; have hw2 := blk_cell BW.out 2) | (go_at_call 26; refine (pleatref00_EqImage.calls kq _ _ TT EN _ _ MM _ _ TT EN _ _ MM true _ (Kd.C_below HTC.out.2.2 HL9.out) HTC.out.2.1 (Kd.C_below HMC.out.2.2 HL9.out) HMC.out.2.1 HT3.out.2.2 HT3.out.2.1 HM3.out.2.2 HM3.out.2.1 HKQ.out).mono ?_; rintro e_ w52 ⟨rfl, hb_⟩; replace HL9 := Aside0.mk (below_then HL9.out HL9.out.size hb_); have HT3n := Aside0.mk (And.intro HT3.out.1 (And.intro HT3.out.2.1 (Kd.C_below HT3.out.2.2 hb_))); have HM3n := Aside0.mk (And.intro HM3.out.1 (And.intro HM3.out.2.1 (Kd.C_below HM3.out.2.2 hb_))); have BWn := Aside0.mk (blk_below BW.out hb_); clear HT3 HM3 BW hx0 hw0 hx1 hw1 hx2 hw2 hb_; have HT3 := HT3n; clear HT3n; have HM3 := HM3n; clear HM3n; have BW := BWn; clear BWn; have hx0 := blk_cell (blk_below BX.out HL9.out) 0; have hw0 := blk_cell BW.out 0; have hx1 := blk_cell (blk_below BX.out HL9.out) 1; have hw1 := blk_cell BW.out 1; have hx2 := blk_cell (blk_below BX.out HL9.out) 2; have hw2 := blk_cell BW.out 2; ) | (go_at_call 15; refine (lives9.calls _).mono ?_; rintro e_ wl ⟨rfl, hb_⟩; replace HL9 := Aside0.mk (below_then HL9.out HL9.out.size hb_); have HT3n := Aside0.mk (And.intro HT3.out.1 (And.intro HT3.out.2.1 (Kd.C_below HT3.out.2.2 hb_))); have HM3n := Aside0.mk (And.intro HM3.out.1 (And.intro HM3.out.2.1 (Kd.C_below HM3.out.2.2 hb_))); have BWn := Aside0.mk (blk_below BW.out hb_); clear HT3 HM3 BW hx0 hw0 hx1 hw1 hx2 hw2 hb_; have HT3 := HT3n; clear HT3n; have HM3 := HM3n; clear HM3n; have BW := BWn; clear BWn; have hx0 := blk_cell (blk_below BX.out HL9.out) 0; have hw0 := blk_cell BW.out 0; have hx1 := blk_cell (blk_below BX.out HL9.out) 1; have hw1 := blk_cell BW.out 1; have hx2 := blk_cell (blk_below BX.out HL9.out) 2; have hw2 := blk_cell BW.out 2; ))
        go_ret
        exact ⟨rfl, below_then HB.out HB.out.size HL9.out⟩
end Go.Proofs.YtiaohbbafaaibabDoor.P

/- OWN TEXT: the law LinkStands, walked: the round of the loop up to its cuts. -/
namespace Go.Proofs.YtiaohbbafaaibabDoor.P
open Go.RowKit Go.Maps Go.Proofs.YtiaohbbafaaibabDoorW.PrintWords Go.Proofs.YtiaohbbafaaibabDoorW.PrintLast Go.Proofs.YtiaohbbafaaibabDoorW.PrintMore Go.Proofs.YtiaohbbafaaibabDoor.Arr Go.Proofs.YtiaohbbafaaibabDoor.MapB Go.Proofs.YtiaohbbafaaibabDoor.SymM
set_option linter.unusedVariables false
set_option linter.unusedSimpArgs false
set_option maxHeartbeats 60000000 in
set_option maxRecDepth 100000 in
noncomputable def standB : Σ' P : Prop, Σ' Q : Prop, Σ' R : Prop, (Cut P → Cut Q → Cut R → standA.1) := by
 apply PSigma.mk
 apply PSigma.mk
 apply PSigma.mk
 ·
  intro cutF cutW cutK A0 c0 l entry mem w kh hu1 hu2 hu3 HGL HC HLC H64 HV kc d r3 r4 HSM HCP HCOS cb TT MM EN _ w1 _ _ _ w3 i_ n_ AT cT AM cM g7 w7_ w7b_ oo aa HRS HTT HMM HEN _ HER HST ki HKI HCI w5 AT2 cT2 AM2 cM2 w6 _ _ _ w7 AB cB _ _ _ w8 AD cD w2 Ac cc w9 g19 w19_ w19b_ BF HB HTC HMC BX HBA HDC _ _ wr u6 u21 u24 u25 u26 u27 u28 u29 u30 u31 u32 u33 u34 u35 u36 u37 u38 u39 u40 u41 u139 u140 u141 u142 u143 u144 u145 u146 u147 u148 u149 u150 u151 u152 u153 u154 u155 u156 u157 u158 u159 u160 u161 u162 u163 u164 u165 u166 u167 u168 u169 u170 u171 u172 u173 u174 u175 u176 u177 u178 u179 u180 u181 u182 u183 u184 u185 u186 u187 u188 u189 u190 u191 u192 u193 u194 u195 u196 u197 u198 u199 u200 u201 u202 u203 u204 u205 u206 u207 u208 u209 u210 u211 u212 u213 u214 u215 u216 u217 u218 u219 u220 u221 u222 u223 u224 u225 u226 u227 u228 u229 u230 u231 u232 u233 u234 u235 u236 u237 u238 u239 u240 u241 u242 u243 u244 u245 u246 u247 u248 u249 u250 u251 u252 u253 u254 u255 u256 u257 u258 u259 u260 u261 u262 u263 u264 u265 u266 u267 u268 u269 u270 u271 u272 u273 u274 u275 u276 u277 u278 u279 u280 u281 u282 u283 u284 u285 u286 u287 u288 u289 u290 u291 u292 u293 u294 u295 u296 u297 u298 u299 u300 u301 u302 u303 u304 u305 u306 u307 u308 u309 u310 u311 u312 u313 u314 u315 u316 u317 u318 u319 u320 u321 u322 u323 u324 u325 u326 u327 u328 u329 u330 u331 u332 u333 i hile HL9 HRD hlt
  have hlw : Below w.heap.size w wr := below_then HB.out HB.out.size HL9.out
  have p0 : (0 : Int) ≤ (i : Int) := by omega
  have q0 : (i : Int) < (l.length : Int) := by omega
  obtain ⟨ad, A1, c1, A3, c3, A4, c4, A5, c5, eA, hx0, hx1, hx2, hx3, hx4, hx5, hl1, hC1, hl3, hC3, hl4, hC4, hl5, hC5⟩ := at_T27 HC.out (i : Int) p0 q0
  subst eA
  rw [show ((i : Int)).toNat = i by omega] at hx0 hx1 hx2 hx3 hx4 hx5
  rw [show rd_T27 l (i : Int) = ob l i from rfl] at hx0 hx1 hx2 hx3 hx4 hx5 hC1 hC3 hC4 hC5 hl1 hl3 hl4 hl5
  have hy0 := pw_cell_below hlw hx0
  have hy1 := pw_cell_below hlw hx1
  have hy2 := pw_cell_below hlw hx2
  have hy3 := pw_cell_below hlw hx3
  have hy4 := pw_cell_below hlw hx4
  have hy5 := pw_cell_below hlw hx5
  clear hx0 hx1 hx2 hx3 hx4 hx5
  have hco := HCOS.out i hlt
  have h64 := H64.out i hlt
  have hwo := HSM.out.words i hlt
  have hfi := HST.out.lk.fine.each i hlt
  have hsn := And.intro (HSM.out.code i hlt) (And.intro (HSM.out.syms i hlt) (HSM.out.rels i hlt))
  have hbl := baseL_lt (l := l) hlt
  have hgg := big_not HST.out.big hlt
  have hdr := HST.out.lk.lok.row i hlt
  obtain ⟨x, hx⟩ : ∃ x, ob l i = x := ⟨_, rfl⟩
  rw [hx] at hy0 hy1 hy2 hy3 hy4 hy5 hC1 hC3 hC4 hC5 hl1 hl3 hl4 hl5 hco h64 hwo hfi hsn hbl hgg hdr
  obtain ⟨x0, x1, x2, x3, x4, x5⟩ := x
  simp only at hy0 hy1 hy2 hy3 hy4 hy5 hC1 hC3 hC4 hC5 hl1 hl3 hl4 hl5 hco h64 hwo hfi hsn hbl hgg hdr
  have HXE := Aside0.mk hx
  have HCO := Aside0.mk hco
  have H64i := Aside0.mk h64
  have HWO := Aside0.mk hwo
  have HFI := Aside0.mk hfi
  have HSN := Aside0.mk hsn
  have hgg2 : baseL l i + x1.length < 16384 := hgg
  rw [← HST.out.tl] at hbl
  have HBL := Aside0.mk (And.intro hbl hgg2)
  have R1 := Aside0.mk (And.intro hl1 (Kd.C_below hC1 hlw))
  have R3 := Aside0.mk (And.intro hl3 (Kd.C_below hC3 hlw))
  have R4 := Aside0.mk (And.intro hl4 (Kd.C_below hC4 hlw))
  have R5 := Aside0.mk (And.intro hl5 (Kd.C_below hC5 hlw))
  have HLT := Aside0.mk hlt
  obtain ⟨nx, hnx⟩ : ∃ nx : Int, (baseL l i : Int) = nx := ⟨_, rfl⟩
  rw [hnx]
  have HNX := Aside0.mk hnx
  have hltb : decide ((i : Int) < (l.length : Int)) = true := decide_eq_true (by omega)
  have HWI := Aside0.mk (show wrap64 ((i : Int) + 1) = ((i + 1 : Nat) : Int) by have := HST.out.lk.len; rw [wrap64_id (by omega) (by omega)]; rfl)
  obtain ⟨ab, eab, hcb⟩ := Kd.at_int HBA.out.2.2 (i : Int) p0 q0
  subst eab
  rw [rd_BL p0 q0, show ((i : Int)).toNat = i by omega, hnx] at hcb
  obtain ⟨edd, Bd, dd, eD, hzd, hLd, hCd2⟩ := at_L17 HDC.out (i : Int) p0 q0
  subst eD
  rw [show ((i : Int)).toNat = i by omega] at hzd
  rw [hdr] at hzd hCd2
  have HCB := Aside0.mk hcb
  have HZD := Aside0.mk hzd
  have HCD := Aside0.mk hCd2
  have hoi : ∃ b : Bool, ((oo : Int) == (i : Int)) = b ∧ (b = true → (EN != wrap64 (nx + aa)) = false ∧ (EN != IntKind.i64.wrap (nx + aa)) = false) := by
   refine ⟨_, rfl, fun hb => (fun h => ⟨h, by rw [i64_w]; exact h⟩) ?_⟩
   have e : oo = i := by have := eq_of_beq hb; omega
   subst e
   have h_ := HST.out.a0
   rw [hx] at h_
   have h_2 : aa ≤ (x1.length : Int) := h_.2
   have he := HST.out.ent
   rw [wrap64_id (by omega) (by omega), he, hnx]
   exact bne_self_eq_false' _
  replace p0 := eq_true p0
  replace q0 := eq_true q0
  have hge : decide (wrap64 (nx + (x1.length : Int)) ≥ (TT.length : Int)) = false := decide_eq_false (by rw [wrap64_id (by omega) (by omega)]; omega)
  have hge2 : ((TT.length : Int) ≤ wrap64 (nx + (x1.length : Int))) = False := eq_false (by rw [wrap64_id (by omega) (by omega)]; omega)
  have hge3 : decide (IntKind.i64.wrap (nx + (x1.length : Int)) ≥ (TT.length : Int)) = false := by rw [i64_w]; exact hge
  have hge4 : decide ((TT.length : Int) ≤ IntKind.i64.wrap (nx + (x1.length : Int))) = false := by rw [i64_w]; exact hge
  have hge5 : decide ((TT.length : Int) ≤ wrap64 (nx + (x1.length : Int))) = false := hge
  clear hge2
  clear hlw hC1 hC3 hC4 hC5 hl1 hl3 hl4 hl5 hco h64 hwo hfi hsn hbl hgg hgg2 hdr hx hnx hlt hile hcb hzd hLd hCd2
  go_upto_if 192 with (first | (go_at_call 12; refine (pleatref00_CopyObject.calls x0 A1 c1 x1 x2 A3 c3 x3 A4 c4 x4 A5 c5 x5 x0 x1 x2 x3 x4 x5 _ R1.out.2 R1.out.1 R3.out.2 R3.out.1 R4.out.2 R4.out.1 R5.out.2 R5.out.1 HCO.out).mono ?_; rintro e_ w17 ⟨v1_, v3_, v4_, v5_, rfl, h1_, h3_, h4_, h5_, hb_⟩; obtain ⟨B1, d1, e1_⟩ := Kd.R_slice h1_; obtain ⟨B3, d3, e3_⟩ := Kd.R_slice h3_; obtain ⟨B4, d4, e4_⟩ := Kd.R_slice h4_; obtain ⟨B5, d5, e5_⟩ := Kd.R_slice h5_; subst e1_ e3_ e4_ e5_; have HO1 := Aside0.mk (Kd.R_reads' h1_); have HO3 := Aside0.mk (Kd.R_reads' h3_); have HO4 := Aside0.mk (Kd.R_reads' h4_); have HO5 := Aside0.mk (Kd.R_reads' h5_); have HL9n := Aside0.mk (below_then HL9.out HL9.out.size hb_); have HRDn := Aside0.mk (Kd.R_below HRD.out hb_); clear HL9 HRD  hb_ h1_ h3_ h4_ h5_ R1 R3 R4 R5 hy0 hy1 hy2 hy3 hy4 hy5; have HL9 := HL9n; clear HL9n; have HRD := HRDn; clear HRDn; ) | ((with_reducible refine gate_dst (N := 24) rfl ?_); refine box_event ?hg (N := 24) ?hd (cs := #[.string (⟨#[]⟩ : ByteArray), .slice none 0 0, .int .i64 0, .slice none 0 0, .slice none 0 0, .slice none 0 0]) (t := 27) ?hr ?_; (case hd => rfl); (case hg => rfl); (case hr => first | (go_simp; done) | (go_simp; rfl)); intro g24 hg_ w24_ BK_ hb_; have BZ := Aside0.mk BK_; have LZ := Aside0.mk hb_; have GZ := Aside0.mk (Nat.le_of_eq hg_.symm); clear BK_ hb_ hg_) | ((with_reducible refine gate_store (t := 27) rfl ?_); refine wpList_store_whole rfl rfl rfl g24 _ #[.string x0, .slice B1 x1.length d1, .int .i64 x2, .slice B3 x3.length d3, .slice B4 x4.length d4, .slice B5 x5.length d5] _ rfl rfl BZ.out (by kernel_rfl) rfl (obj_oneS _ _ _ _ _ _ _ _ _ _ _ _ _ _) ?_; intro w24b_ hp_; have hb_ := hp_.below LZ.out GZ.out; have BO := Aside0.mk hp_.blk; clear BZ LZ GZ hp_; have HL9n := Aside0.mk (below_then HL9.out HL9.out.size hb_); have HRDn := Aside0.mk (Kd.R_below HRD.out hb_); have HO1n := Aside0.mk (And.intro HO1.out.1 (And.intro HO1.out.2.1 (Kd.C_below HO1.out.2.2 hb_))); have HO3n := Aside0.mk (And.intro HO3.out.1 (And.intro HO3.out.2.1 (Kd.C_below HO3.out.2.2 hb_))); have HO4n := Aside0.mk (And.intro HO4.out.1 (And.intro HO4.out.2.1 (Kd.C_below HO4.out.2.2 hb_))); have HO5n := Aside0.mk (And.intro HO5.out.1 (And.intro HO5.out.2.1 (Kd.C_below HO5.out.2.2 hb_))); clear HL9 HRD HO1 HO3 HO4 HO5  hb_; have HL9 := HL9n; clear HL9n; have HRD := HRDn; clear HRDn; have HO1 := HO1n; clear HO1n; have HO3 := HO3n; clear HO3n; have HO4 := HO4n; clear HO4n; have HO5 := HO5n; clear HO5n; ))
  have HLW := Aside0.mk HL9.out
  have hcb := pw_cell_below HL9.out HCB.out
  have hzd := pw_cell_below HL9.out HZD.out
  have ho1 := blk_cell BO.out 1
  have ho4 := blk_cell BO.out 4
  have hx0 := blk_cell (blk_below BX.out HL9.out) 0
  have hx1 := blk_cell (blk_below BX.out HL9.out) 1
  have hf0 := blk_cell (blk_below BF.out HL9.out) 0
  have hf1 := blk_cell (blk_below BF.out HL9.out) 1
  simp only [Act.put, List.setIfInBounds_toArray, List.set_cons_zero, List.set_cons_succ]
  go_cut [192] (fun s192 wx => s192 = .bool false ∧ Aside0 (Below w24b_.heap.size w24b_ wx))
  case first =>
   clear cutW cutK
   repeat revert ‹_›
   intro h_
   exact h_.out
  case rest =>
   obtain ⟨rfl, hcut⟩ := hcut
   clear hoi hcb hzd ho1 ho4 hx0 hx1 hf0 hf1 hge hge3 hge4 hge5
   go_wp2
   go_loopw [25] (fun u25 wr2 => ∃ k : Nat, u25 = .int .i64 (k : Int) ∧ k ≤ x1.length ∧ Aside0 (Below w24b_.heap.size w24b_ wr2)) (fun u25 _ => x1.length - (intOf u25).toNat)
   case atStart => exact ⟨0, rfl, Nat.zero_le _, hcut⟩
   case round =>
    obtain ⟨k, rfl, hkle, HLI⟩ := hrel
    have ho1 := blk_cell (blk_below BO.out HLI.out) 1
    by_cases hlk : k < x1.length
    ·
     clear cutF cutK
     repeat revert ‹_›
     intro h_
     exact h_.out
    ·
     clear cutF cutW
     repeat revert ‹_›
     intro h_
     exact h_.out
end Go.Proofs.YtiaohbbafaaibabDoor.P

/- OWN TEXT: the law LinkStands, walked: region 18: what stands where. -/
namespace Go.Proofs.YtiaohbbafaaibabDoor.P
open Go.RowKit Go.Maps Go.Proofs.YtiaohbbafaaibabDoorW.PrintWords Go.Proofs.YtiaohbbafaaibabDoorW.PrintLast Go.Proofs.YtiaohbbafaaibabDoorW.PrintMore Go.Proofs.YtiaohbbafaaibabDoor.Arr Go.Proofs.YtiaohbbafaaibabDoor.MapB Go.Proofs.YtiaohbbafaaibabDoor.SymM
set_option linter.unusedVariables false
set_option linter.unusedSimpArgs false
set_option maxHeartbeats 60000000 in
set_option maxRecDepth 100000 in
theorem stand18 : standB.1 := by
 intro c0 l entry mem w kh hu1 hu2 hu3 HGL HLC H64 HV kc d r3 r4 HSM HCP HCOS cb TT MM EN _ w1 _ _ _ w3 i_ n_ AT cT AM cM g7 w7_ w7b_ oo aa HRS HTT HMM HEN _ HER HST ki HKI HCI w5 AT2 cT2 AM2 cM2 w6 _ _ _ w7 cB _ _ _ w8 cD w2 Ac cc w9 g19 w19_ w19b_ BF HB HTC HMC BX _ _ wr u6 u21 u24 u25 u26 u27 u28 u29 u30 u31 u32 u33 u34 u35 u36 u37 u38 u39 u40 u41 u139 u140 u141 u142 u143 u144 u145 u146 u147 u148 u149 u150 u151 u152 u153 u154 u155 u156 u157 u158 u159 u160 u161 u162 u163 u164 u165 u166 u167 u168 u169 u170 u171 u172 u173 u174 u175 u176 u177 u178 u179 u180 u181 u182 u183 u184 u185 u186 u187 u188 u189 u190 u191 u192 u193 u194 u195 u196 u197 u198 u199 u200 u201 u202 u203 u204 u205 u206 u207 u208 u209 u210 u211 u212 u213 u214 u215 u216 u217 u218 u219 u220 u221 u222 u223 u224 u225 u226 u227 u228 u229 u230 u231 u232 u233 u234 u235 u236 u237 u238 u239 u240 u241 u242 u243 u244 u245 u246 u247 u248 u249 u250 u251 u252 u253 u254 u255 u256 u257 u258 u259 u260 u261 u262 u263 u264 u265 u266 u267 u268 u269 u270 u271 u272 u273 u274 u275 u276 u277 u278 u279 u280 u281 u282 u283 u284 u285 u286 u287 u288 u289 u290 u291 u292 u293 u294 u295 u296 u297 u298 u299 u300 u301 u302 u303 u304 u305 u306 u307 u308 u309 u310 u311 u312 u313 u314 u315 u316 u317 u318 u319 u320 u321 u322 u323 u324 u325 u326 u327 u328 u329 u330 u331 u332 u333 i ad A1 c1 A3 c3 A4 c4 A5 c5 HC x0 x1 x2 x3 x4 x5 HXE HCO H64i HWO HFI HSN HBL HLT nx HNX hltb HWI ab HBA edd Bd dd HDC HCB HZD HCD hoi p0 q0 hge hge3 hge4 hge5 _ _ _ w17 B1 d1 B3 d3 B4 d4 B5 d5 g24 w24_ w24b_ BO HL9 HRD HO1 HO3 HO4 HO5 _ _ _ _ HLW hcb hzd ho1 ho4 hx0 hx1 hf0 hf1 _ _ _ _
 obtain ⟨bq, heq, hne⟩ := hoi
 cases bq
 all_goals
  first | (obtain ⟨hne, hne2⟩ := hne rfl) | clear hne
  go_upto_region 18 with (fail)
  go_big_quiet (fail)
  go_wp2
  go_meet
  exact ⟨rfl, ⟨pw_below_drewN (Below.refl _ _) _⟩⟩
end Go.Proofs.YtiaohbbafaaibabDoor.P
