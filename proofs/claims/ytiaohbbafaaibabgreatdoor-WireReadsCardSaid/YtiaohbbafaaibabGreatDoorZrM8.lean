/- OWN TEXT and printed parts of this claim, laid together: HRead, HTo, WireN, WireR. -/
import Derived.Test.YtiaohbbafaaibabGreatDoorZrM5
import Derived.Test.YtiaohbbafaaibabGreatDoorZrM7
import Derived.Deep.CutBlock
import Derived.Deep.CutRange
import Derived.Test.YtiaohbbafaaibabGreatDoorZrM1
/- OWN TEXT: wire.Read, walked. -/
namespace Go.Proofs.YtiaohbbafaaibabGreatDoor.P
open Go.RowKit Go.Maps Go.Proofs.YtiaohbbafaaibabGreatDoorW.PrintWords Go.Proofs.YtiaohbbafaaibabGreatDoorW.PrintLast Go.Proofs.YtiaohbbafaaibabGreatDoorW.PrintMore Go.Proofs.YtiaohbbafaaibabGreatDoor.Arr Go.Proofs.YtiaohbbafaaibabGreatDoor.MapB
set_option linter.unusedVariables false
set_option linter.unusedSimpArgs false
theorem as_calls (e t : Nat) (old : Value) (W : World) (hg : W.cell? ⟨0, 0, none⟩ = some (.iface 182 (.agg #[.pointer (some ⟨4, 95, none⟩)]))) (hb : W.heap[t]? = some (.cells #[old] 103 (0, 0))) :
  Calls Tryz.prog 67 #[.iface 103 (.pointer (some ⟨e, 0, none⟩)), .iface 105 (.pointer (some ⟨t, 0, none⟩))] W fun ev w' => ev = .returned (.bool true) ∧ W.grownBy w' (some t) ∧ w'.heap[t]? = some (.cells #[.pointer (some ⟨e, 0, none⟩)] 103 (0, 0)) := by
 refine (as_hit ⟨e, 0, none⟩ ⟨t, 0, none⟩ old W hg ((blk_cell hb 0).trans rfl) (blk_frozen hb 0)).mono ?_
 rintro ev w' ⟨rfl, rfl⟩
 have h4 := below_alloc (below_alloc (below_alloc (below_alloc (Below.refl W.heap.size W) (.cells #[.pointer (some ⟨t, 0, none⟩)] 105)) (.cells #[.pointer (some ⟨4, 105, none⟩), .pointer (some ⟨W.heap.size, 0, none⟩), .int .u64 150] 162)) (.cells #[.pointer (some ⟨4, 105, none⟩), .pointer (some ⟨W.heap.size, 0, none⟩), .int .u64 150] 162)) (.cells #[.pointer (some ⟨e, 0, none⟩)] 103)
 have hp := put_set (j := 0) (x := .pointer (some ⟨e, 0, none⟩)) (blk_below hb h4)
 exact ⟨rfl, grown_trans (grown_below h4) (put_grownN hp), hp.blk⟩
theorem step_store_whole {P : Program} {ops : Array Oper} {oi : Oper} {a : Act} {W : World} {K : Act → World → Prop} {Q : Exit → Act → World → Prop} (hw : Region.wanted oi (yielded ops a.tmps) = true) (hN : oi.dst = none) {t : TypeId} {p v : Operand} (ho : oi.op = .store t p v) (g : Nat) (old cs : Array Value) (e : TypeId) (hp : a.eval p = .pointer (some ⟨g, 0, none⟩)) (hv : a.eval v = .agg cs)
  (hb : W.heap[g]? = some (.cells old e (0, 0))) (hi : (P.info? t).map (·.size) = some cs.size) (hsz : old.size = cs.size) (h1 : cs.all (·.oneCell') = true) (h : ∀ w1, Put W w1 g cs e → K a w1) :
  if Region.wanted oi (yielded ops a.tmps) = true then Oper.wp P oi a W K Q else K (a.put none undef) W := by
 have hrun : (execOp a.eval oi).run P W = .ok .skip (W.setRow g cs) := by
  unfold execOp
  have := run_storeVar_row (P := P) W g e t old cs hb hi hsz h1
  simp only [ho, hp, hv, Instr.storeAt, Instr.sureAddr, Sem.run_bind, Sem.run_pure, this, Result.andThen_ok]
 exact skip_ hw hN hrun (h _ (put_row hb))
theorem results_cell_tmp2 {P : Program} {fn : Func} {p t u : Tmp} {ty : TypeId} (h : fn.results = #[.cell p ty, .tmp t, .tmp u]) (tmps : Array Value) (w : World) (g : Nat) (e : TypeId) (cs : Array Value) (fr : Nat × Nat) (d : TypeDesc)
  (hp : tmps.getD p undef = .pointer (some ⟨g, 0, none⟩)) (hg : w.heap[g]? = some (.cells cs e fr))
  (hu : P.underlying ty = some d) (hd : (match d with | .struct _ | .array _ _ => true | _ => false) = true) (hi : (P.info? ty).map (·.size) = some cs.size) :
  (results fn tmps).run P w = .ok (.tuple #[.agg cs, tmps.getD t undef, tmps.getD u undef]) w := by
 have hp' : tmps[p]?.getD undef = .pointer (some ⟨g, 0, none⟩) := by simpa using hp
 simp [results, h, hp', asAddr, run_loadVar_row w g e ty cs fr d hg hu hd hi, Sem.run_bind, Result.andThen]
theorem obj_oneR (s : ByteArray) (A1 : Option Addr) (n1 c1 : Nat) (a : Int) (A3 : Option Addr) (n3 c3 : Nat) (A4 : Option Addr) (n4 c4 : Nat) (A5 : Option Addr) (n5 c5 : Nat) : ((#[.string s, .slice A1 n1 c1, .int .i64 a, .slice A3 n3 c3, .slice A4 n4 c4, .slice A5 n5 c5] : Array Value).all fun v => v.oneCell') = true := by kernel_rfl
theorem mag_cell (i : Nat) (h : i < 4) : (#[.int .u8 80, .int .u8 76, .int .u8 79, .int .u8 49] : Array Value)[i]? = some (.int .u8 (rd mag (i : Int))) := by
 match i, h with
 | 0, _ => rfl
 | 1, _ => rfl
 | 2, _ => rfl
 | 3, _ => rfl

theorem ev1.calls (w0 W : World) (r p g q : Nat) (A : Option Addr) (c : Nat) (l : List Int) (a : RO) (h : RdO w0 W r p g q A c l a) (hC : Kd.C (Kd.int .u8) w0 A l.length l) (hcc : l.length ≤ c) (hl : l.length ≤ 1099511627776) (hby : ∀ x ∈ l, 0 ≤ x ∧ x < 256) (n : Nat) (hn : a.code.length + n ≤ 16384) :
  Calls Tryz.prog 59 #[.pointer (some ⟨r, 0, none⟩), .int .i64 (n : Int), .func (.func 61) #[] #[.pointer (some ⟨g, 0, none⟩), .pointer (some ⟨p, 0, none⟩)]] W fun e w' => e = .returned (.tuple #[]) ∧ RdO w0 w' r p g q A c l (eachR (f1 l) RO.rs n a) := by
 refine (each1.calls (fun j b W => RdO w0 W r p g q A c l b ∧ b.code.length + j ≤ 16384) RO.rs (f1 l) w0 r A c l (fun _ _ _ h => h.1.rd) #[.pointer (some ⟨g, 0, none⟩), .pointer (some ⟨p, 0, none⟩)] (fun j b W hb _ => ?_) a W n ⟨h, hn⟩ (by omega)).mono ?_
 ·
  refine (read1.calls w0 W r p g q A c l b hb.1 hC hcc hl hby (by have := hb.2; omega)).mono ?_
  rintro e w' ⟨rfl, hr⟩
  exact ⟨rfl, hr, by show (b.code ++ [_]).length + j ≤ 16384; rw [List.length_append]; have := hb.2; simp only [List.length_cons, List.length_nil]; omega⟩
 ·
  rintro e w' ⟨rfl, j, hr⟩
  exact ⟨rfl, hr.1⟩
theorem ev2.calls (w0 W : World) (r p g q : Nat) (A : Option Addr) (c : Nat) (l : List Int) (a : RO) (h : RdO w0 W r p g q A c l a) (hC : Kd.C (Kd.int .u8) w0 A l.length l) (hcc : l.length ≤ c) (hl : l.length ≤ 1099511627776) (hby : ∀ x ∈ l, 0 ≤ x ∧ x < 256) (n : Nat) (hn : a.data.length + n ≤ 16384) :
  Calls Tryz.prog 59 #[.pointer (some ⟨r, 0, none⟩), .int .i64 (n : Int), .func (.func 63) #[] #[.pointer (some ⟨g, 0, none⟩), .pointer (some ⟨p, 0, none⟩)]] W fun e w' => e = .returned (.tuple #[]) ∧ RdO w0 w' r p g q A c l (eachR (f2 l) RO.rs n a) := by
 refine (each2.calls (fun j b W => RdO w0 W r p g q A c l b ∧ b.data.length + j ≤ 16384) RO.rs (f2 l) w0 r A c l (fun _ _ _ h => h.1.rd) #[.pointer (some ⟨g, 0, none⟩), .pointer (some ⟨p, 0, none⟩)] (fun j b W hb _ => ?_) a W n ⟨h, hn⟩ (by omega)).mono ?_
 ·
  refine (read2.calls w0 W r p g q A c l b hb.1 hC hcc hl hby (by have := hb.2; omega)).mono ?_
  rintro e w' ⟨rfl, hr⟩
  exact ⟨rfl, hr, by show (b.data ++ [_]).length + j ≤ 16384; rw [List.length_append]; have := hb.2; simp only [List.length_cons, List.length_nil]; omega⟩
 ·
  rintro e w' ⟨rfl, j, hr⟩
  exact ⟨rfl, hr.1⟩
theorem ev3.calls (w0 W : World) (r p g q : Nat) (A : Option Addr) (c : Nat) (l : List Int) (a : RO) (h : RdO w0 W r p g q A c l a) (hC : Kd.C (Kd.int .u8) w0 A l.length l) (hcc : l.length ≤ c) (hl : l.length ≤ 1099511627776) (hby : ∀ x ∈ l, 0 ≤ x ∧ x < 256) (n : Nat) (hn : a.syms.length + n ≤ 16384) :
  Calls Tryz.prog 59 #[.pointer (some ⟨r, 0, none⟩), .int .i64 (n : Int), .func (.func 65) #[] #[.pointer (some ⟨p, 0, none⟩), .pointer (some ⟨g, 0, none⟩)]] W fun e w' => e = .returned (.tuple #[]) ∧ RdO w0 w' r p g q A c l (eachR (f3 l) RO.rs n a) := by
 refine (each3.calls (fun j b W => RdO w0 W r p g q A c l b ∧ b.syms.length + j ≤ 16384) RO.rs (f3 l) w0 r A c l (fun _ _ _ h => h.1.rd) #[.pointer (some ⟨p, 0, none⟩), .pointer (some ⟨g, 0, none⟩)] (fun j b W hb _ => ?_) a W n ⟨h, hn⟩ (by omega)).mono ?_
 ·
  refine (read3.calls w0 W r p g q A c l b hb.1 hC hcc hl hby (by have := hb.2; omega)).mono ?_
  rintro e w' ⟨rfl, hr⟩
  exact ⟨rfl, hr, by show (b.syms ++ [_]).length + j ≤ 16384; rw [List.length_append]; have := hb.2; simp only [List.length_cons, List.length_nil]; omega⟩
 ·
  rintro e w' ⟨rfl, j, hr⟩
  exact ⟨rfl, hr.1⟩
theorem ev4.calls (w0 W : World) (r p g q : Nat) (A : Option Addr) (c : Nat) (l : List Int) (a : RO) (h : RdO w0 W r p g q A c l a) (hC : Kd.C (Kd.int .u8) w0 A l.length l) (hcc : l.length ≤ c) (hl : l.length ≤ 1099511627776) (hby : ∀ x ∈ l, 0 ≤ x ∧ x < 256) (n : Nat) (hn : a.rels.length + n ≤ 16384) :
  Calls Tryz.prog 59 #[.pointer (some ⟨r, 0, none⟩), .int .i64 (n : Int), .func (.func 66) #[] #[.pointer (some ⟨p, 0, none⟩), .pointer (some ⟨g, 0, none⟩)]] W fun e w' => e = .returned (.tuple #[]) ∧ RdO w0 w' r p g q A c l (eachR (f4 l) RO.rs n a) := by
 refine (each4.calls (fun j b W => RdO w0 W r p g q A c l b ∧ b.rels.length + j ≤ 16384) RO.rs (f4 l) w0 r A c l (fun _ _ _ h => h.1.rd) #[.pointer (some ⟨p, 0, none⟩), .pointer (some ⟨g, 0, none⟩)] (fun j b W hb _ => ?_) a W n ⟨h, hn⟩ (by omega)).mono ?_
 ·
  refine (read4.calls w0 W r p g q A c l b hb.1 hC hcc hl hby (by have := hb.2; omega)).mono ?_
  rintro e w' ⟨rfl, hr⟩
  exact ⟨rfl, hr, by show (b.rels ++ [_]).length + j ≤ 16384; rw [List.length_append]; have := hb.2; simp only [List.length_cons, List.length_nil]; omega⟩
 ·
  rintro e w' ⟨rfl, j, hr⟩
  exact ⟨rfl, hr.1⟩
theorem RdO.setDat {w0 W : World} {r p g q : Nat} {A : Option Addr} {c : Nat} {l : List Int} {a : RO} {x : Int} (h : RdO w0 W r p g q A c l a) : RdO w0 (W.setCell ⟨g, 2, none⟩ (.int .i64 x)) r p g q A c l { a with dat := x } := by
 obtain ⟨v1, v3, v4, v5, ho⟩ := h.obj
 have hp := put_set (j := 2) (x := .int .i64 x) ho.blk
 have G := put_grownN hp
 exact ⟨h.rd.other ho.blk (by decide) (by decide) h.gb G, (G.block p (blk_lt h.ptr) (fun z => ne_types h.ptr ho.blk (by decide) (Option.some.inj z))).trans h.ptr, ⟨(G.block q (blk_lt h.res.1) (fun z => h.res.2 (Option.some.inj z))).trans h.res.1, h.res.2⟩, ⟨v1, v3, v4, v5, hp.blk, Kd.R_grown1 ho.r1 rfl G (Kd.R_ne ho.r1 ho.blk (by decide)), Kd.R_grown1 ho.r3 rfl G (Kd.R_ne ho.r3 ho.blk (by decide)), Kd.R_grown1 ho.r4 rfl G (Kd.R_ne ho.r4 ho.blk (by decide)), Kd.R_grown1 ho.r5 rfl G (Kd.R_ne ho.r5 ho.blk (by decide))⟩, h.gb⟩
structure RdM (w0 W : World) (r p q li : Nat) (A : Option Addr) (c : Nat) (l : List Int) (s : RS) : Prop where
  rd : Rd w0 W r A c l s
  ptr : W.heap[p]? = some (.cells #[.pointer (some ⟨r, 0, none⟩)] 93 (0, 0))
  res : W.heap[q]? = some (.cells zObj 27 (0, 0))
  lit : W.heap[li]? = some (.cells #[.int .u8 80, .int .u8 76, .int .u8 79, .int .u8 49] 5 (4, 5))
theorem RdM.step {w0 W W1 : World} {r p q li : Nat} {A : Option Addr} {c : Nat} {l : List Int} {s s1 : RS} (h : RdM w0 W r p q li A c l s) (hr : Rd w0 W1 r A c l s1) (k : W.grownBy W1 (some r)) : RdM w0 W1 r p q li A c l s1 := by
 obtain ⟨v, hb, _⟩ := h.rd.blk
 exact ⟨hr, (k.block p (blk_lt h.ptr) (fun z => ne_types h.ptr hb (by decide) (Option.some.inj z))).trans h.ptr, (k.block q (blk_lt h.res) (fun z => ne_types h.res hb (by decide) (Option.some.inj z))).trans h.res, (k.block li (blk_lt h.lit) (fun z => ne_types h.lit hb (by decide) (Option.some.inj z))).trans h.lit⟩
set_option maxHeartbeats 60000000 in
set_option maxRecDepth 100000 in
theorem wread.calls (A : Option Addr) (c : Nat) (l : List Int) (w : World) (hC : Kd.C (Kd.int .u8) w A l.length l) (hcc : l.length ≤ c) (hl : l.length ≤ 1099511627776) (hby : ∀ x ∈ l, 0 ≤ x ∧ x < 256) (hgl : w.cell? ⟨0, 0, none⟩ = some (.iface 182 (.agg #[.pointer (some ⟨4, 95, none⟩)]))) :
    Calls Tryz.prog 16 #[.slice A l.length c] w fun e w' => ∃ ov, e = .returned (.tuple #[.agg ov, .int .i64 (readC l).1, .int .i64 (readC l).2]) ∧ Below w.heap.size w w' ∧ ((readC l).1 = 0 → ∃ v1 v3 v4 v5, ov = #[.string (ra5 l).nm, v1, .int .i64 (ra5 l).dat, v3, v4, v5] ∧ Kd.R (Kd.int .u32) 78 w' w.heap.size (fun _ => True) v1 (ra5 l).code ∧ Kd.R (Kd.int .i64) 2 w' w.heap.size (fun _ => True) v3 (ra5 l).data ∧ Kd.R k65 65 w' w.heap.size (fun _ => True) v4 (ra5 l).syms ∧ Kd.R k82 82 w' w.heap.size (fun _ => True) v5 (ra5 l).rels) ∧ ((readC l).1 ≠ 0 → ov = zObj) := by
  have HGL := Aside0.mk hgl
  have hu1 := Tryz.underlying27
  have hu2 := Tryz.underlying97
  have hu3 := Tryz.underlying31
  have hu4 := Tryz.underlying5
  have hcv := conv_lit
  have HC := Aside0.mk hC
  have HCC := Aside0.mk hcc
  have HL := Aside0.mk hl
  have HBY := Aside0.mk hby
  have HB := Aside0.mk (Below.refl w.heap.size w)
  clear hC hcc hl hby hgl
  go_enter Tryz.func16, Tryz.ntmps16
  go_upto_region 2 with (first | ((with_reducible refine gate_dst (N := 2) rfl ?_); refine box_event ?hg (N := 2) ?hd (cs := zObj) (t := 27) ?hr ?_; (case hd => rfl); (case hg => rfl); (case hr => first | (go_simp; done) | (go_simp; rfl)); intro q hq_ w1 BQ_ hb_; have QW := Aside0.mk (gwQ hq_ HB.out); replace HB := Aside0.mk (bsQ hb_ HB.out); have BQ := Aside0.mk BQ_; clear BQ_ hb_ hq_) | ((with_reducible refine gate_dst (N := 16) rfl ?_); refine box_event ?hg (N := 16) ?hd (cs := #[.slice A l.length c, .int .i64 0, .nilIface]) (t := 97) ?hr ?_; (case hd => rfl); (case hg => rfl); (case hr => first | (go_simp; done) | (go_simp; rfl)); intro r hr_ w2 BR_ hb_; have GR := Aside0.mk (gwQ hr_ HB.out); replace HB := Aside0.mk (bsQ hb_ HB.out); replace BQ := Aside0.mk (blk_below BQ.out hb_); have BR := Aside0.mk BR_; clear BR_ hr_ hb_))
  have hbx := below_alloc (Below.refl w2.heap.size w2) (.cells #[.pointer (some ⟨r, 0, none⟩)] 93)
  have BP := Aside0.mk (MapKept.heap_alloc w2 (.cells #[.pointer (some ⟨r, 0, none⟩)] 93)).1
  have BRn := Aside0.mk (blk_below BR.out hbx)
  have BQn := Aside0.mk (blk_below BQ.out hbx)
  have HBn := Aside0.mk (below_alloc HB.out (.cells #[.pointer (some ⟨r, 0, none⟩)] 93))
  clear hbx HB BR BQ
  have HB := HBn
  have BR := BRn
  have BQ := BQn
  clear HBn BRn BQn
  generalize w2.alloc (.cells #[.pointer (some ⟨r, 0, none⟩)] 93) = w3 at HB BR BQ BP ⊢
  generalize w2.heap.size = p at BP ⊢
  have hba := below_alloc (Below.refl w3.heap.size w3) (.cells #[.int .u8 80, .int .u8 76, .int .u8 79, .int .u8 49] 5 (4, 5))
  have HM := Aside0.mk (show RdM w (w3.alloc (.cells #[.int .u8 80, .int .u8 76, .int .u8 79, .int .u8 49] 5 (4, 5))) r p q w3.heap.size A c l ⟨((0 : Nat) : Int), magicE l 0⟩ from ⟨⟨below_alloc HB.out _, ⟨.nilIface, blk_below BR.out hba, rfl⟩, GR.out, Int.le_refl _, by show (0 : Int) ≤ _; omega, fun _ => by show (0 : Int) ≤ _; omega⟩, blk_below BP.out hba, blk_below BQ.out hba, (MapKept.heap_alloc w3 _).1⟩)
  clear hba HB BR BP BQ
  go_wp2
  go_loopw [20] (fun u20 wr => ∃ i : Nat, u20 = .int .i64 (i : Int) ∧ i ≤ 4 ∧ Aside0 (RdM w wr r p q w3.heap.size A c l ⟨(i : Int), magicE l i⟩)) (fun u20 _ => 4 - (intOf u20).toNat)
  case atStart => exact ⟨0, rfl, by omega, HM⟩
  case round =>
    clear HM hcv
    obtain ⟨i, rfl, hile, HM⟩ := hrel
    generalize w3.heap.size = li at HM ⊢
    obtain ⟨v, hb, he⟩ := HM.out.rd.blk
    have hd0 := (blk_cell hb 0).trans rfl
    have hd1 : wr.cell? ⟨r, 1, none⟩ = some (.int .i64 (i : Int)) := (blk_cell hb 1).trans rfl
    have hg1 := blk_frozen hb 1
    have hpp : wr.cell? ⟨p, 0, none⟩ = some (.pointer (some ⟨r, 0, none⟩)) := (blk_cell HM.out.ptr 0).trans rfl
    have HEV := Aside0.mk he
    clear he
    by_cases hlt : i < 4
    · have p0 : (0 : Int) ≤ (i : Int) := by omega
      have q0 : (i : Int) < (4 : Int) := by omega
      have hm0 : wr.cell? ⟨li, i, none⟩ = some (.int .u8 (rd mag (i : Int))) := (cell_of_row wr li i _ _ _ HM.out.lit).trans (mag_cell i hlt)
      have hltb : decide ((i : Int) < (4 : Int)) = true := decide_eq_true q0
      have HLT := Aside0.mk hlt
      have HBB := Aside0.mk hb
      obtain ⟨mg, hmg⟩ : ∃ mg, mg = rd mag (i : Int) := ⟨_, rfl⟩
      rw [← hmg] at hm0
      have HMG := Aside0.mk hmg
      clear hb hlt hile hmg
      by_cases hge : (i : Int) ≥ (l.length : Int)
      · have hgb : (l.length ≤ i) = True := eq_true (by omega)
        have HBAD := Aside0.mk (show failsR (i : Int) ⟨(i : Int), magicE l i⟩ = ⟨(i : Int), magicE l (i + 1)⟩ by unfold failsR; simp only [magicE]; cases magicE l i with | some q => rfl | none => simp only []; rw [if_pos (.inl hge)])
        have HBN := Aside0.mk (show ∃ q, magicE l (i + 1) = some q by have h := HBAD.out; obtain ⟨q, hq⟩ := failsR_er (i : Int) ⟨(i : Int), magicE l i⟩; rw [h] at hq; exact ⟨q, hq⟩)
        clear hge
        go_wp2_with ((go_at_call 57; refine (fails.calls w wr r _ c l _ HM.out.rd (i : Int)).mono ?_; rw [HBAD.out]; rintro e_ w5 ⟨rfl, hr_, hg_⟩; have HM1 := Aside0.mk (HM.out.step hr_ hg_); obtain ⟨v1, hb1, hev⟩ := hr_.blk; have HE1 := Aside0.mk hev; clear hev; have HB1 := Aside0.mk hb1; have he0 := (blk_cell hb1 0).trans rfl; have he1 : w5.cell? ⟨r, 1, none⟩ = some (.int .i64 (i : Int)) := (blk_cell hb1 1).trans rfl; have hef := blk_frozen hb1 1; have hep : w5.cell? ⟨p, 0, none⟩ = some (.pointer (some ⟨r, 0, none⟩)) := (blk_cell HM1.out.ptr 0).trans rfl; clear hr_ hg_ hb1 hd0 hd1 hg1 hpp hm0))
        go_roundw
        case measure => have hq := HLT.out; simp only [intOf]; omega
        case rel =>
          have hx := HM1.out.rd.put (v := .nilIface) (y := 0) (x := v1) _ (put_set (j := 1) (x := .int .i64 ((i : Int) + 1)) HB1.out) ⟨((i + 1 : Nat) : Int), magicE l (i + 1)⟩ rfl HE1.out (by show (0 : Int) ≤ ((i + 1 : Nat) : Int); omega) (by have := HLT.out; show ((i + 1 : Nat) : Int) ≤ _; omega) (fun e => by obtain ⟨q, hq⟩ := HBN.out; rw [show magicE l (i + 1) = none from e] at hq; cases hq)
          exact ⟨i + 1, rfl, by have := HLT.out; omega, ⟨HM1.out.step hx.1 hx.2⟩⟩
      · have hgb : (l.length ≤ i) = False := eq_false (by omega)
        have HLL := Aside0.mk (show i < l.length by omega)
        obtain ⟨ad, e0, h0⟩ := Kd.at_int HC.out (i : Int) p0 (by omega)
        subst e0
        rw [show ((i : Int)).toNat = i by omega] at h0
        replace h0 := pw_cell_below HM.out.rd.low h0
        obtain ⟨x, hx⟩ : ∃ x, x = rd l (i : Int) := ⟨_, rfl⟩
        rw [← hx] at h0
        have HXX := Aside0.mk hx
        have q1 : (i : Int) < (l.length : Int) := by omega
        replace p0 := eq_true p0
        replace q1 := eq_true q1
        clear hx hge
        by_cases hne : x = mg
        · subst hne
          have HOK := Aside0.mk (show magicE l (i + 1) = magicE l i by simp only [magicE]; cases magicE l i with | some q => rfl | none => simp only []; rw [if_neg (fun h => h.elim (fun h => by have := HLL.out; omega) (fun h => h (by rw [← HXX.out, ← HMG.out])))])
          go_wp2
          go_roundw
          case measure => have hq := HLT.out; simp only [intOf]; omega
          case rel =>
            have hx := HM.out.rd.put (v := .nilIface) (y := 0) (x := v) _ (put_set (j := 1) (x := .int .i64 ((i : Int) + 1)) HBB.out) ⟨((i + 1 : Nat) : Int), magicE l (i + 1)⟩ rfl (by rw [HOK.out]; exact HEV.out) (by show (0 : Int) ≤ ((i + 1 : Nat) : Int); omega) (by have := HLT.out; show ((i + 1 : Nat) : Int) ≤ _; omega) (fun e => by have := HLL.out; show ((i + 1 : Nat) : Int) ≤ _; omega)
            exact ⟨i + 1, rfl, by have := HLT.out; omega, ⟨HM.out.step hx.1 hx.2⟩⟩
        · have hnb : (x == mg) = false := beq_eq_false_iff_ne.mpr hne
          have HBAD := Aside0.mk (show failsR (i : Int) ⟨(i : Int), magicE l i⟩ = ⟨(i : Int), magicE l (i + 1)⟩ by unfold failsR; simp only [magicE]; cases magicE l i with | some q => rfl | none => simp only []; rw [if_pos (.inr (fun h => hne (by rw [HXX.out, HMG.out]; exact h)))])
          have HBN := Aside0.mk (show ∃ q, magicE l (i + 1) = some q by have h := HBAD.out; obtain ⟨q, hq⟩ := failsR_er (i : Int) ⟨(i : Int), magicE l i⟩; rw [h] at hq; exact ⟨q, hq⟩)
          clear hne
          go_wp2_with ((go_at_call 57; refine (fails.calls w wr r _ c l _ HM.out.rd (i : Int)).mono ?_; rw [HBAD.out]; rintro e_ w5 ⟨rfl, hr_, hg_⟩; have HM1 := Aside0.mk (HM.out.step hr_ hg_); obtain ⟨v1, hb1, hev⟩ := hr_.blk; have HE1 := Aside0.mk hev; clear hev; have HB1 := Aside0.mk hb1; have he0 := (blk_cell hb1 0).trans rfl; have he1 : w5.cell? ⟨r, 1, none⟩ = some (.int .i64 (i : Int)) := (blk_cell hb1 1).trans rfl; have hef := blk_frozen hb1 1; have hep : w5.cell? ⟨p, 0, none⟩ = some (.pointer (some ⟨r, 0, none⟩)) := (blk_cell HM1.out.ptr 0).trans rfl; clear hr_ hg_ hb1 hd0 hd1 hg1 hpp hm0))
          go_roundw
          case measure => have hq := HLT.out; simp only [intOf]; omega
          case rel =>
            have hx := HM1.out.rd.put (v := .nilIface) (y := 0) (x := v1) _ (put_set (j := 1) (x := .int .i64 ((i : Int) + 1)) HB1.out) ⟨((i + 1 : Nat) : Int), magicE l (i + 1)⟩ rfl HE1.out (by show (0 : Int) ≤ ((i + 1 : Nat) : Int); omega) (by have := HLT.out; show ((i + 1 : Nat) : Int) ≤ _; omega) (fun e => by obtain ⟨q, hq⟩ := HBN.out; rw [show magicE l (i + 1) = none from e] at hq; cases hq)
            exact ⟨i + 1, rfl, by have := HLT.out; omega, ⟨HM1.out.step hx.1 hx.2⟩⟩
    · have hi0 : i = 4 := by omega
      subst hi0
      have hltb : decide (((4 : Nat) : Int) < (4 : Int)) = false := by simp
      clear hlt hile hb hd0 hd1 hg1 HEV
      go_upto_region 10 with ((go_at_call 58; refine (rtext.calls w wr r A c l _ HM.out.rd HC.out HCC.out HL.out HBY.out).mono ?_; rintro e_ w1 ⟨rfl, hr_, hg_⟩; have HM1 := Aside0.mk (HM.out.step hr_ hg_); have hpp1 : w1.cell? ⟨p, 0, none⟩ = some (.pointer (some ⟨r, 0, none⟩)) := (blk_cell HM1.out.ptr 0).trans rfl; clear hr_ hg_ HM hpp))
      have hbx := below_alloc (Below.refl w1.heap.size w1) (.cells #[.string (textR l ⟨((4 : Nat) : Int), magicE l 4⟩).1, .slice none 0 0, .int .i64 0, .slice none 0 0, .slice none 0 0, .slice none 0 0] 27)
      have H := Aside0.mk (show RdO w (w1.alloc (.cells #[.string (textR l ⟨((4 : Nat) : Int), magicE l 4⟩).1, .slice none 0 0, .int .i64 0, .slice none 0 0, .slice none 0 0, .slice none 0 0] 27)).drew r p w1.heap.size q A c l (ra0 l) from
        RdO.below (W := w1.alloc (.cells #[.string (textR l ⟨((4 : Nat) : Int), magicE l 4⟩).1, .slice none 0 0, .int .i64 0, .slice none 0 0, .slice none 0 0, .slice none 0 0] 27)) ⟨HM1.out.rd.below hbx, blk_below HM1.out.ptr hbx, ⟨blk_below HM1.out.res hbx, Nat.ne_of_lt (blk_lt HM1.out.res)⟩, ⟨.slice none 0 0, .slice none 0 0, .slice none 0 0, .slice none 0 0, (MapKept.heap_alloc w1 _).1, Kd.R_nil _ _ _ _ (fun _ => True), Kd.R_nil _ _ _ _ (fun _ => True), Kd.R_nil _ _ _ _ (fun _ => True), Kd.R_nil _ _ _ _ (fun _ => True)⟩, HM1.out.rd.low.size⟩ (below_drew (Below.refl _ _)))
      have hpp : (w1.alloc (.cells #[.string (textR l ⟨((4 : Nat) : Int), magicE l 4⟩).1, .slice none 0 0, .int .i64 0, .slice none 0 0, .slice none 0 0, .slice none 0 0] 27)).drew.cell? ⟨p, 0, none⟩ = some (.pointer (some ⟨r, 0, none⟩)) := (blk_cell H.out.ptr 0).trans rfl
      clear hbx HM1 hpp1
      refine start_ (n := 5) (S := fun w' => w'.cell? ⟨p, 0, none⟩ = some (.pointer (some ⟨r, 0, none⟩))) (ds := [4]) #[false, false, false, false, false] (by kernel_rfl) rfl rfl hpp (fun hHeld => ?_)
      generalize (w1.alloc (.cells #[.string (textR l ⟨((4 : Nat) : Int), magicE l 4⟩).1, .slice none 0 0, .int .i64 0, .slice none 0 0, .slice none 0 0, .slice none 0 0] 27)).drew = wd at H hpp hHeld ⊢
      generalize w1.heap.size = g at H ⊢
      refine take_ (i := 0) (N := some 51) (v := ?_) (a' := ?_) #[true, false, false, false, false] rfl rfl (by kernel_rfl) (fun _ _ _ h => h) (Or.inl ⟨by rfl, ?_⟩) hHeld ?_ ?_
      rotate_left
      ·
        rintro w' s0
        go_simp
        with_reducible rfl
      rotate_left
      ·
        simp only [Act.put, List.setIfInBounds_toArray, List.set_cons_zero, List.set_cons_succ, i64_w, i32_w]
        rfl
      refine take_ (i := 1) (N := some 52) (v := ?_) (a' := ?_) #[true, true, false, false, false] rfl rfl (by kernel_rfl) (fun _ _ _ h => h) (Or.inl ⟨by rfl, ?_⟩) hHeld ?_ ?_
      rotate_left
      ·
        rintro w' s0
        go_simp
        with_reducible rfl
      rotate_left
      ·
        simp only [Act.put, List.setIfInBounds_toArray, List.set_cons_zero, List.set_cons_succ, i64_w, i32_w]
        rfl
      refine pure_ (i := 3) (N := some 54) (v := ?_) (a' := ?_) #[true, true, false, true, false] rfl rfl (by kernel_rfl) (fun _ _ _ h => h) (Or.inl ⟨by rfl, ?_⟩) ?_ ?_
      rotate_left
      ·
        intro w'
        go_simp
        with_reducible rfl
      rotate_left
      ·
        simp only [Act.put, List.setIfInBounds_toArray, List.set_cons_zero, List.set_cons_succ, i64_w, i32_w]
        rfl
      refine one_ (i := 2) (N := some 53) #[true, true, true, true, false] rfl rfl (by kernel_rfl) (by decide) (fun K hK => ?_)
      refine call_ 60 #[.pointer (some ⟨r, 0, none⟩), .int .i64 16384] rfl rfl (by first | rfl | (go_simp; done) | (go_simp; rfl)) ?_
      refine (count.calls w _ r A c l (ra0 l).rs H.out.rd HC.out HCC.out HL.out HBY.out 16384).mono ?_
      rintro e_ w2 ⟨rfl, hr_, hg_⟩
      refine ⟨_, rfl, ?_⟩
      have H2 := Aside0.mk (show RdO w w2 r p g q A c l (cntR l 16384 (ra0 l)) from H.out.step hr_ hg_)
      have hpp2 : w2.cell? ⟨p, 0, none⟩ = some (.pointer (some ⟨r, 0, none⟩)) := (blk_cell H2.out.ptr 0).trans rfl
      refine hK.out _ _ hpp2 (fun hHeld => ?_)
      clear hr_ hg_ H hpp
      clear hK K
      refine norm_ (a' := ?_) ?_ ?_
      rotate_left
      ·
        show Act.put _ (some 53) _ = _
        simp only [Act.put, List.setIfInBounds_toArray, List.set_cons_zero, List.set_cons_succ, i64_w, i32_w]
        rfl
      refine last_ (i := 4) (N := some 55) #[true, true, true, true, true] rfl rfl (by kernel_rfl) (by decide) (fun K hK => ?_)
      refine call_ 59 #[.pointer (some ⟨r, 0, none⟩), .int .i64 (countR l 16384 (ra0 l).rs).1, .func (.func 61) #[] #[.pointer (some ⟨g, 0, none⟩), .pointer (some ⟨p, 0, none⟩)]] rfl rfl (by first | rfl | (go_simp; done) | (go_simp; rfl)) ?_
      have hrg := countR_range l 16384 (ra0 l).rs HBY.out (by omega)
      have hcall := ev1.calls w w2 r p g q A c l (cntR l 16384 (ra0 l)) H2.out HC.out HCC.out HL.out HBY.out (countR l 16384 (ra0 l).rs).1.toNat (by show 0 + _ ≤ _; omega)
      rw [Int.toNat_of_nonneg hrg.1] at hcall
      refine hcall.mono ?_
      rintro e_ w3 ⟨rfl, h3⟩
      refine ⟨_, rfl, ?_⟩
      have H := Aside0.mk (show RdO w w3 r p g q A c l (ra1 l) from h3)
      have hpp : w3.cell? ⟨p, 0, none⟩ = some (.pointer (some ⟨r, 0, none⟩)) := (blk_cell H.out.ptr 0).trans rfl
      refine hK.out _ _ ?_
      clear hrg hcall h3 H2 hpp2
      clear hK K
      refine norm_ (a' := ?_) ?_ ?_
      rotate_left
      ·
        show Act.put _ (some 55) _ = _
        simp only [Act.put, List.setIfInBounds_toArray, List.set_cons_zero, List.set_cons_succ, i64_w, i32_w]
        rfl
      refine done_ (by kernel_rfl) ?_
      generalize w3 = W3 at H hpp ⊢
      go_upto_region 12 with ((go_at_call 60; refine (count.calls w _ r A c l (ra1 l).rs H.out.rd HC.out HCC.out HL.out HBY.out 2147483647).mono ?_; rintro e_ w4 ⟨rfl, hr_, hg_⟩; have H4 := Aside0.mk (show RdO w w4 r p g q A c l (cntR l 2147483647 (ra1 l)) from H.out.step hr_ hg_); have hpp4 : w4.cell? ⟨p, 0, none⟩ = some (.pointer (some ⟨r, 0, none⟩)) := (blk_cell H4.out.ptr 0).trans rfl; obtain ⟨v1, v3, v4, v5, ho_⟩ := H4.out.obj; have hg2 := (blk_cell ho_.blk 2).trans rfl; have hgf := blk_frozen ho_.blk 2; clear hr_ hg_ ho_ H hpp))
      have H := Aside0.mk (show RdO w (w4.setCell ⟨g, 2, none⟩ (.int .i64 (countR l 2147483647 (ra1 l).rs).1)).drew r p g q A c l (ra2 l) from H4.out.setDat.below (below_drew (Below.refl _ _)))
      have hpp : (w4.setCell ⟨g, 2, none⟩ (.int .i64 (countR l 2147483647 (ra1 l).rs).1)).drew.cell? ⟨p, 0, none⟩ = some (.pointer (some ⟨r, 0, none⟩)) := (blk_cell H.out.ptr 0).trans rfl
      clear H4 hpp4 hg2 hgf
      refine start_ (n := 5) (S := fun w' => w'.cell? ⟨p, 0, none⟩ = some (.pointer (some ⟨r, 0, none⟩))) (ds := [4]) #[false, false, false, false, false] (by kernel_rfl) rfl rfl hpp (fun hHeld => ?_)
      generalize (w4.setCell ⟨g, 2, none⟩ (.int .i64 (countR l 2147483647 (ra1 l).rs).1)).drew = wd at H hpp hHeld ⊢
      refine take_ (i := 0) (N := some 59) (v := ?_) (a' := ?_) #[true, false, false, false, false] rfl rfl (by kernel_rfl) (fun _ _ _ h => h) (Or.inl ⟨by rfl, ?_⟩) hHeld ?_ ?_
      rotate_left
      ·
        rintro w' s0
        go_simp
        with_reducible rfl
      rotate_left
      ·
        simp only [Act.put, List.setIfInBounds_toArray, List.set_cons_zero, List.set_cons_succ, i64_w, i32_w]
        rfl
      refine take_ (i := 1) (N := some 60) (v := ?_) (a' := ?_) #[true, true, false, false, false] rfl rfl (by kernel_rfl) (fun _ _ _ h => h) (Or.inl ⟨by rfl, ?_⟩) hHeld ?_ ?_
      rotate_left
      ·
        rintro w' s0
        go_simp
        with_reducible rfl
      rotate_left
      ·
        simp only [Act.put, List.setIfInBounds_toArray, List.set_cons_zero, List.set_cons_succ, i64_w, i32_w]
        rfl
      refine pure_ (i := 3) (N := some 62) (v := ?_) (a' := ?_) #[true, true, false, true, false] rfl rfl (by kernel_rfl) (fun _ _ _ h => h) (Or.inl ⟨by rfl, ?_⟩) ?_ ?_
      rotate_left
      ·
        intro w'
        go_simp
        with_reducible rfl
      rotate_left
      ·
        simp only [Act.put, List.setIfInBounds_toArray, List.set_cons_zero, List.set_cons_succ, i64_w, i32_w]
        rfl
      refine one_ (i := 2) (N := some 61) #[true, true, true, true, false] rfl rfl (by kernel_rfl) (by decide) (fun K hK => ?_)
      refine call_ 60 #[.pointer (some ⟨r, 0, none⟩), .int .i64 4096] rfl rfl (by first | rfl | (go_simp; done) | (go_simp; rfl)) ?_
      refine (count.calls w _ r A c l (ra2 l).rs H.out.rd HC.out HCC.out HL.out HBY.out 4096).mono ?_
      rintro e_ w2 ⟨rfl, hr_, hg_⟩
      refine ⟨_, rfl, ?_⟩
      have H2 := Aside0.mk (show RdO w w2 r p g q A c l (cntR l 4096 (ra2 l)) from H.out.step hr_ hg_)
      have hpp2 : w2.cell? ⟨p, 0, none⟩ = some (.pointer (some ⟨r, 0, none⟩)) := (blk_cell H2.out.ptr 0).trans rfl
      refine hK.out _ _ hpp2 (fun hHeld => ?_)
      clear hr_ hg_ H hpp
      clear hK K
      refine norm_ (a' := ?_) ?_ ?_
      rotate_left
      ·
        show Act.put _ (some 61) _ = _
        simp only [Act.put, List.setIfInBounds_toArray, List.set_cons_zero, List.set_cons_succ, i64_w, i32_w]
        rfl
      refine last_ (i := 4) (N := some 63) #[true, true, true, true, true] rfl rfl (by kernel_rfl) (by decide) (fun K hK => ?_)
      refine call_ 59 #[.pointer (some ⟨r, 0, none⟩), .int .i64 (countR l 4096 (ra2 l).rs).1, .func (.func 63) #[] #[.pointer (some ⟨g, 0, none⟩), .pointer (some ⟨p, 0, none⟩)]] rfl rfl (by first | rfl | (go_simp; done) | (go_simp; rfl)) ?_
      have hrg := countR_range l 4096 (ra2 l).rs HBY.out (by omega)
      have hcall := ev2.calls w w2 r p g q A c l (cntR l 4096 (ra2 l)) H2.out HC.out HCC.out HL.out HBY.out (countR l 4096 (ra2 l).rs).1.toNat (by show (ra2 l).data.length + _ ≤ _; rw [ra2_data]; show 0 + _ ≤ _; omega)
      rw [Int.toNat_of_nonneg hrg.1] at hcall
      refine hcall.mono ?_
      rintro e_ w3 ⟨rfl, h3⟩
      refine ⟨_, rfl, ?_⟩
      have H := Aside0.mk (show RdO w w3 r p g q A c l (ra3 l) from h3)
      have hpp : w3.cell? ⟨p, 0, none⟩ = some (.pointer (some ⟨r, 0, none⟩)) := (blk_cell H.out.ptr 0).trans rfl
      refine hK.out _ _ ?_
      clear hrg hcall h3 H2 hpp2
      clear hK K
      refine norm_ (a' := ?_) ?_ ?_
      rotate_left
      ·
        show Act.put _ (some 63) _ = _
        simp only [Act.put, List.setIfInBounds_toArray, List.set_cons_zero, List.set_cons_succ, i64_w, i32_w]
        rfl
      refine done_ (by kernel_rfl) ?_
      generalize w3 = W3 at H hpp ⊢
      go_upto_region 13 with (fail)
      have Hn := Aside0.mk (H.out.below (below_drew (Below.refl _ _)))
      clear H hpp
      have H := Hn
      clear Hn
      have hpp : W3.drew.cell? ⟨p, 0, none⟩ = some (.pointer (some ⟨r, 0, none⟩)) := (blk_cell H.out.ptr 0).trans rfl
      refine start_ (n := 5) (S := fun w' => w'.cell? ⟨p, 0, none⟩ = some (.pointer (some ⟨r, 0, none⟩))) (ds := [4]) #[false, false, false, false, false] (by kernel_rfl) rfl rfl hpp (fun hHeld => ?_)
      generalize W3.drew = wd at H hpp hHeld ⊢
      refine take_ (i := 0) (N := some 64) (v := ?_) (a' := ?_) #[true, false, false, false, false] rfl rfl (by kernel_rfl) (fun _ _ _ h => h) (Or.inl ⟨by rfl, ?_⟩) hHeld ?_ ?_
      rotate_left
      ·
        rintro w' s0
        go_simp
        with_reducible rfl
      rotate_left
      ·
        simp only [Act.put, List.setIfInBounds_toArray, List.set_cons_zero, List.set_cons_succ, i64_w, i32_w]
        rfl
      refine take_ (i := 1) (N := some 65) (v := ?_) (a' := ?_) #[true, true, false, false, false] rfl rfl (by kernel_rfl) (fun _ _ _ h => h) (Or.inl ⟨by rfl, ?_⟩) hHeld ?_ ?_
      rotate_left
      ·
        rintro w' s0
        go_simp
        with_reducible rfl
      rotate_left
      ·
        simp only [Act.put, List.setIfInBounds_toArray, List.set_cons_zero, List.set_cons_succ, i64_w, i32_w]
        rfl
      refine pure_ (i := 3) (N := some 67) (v := ?_) (a' := ?_) #[true, true, false, true, false] rfl rfl (by kernel_rfl) (fun _ _ _ h => h) (Or.inl ⟨by rfl, ?_⟩) ?_ ?_
      rotate_left
      ·
        intro w'
        go_simp
        with_reducible rfl
      rotate_left
      ·
        simp only [Act.put, List.setIfInBounds_toArray, List.set_cons_zero, List.set_cons_succ, i64_w, i32_w]
        rfl
      refine one_ (i := 2) (N := some 66) #[true, true, true, true, false] rfl rfl (by kernel_rfl) (by decide) (fun K hK => ?_)
      refine call_ 60 #[.pointer (some ⟨r, 0, none⟩), .int .i64 256] rfl rfl (by first | rfl | (go_simp; done) | (go_simp; rfl)) ?_
      refine (count.calls w _ r A c l (ra3 l).rs H.out.rd HC.out HCC.out HL.out HBY.out 256).mono ?_
      rintro e_ w2 ⟨rfl, hr_, hg_⟩
      refine ⟨_, rfl, ?_⟩
      have H2 := Aside0.mk (show RdO w w2 r p g q A c l (cntR l 256 (ra3 l)) from H.out.step hr_ hg_)
      have hpp2 : w2.cell? ⟨p, 0, none⟩ = some (.pointer (some ⟨r, 0, none⟩)) := (blk_cell H2.out.ptr 0).trans rfl
      refine hK.out _ _ hpp2 (fun hHeld => ?_)
      clear hr_ hg_ H hpp
      clear hK K
      refine norm_ (a' := ?_) ?_ ?_
      rotate_left
      ·
        show Act.put _ (some 66) _ = _
        simp only [Act.put, List.setIfInBounds_toArray, List.set_cons_zero, List.set_cons_succ, i64_w, i32_w]
        rfl
      refine last_ (i := 4) (N := some 68) #[true, true, true, true, true] rfl rfl (by kernel_rfl) (by decide) (fun K hK => ?_)
      refine call_ 59 #[.pointer (some ⟨r, 0, none⟩), .int .i64 (countR l 256 (ra3 l).rs).1, .func (.func 65) #[] #[.pointer (some ⟨p, 0, none⟩), .pointer (some ⟨g, 0, none⟩)]] rfl rfl (by first | rfl | (go_simp; done) | (go_simp; rfl)) ?_
      have hrg := countR_range l 256 (ra3 l).rs HBY.out (by omega)
      have hcall := ev3.calls w w2 r p g q A c l (cntR l 256 (ra3 l)) H2.out HC.out HCC.out HL.out HBY.out (countR l 256 (ra3 l).rs).1.toNat (by show (ra3 l).syms.length + _ ≤ _; rw [ra3_syms]; show 0 + _ ≤ _; omega)
      rw [Int.toNat_of_nonneg hrg.1] at hcall
      refine hcall.mono ?_
      rintro e_ w3 ⟨rfl, h3⟩
      refine ⟨_, rfl, ?_⟩
      have H := Aside0.mk (show RdO w w3 r p g q A c l (ra4 l) from h3)
      have hpp : w3.cell? ⟨p, 0, none⟩ = some (.pointer (some ⟨r, 0, none⟩)) := (blk_cell H.out.ptr 0).trans rfl
      refine hK.out _ _ ?_
      clear hrg hcall h3 H2 hpp2
      clear hK K
      refine norm_ (a' := ?_) ?_ ?_
      rotate_left
      ·
        show Act.put _ (some 68) _ = _
        simp only [Act.put, List.setIfInBounds_toArray, List.set_cons_zero, List.set_cons_succ, i64_w, i32_w]
        rfl
      refine done_ (by kernel_rfl) ?_
      generalize w3 = W3 at H hpp ⊢
      go_upto_region 14 with (fail)
      have Hn := Aside0.mk (H.out.below (below_drew (Below.refl _ _)))
      clear H hpp
      have H := Hn
      clear Hn
      have hpp : W3.drew.cell? ⟨p, 0, none⟩ = some (.pointer (some ⟨r, 0, none⟩)) := (blk_cell H.out.ptr 0).trans rfl
      obtain ⟨v1, v3, v4, v5, ho_⟩ := H.out.obj
      obtain ⟨Ac, cc, ec⟩ := Kd.R_slice ho_.r1
      subst ec
      have HO4 := Aside0.mk ho_
      have hcc1 : W3.drew.cell? ⟨g, 1, none⟩ = some (.slice Ac (ra4 l).code.length cc) := (blk_cell HO4.out.blk 1).trans rfl
      have HCL := Aside0.mk (ra4_code l HBY.out)
      clear ho_
      refine start_ (n := 8) (S := fun w' => w'.cell? ⟨p, 0, none⟩ = some (.pointer (some ⟨r, 0, none⟩)) ∧ w'.cell? ⟨g, 1, none⟩ = some (.slice Ac (ra4 l).code.length cc)) (ds := [7]) #[false, false, false, false, false, false, false, false] (by kernel_rfl) rfl rfl ⟨hpp, hcc1⟩ (fun hHeld => ?_)
      generalize W3.drew = wd at H hpp hHeld hcc1 HO4 ⊢
      refine take_ (i := 0) (N := some 69) (v := ?_) (a' := ?_) #[true, false, false, false, false, false, false, false] rfl rfl (by kernel_rfl) (fun _ _ _ h => h) (Or.inl ⟨by rfl, ?_⟩) hHeld ?_ ?_
      rotate_left
      ·
        rintro w' ⟨s0, s1⟩
        go_simp
        with_reducible rfl
      rotate_left
      ·
        simp only [Act.put, List.setIfInBounds_toArray, List.set_cons_zero, List.set_cons_succ, i64_w, i32_w]
        rfl
      refine take_ (i := 1) (N := some 70) (v := ?_) (a' := ?_) #[true, true, false, false, false, false, false, false] rfl rfl (by kernel_rfl) (fun _ _ _ h => h) (Or.inl ⟨by rfl, ?_⟩) hHeld ?_ ?_
      rotate_left
      ·
        rintro w' ⟨s0, s1⟩
        go_simp
        with_reducible rfl
      rotate_left
      ·
        simp only [Act.put, List.setIfInBounds_toArray, List.set_cons_zero, List.set_cons_succ, i64_w, i32_w]
        rfl
      refine pure_ (i := 2) (N := some 71) (v := ?_) (a' := ?_) #[true, true, true, false, false, false, false, false] rfl rfl (by kernel_rfl) (fun _ _ _ h => h) (Or.inl ⟨by rfl, ?_⟩) ?_ ?_
      rotate_left
      ·
        intro w'
        go_simp
        with_reducible rfl
      rotate_left
      ·
        simp only [Act.put, List.setIfInBounds_toArray, List.set_cons_zero, List.set_cons_succ, i64_w, i32_w]
        rfl
      refine take_ (i := 3) (N := some 72) (v := ?_) (a' := ?_) #[true, true, true, true, false, false, false, false] rfl rfl (by kernel_rfl) (fun _ _ _ h => h) (Or.inl ⟨by rfl, ?_⟩) hHeld ?_ ?_
      rotate_left
      ·
        rintro w' ⟨s0, s1⟩
        go_simp
        with_reducible rfl
      rotate_left
      ·
        simp only [Act.put, List.setIfInBounds_toArray, List.set_cons_zero, List.set_cons_succ, i64_w, i32_w]
        rfl
      refine pure_ (i := 4) (N := some 73) (v := ?_) (a' := ?_) #[true, true, true, true, true, false, false, false] rfl rfl (by kernel_rfl) (fun _ _ _ h => h) (Or.inl ⟨by rfl, ?_⟩) ?_ ?_
      rotate_left
      ·
        intro w'
        go_simp
        with_reducible rfl
      rotate_left
      ·
        simp only [Act.put, List.setIfInBounds_toArray, List.set_cons_zero, List.set_cons_succ, i64_w, i32_w]
        rfl
      refine pure_ (i := 6) (N := some 75) (v := ?_) (a' := ?_) #[true, true, true, true, true, false, true, false] rfl rfl (by kernel_rfl) (fun _ _ _ h => h) (Or.inl ⟨by rfl, ?_⟩) ?_ ?_
      rotate_left
      ·
        intro w'
        go_simp
        with_reducible rfl
      rotate_left
      ·
        simp only [Act.put, List.setIfInBounds_toArray, List.set_cons_zero, List.set_cons_succ, i64_w, i32_w]
        rfl
      refine one_ (i := 5) (N := some 74) #[true, true, true, true, true, true, true, false] rfl rfl (by kernel_rfl) (by decide) (fun K hK => ?_)
      refine call_ 60 #[.pointer (some ⟨r, 0, none⟩), .int .i64 ((ra4 l).code.length : Int)] rfl rfl (by first | rfl | (go_simp; done) | (go_simp; rfl)) ?_
      refine (count.calls w _ r A c l (ra4 l).rs H.out.rd HC.out HCC.out HL.out HBY.out ((ra4 l).code.length : Int)).mono ?_
      rintro e_ w2 ⟨rfl, hr_, hg_⟩
      refine ⟨_, rfl, ?_⟩
      have H2 := Aside0.mk (show RdO w w2 r p g q A c l (cntR l ((ra4 l).code.length : Int) (ra4 l)) from H.out.step hr_ hg_)
      have hpp2 : w2.cell? ⟨p, 0, none⟩ = some (.pointer (some ⟨r, 0, none⟩)) := (blk_cell H2.out.ptr 0).trans rfl
      obtain ⟨vr, hvr, _⟩ := H.out.rd.blk
      have hcc2 : w2.cell? ⟨g, 1, none⟩ = some (.slice Ac (ra4 l).code.length cc) := (blk_cell (HO4.out.grown (s := (countR l ((ra4 l).code.length : Int) (ra4 l).rs).2) hvr hg_).blk 1).trans rfl
      refine hK.out _ _ ⟨hpp2, hcc2⟩ (fun hHeld => ?_)
      clear hr_ hg_ H hpp hcc1 hvr HO4
      clear hK K
      refine norm_ (a' := ?_) ?_ ?_
      rotate_left
      ·
        show Act.put _ (some 74) _ = _
        simp only [Act.put, List.setIfInBounds_toArray, List.set_cons_zero, List.set_cons_succ, i64_w, i32_w]
        rfl
      refine last_ (i := 7) (N := some 76) #[true, true, true, true, true, true, true, true] rfl rfl (by kernel_rfl) (by decide) (fun K hK => ?_)
      refine call_ 59 #[.pointer (some ⟨r, 0, none⟩), .int .i64 (countR l ((ra4 l).code.length : Int) (ra4 l).rs).1, .func (.func 66) #[] #[.pointer (some ⟨p, 0, none⟩), .pointer (some ⟨g, 0, none⟩)]] rfl rfl (by first | rfl | (go_simp; done) | (go_simp; rfl)) ?_
      have hrg := countR_range l ((ra4 l).code.length : Int) (ra4 l).rs HBY.out (by omega)
      have hcall := ev4.calls w w2 r p g q A c l (cntR l ((ra4 l).code.length : Int) (ra4 l)) H2.out HC.out HCC.out HL.out HBY.out (countR l ((ra4 l).code.length : Int) (ra4 l).rs).1.toNat (by have := HCL.out; show (ra4 l).rels.length + _ ≤ _; rw [ra4_rels]; show 0 + _ ≤ _; omega)
      rw [Int.toNat_of_nonneg hrg.1] at hcall
      refine hcall.mono ?_
      rintro e_ w3 ⟨rfl, h3⟩
      refine ⟨_, rfl, ?_⟩
      have H := Aside0.mk (show RdO w w3 r p g q A c l (ra5 l) from h3)
      have hpp : w3.cell? ⟨p, 0, none⟩ = some (.pointer (some ⟨r, 0, none⟩)) := (blk_cell H.out.ptr 0).trans rfl
      refine hK.out _ _ ?_
      clear hrg hcall h3 H2 hpp2 hcc2
      clear hK K
      refine norm_ (a' := ?_) ?_ ?_
      rotate_left
      ·
        show Act.put _ (some 76) _ = _
        simp only [Act.put, List.setIfInBounds_toArray, List.set_cons_zero, List.set_cons_succ, i64_w, i32_w]
        rfl
      refine done_ (by kernel_rfl) ?_
      generalize w3 = W3 at H hpp ⊢
      obtain ⟨v, hb, _⟩ := H.out.rd.blk
      have RA0 := Aside0.mk H.out.rd.at0
      have he1 := (blk_cell hb 1).trans rfl
      clear hb
      go_upto_region 17 with ((go_at_call 62; refine (num32.calls w _ r A c l (ra5 l).rs H.out.rd HC.out HCC.out HL.out HBY.out).mono ?_; rintro e_ w6 ⟨rfl, hr_, hg_⟩; have H6 := Aside0.mk (show RdO w w6 r p g q A c l (a6 l) from H.out.step hr_ hg_); have hpp6 : w6.cell? ⟨p, 0, none⟩ = some (.pointer (some ⟨r, 0, none⟩)) := (blk_cell H6.out.ptr 0).trans rfl; clear hr_ hg_ H hpp he1))
      obtain ⟨v6, hb, he⟩ := H6.out.rd.blk
      have hd0 := (blk_cell hb 0).trans rfl
      have hd1 : w6.cell? ⟨r, 1, none⟩ = some (.int .i64 (a6 l).rs.at_) := (blk_cell hb 1).trans rfl
      have hd2 := (blk_cell hb 2).trans rfl
      clear hb
      cases hs : (a6 l).rs.er with
      | some x =>
        rw [hs] at he
        obtain ⟨ee, rfl, hee, hxe⟩ := he
        have HRC := Aside0.mk (show readC l = (27, x) by unfold readC endS; rw [hs]; simp only []; rw [hs])
        have HXE := Aside0.mk hxe
        clear hs hee hxe
        go_upto_region 20 with (fail)
        have hbx := below_alloc (Below.refl w6.heap.size w6) (.cells #[.pointer none] 103)
        have H7 := Aside0.mk (H6.out.below hbx)
        have HT := Aside0.mk (MapKept.heap_alloc w6 (.cells #[.pointer none] 103)).1
        have HXE7 := Aside0.mk (blk_below HXE.out hbx)
        have HTW := Aside0.mk (show w.heap.size ≤ w6.heap.size from H6.out.rd.low.size)
        have hk0 : (w6.alloc (.cells #[.pointer none] 103)).cell? ⟨p, 0, none⟩ = some (.pointer (some ⟨r, 0, none⟩)) := (blk_cell H7.out.ptr 0).trans rfl
        have hk2 := (World.cell?_alloc_lt w6 (.cells #[.pointer none] 103) _ (World.block_lt_of_cell? _ _ hd2)).trans hd2
        have HG7 := Aside0.mk (pw_cell_below H7.out.rd.low HGL.out)
        clear hbx H6 hpp6 hd0 hd1 hd2 HXE
        generalize w6.alloc (.cells #[.pointer none] 103) = w7 at H7 HT HXE7 hk0 hk2 HG7 ⊢
        generalize w6.heap.size = t at HT HTW ⊢
        try clear hx_
        go_upto_region 21 with ((go_at_call 67; refine (as_calls ee t (.pointer none) _ HG7.out HT.out).mono ?_; rintro e_ w8 ⟨rfl, hg8, hb8⟩; have HB8 := Aside0.mk hb8; have HG8 := Aside0.mk hg8; clear hg8 hb8 hk0 hk2))
        have HE8 := Aside0.mk ((HG8.out.block ee (blk_lt HXE7.out) (fun z => ne_types HXE7.out HT.out (by decide) (Option.some.inj z))).trans HXE7.out)
        have HQ8 := Aside0.mk ((HG8.out.block q (blk_lt H7.out.res.1) (fun z => ne_types H7.out.res.1 HT.out (by decide) (Option.some.inj z))).trans H7.out.res.1)
        have HL8 := Aside0.mk (below_drew (below_grown H7.out.rd.low HTW.out HG8.out))
        have HQW := Aside0.mk (show w.heap.size ≤ q from QW.out)
        have hz1 : w8.drew.cell? ⟨t, 0, none⟩ = some (.pointer (some ⟨ee, 0, none⟩)) := (blk_cell HB8.out 0).trans rfl
        have hz2 : w8.drew.cell? ⟨ee, 0, none⟩ = some (.int .i64 x) := (blk_cell HE8.out 0).trans rfl
        have HQ9 := Aside0.mk (show w8.drew.heap[q]? = some (.cells zObj 27 (0, 0)) from HQ8.out)
        have HB8D := Aside0.mk (show w8.drew.heap[t]? = some (.cells #[.pointer (some ⟨ee, 0, none⟩)] 103 (0, 0)) from HB8.out)
        have HE8D := Aside0.mk (show w8.drew.heap[ee]? = some (.cells #[.int .i64 x] 107 (0, 0)) from HE8.out)
        have hu5 := Tryz.underlying107
        clear H7 HT HXE7 HG7 HG8 HE8 HQ8 HB8
        refine start_ (n := 8) (S := fun w' => w'.cell? ⟨t, 0, none⟩ = some (.pointer (some ⟨ee, 0, none⟩)) ∧ w'.cell? ⟨ee, 0, none⟩ = some (.int .i64 x) ∧ w'.heap[q]? = some (.cells zObj 27 (0, 0)) ∧ Below w.heap.size w w') (ds := []) #[false, false, false, false, false, false, false, false] (by kernel_rfl) rfl rfl ⟨hz1, hz2, HQ9.out, HL8.out⟩ (fun hHeld => ?_)
        refine pure_ (i := 0) (N := some 109) (v := ?_) (a' := ?_) #[true, false, false, false, false, false, false, false] rfl rfl (by kernel_rfl) (fun _ _ _ h => h) (Or.inl ⟨by rfl, ?_⟩) ?_ ?_
        rotate_left
        ·
          intro w'
          go_simp
          with_reducible rfl
        rotate_left
        ·
          simp only [Act.put, List.setIfInBounds_toArray, List.set_cons_zero, List.set_cons_succ, i64_w, i32_w]
          rfl
        refine take_ (i := 1) (N := some 110) (v := ?_) (a' := ?_) #[true, true, false, false, false, false, false, false] rfl rfl (by kernel_rfl) (fun _ _ _ h => h) (Or.inl ⟨by rfl, ?_⟩) hHeld ?_ ?_
        rotate_left
        ·
          rintro w' ⟨s0, s1, _, _⟩
          go_simp
          with_reducible rfl
        rotate_left
        ·
          simp only [Act.put, List.setIfInBounds_toArray, List.set_cons_zero, List.set_cons_succ, i64_w, i32_w]
          rfl
        refine pure_ (i := 2) (N := some 111) (v := ?_) (a' := ?_) #[true, true, true, false, false, false, false, false] rfl rfl (by kernel_rfl) (fun _ _ _ h => h) (Or.inl ⟨by rfl, ?_⟩) ?_ ?_
        rotate_left
        ·
          intro w'
          go_simp
          with_reducible rfl
        rotate_left
        ·
          simp only [Act.put, List.setIfInBounds_toArray, List.set_cons_zero, List.set_cons_succ, i64_w, i32_w]
          rfl
        refine pure_ (i := 3) (N := some 112) (v := ?_) (a' := ?_) #[true, true, true, true, false, false, false, false] rfl rfl (by kernel_rfl) (fun _ _ _ h => h) (Or.inl ⟨by rfl, ?_⟩) ?_ ?_
        rotate_left
        ·
          intro w'
          go_simp
          with_reducible rfl
        rotate_left
        ·
          simp only [Act.put, List.setIfInBounds_toArray, List.set_cons_zero, List.set_cons_succ, i64_w, i32_w]
          rfl
        refine take_ (i := 4) (N := some 113) (v := ?_) (a' := ?_) #[true, true, true, true, true, false, false, false] rfl rfl (by kernel_rfl) (fun _ _ _ h => h) (Or.inl ⟨by rfl, ?_⟩) hHeld ?_ ?_
        rotate_left
        ·
          rintro w' ⟨s0, s1, _, _⟩
          go_simp
          with_reducible rfl
        rotate_left
        ·
          simp only [Act.put, List.setIfInBounds_toArray, List.set_cons_zero, List.set_cons_succ, i64_w, i32_w]
          rfl
        refine one_ (i := 5) (N := none) #[true, true, true, true, true, true, false, false] rfl rfl (by kernel_rfl) (by decide) (fun K hK => ?_)
        refine step_store_whole (by rfl) rfl rfl q zObj zObj 27 rfl (by first | rfl | (go_simp; rfl)) HQ9.out (by kernel_rfl) rfl (by kernel_rfl) ?_
        intro w9 hp9
        have HL9 := Aside0.mk (hp9.below HL8.out HQW.out)
        have hq9 := hp9.blk
        refine hK.out _ _ ⟨(blk_cell ((hp9.far t (fun z => ne_types HB8D.out HQ9.out (by decide) z)).trans HB8D.out) 0).trans rfl, (blk_cell ((hp9.far ee (fun z => ne_types HE8D.out HQ9.out (by decide) z)).trans HE8D.out) 0).trans rfl, hq9, HL9.out⟩ (fun hHeld => ?_)
        clear hz1 hz2 HQ9 HL8 HB8D HE8D hK K
        refine pure_ (i := 6) (N := some 3) (v := ?_) (a' := ?_) #[true, true, true, true, true, true, true, false] rfl rfl (by kernel_rfl) (fun _ _ _ h => h) (Or.inl ⟨by rfl, ?_⟩) ?_ ?_
        rotate_left
        ·
          intro w'
          go_simp
          with_reducible rfl
        rotate_left
        ·
          simp only [Act.put, List.setIfInBounds_toArray, List.set_cons_zero, List.set_cons_succ, i64_w, i32_w]
          rfl
        refine pure_ (i := 7) (N := some 4) (v := ?_) (a' := ?_) #[true, true, true, true, true, true, true, true] rfl rfl (by kernel_rfl) (fun _ _ _ h => h) (Or.inl ⟨by rfl, ?_⟩) ?_ ?_
        rotate_left
        ·
          intro w'
          go_simp
          with_reducible rfl
        rotate_left
        ·
          simp only [Act.put, List.setIfInBounds_toArray, List.set_cons_zero, List.set_cons_succ, i64_w, i32_w]
          rfl
        refine done_ (by kernel_rfl) ?_
        go_wp2
        refine bodyPost_ret (results_cell_tmp2 rfl _ _ q 27 zObj (0, 0) _ rfl hq9 hu1 rfl (by kernel_rfl)) rfl ?_
        rw [HRC.out]
        exact ⟨zObj, rfl, HL9.out, fun h => absurd h (show ¬ (27 : Int) = 0 by decide), fun _ => rfl⟩
      | none =>
        rw [hs] at he
        obtain rfl : v6 = .nilIface := he
        by_cases hlt : (a6 l).rs.at_ < (l.length : Int)
        · have hltb : decide ((a6 l).rs.at_ < (l.length : Int)) = true := decide_eq_true hlt
          have HRC := Aside0.mk (show readC l = (27, (a6 l).rs.at_) by unfold readC endS; rw [hs]; simp only []; rw [if_pos hlt]; unfold failsR; rw [hs])
          have HFS := Aside0.mk (show failsR (a6 l).rs.at_ (a6 l).rs = ⟨(a6 l).rs.at_, some (a6 l).rs.at_⟩ by unfold failsR; rw [hs])
          clear hs hlt
          go_upto_region 18 with (fail)
          clear hltb
          have H6d := Aside0.mk (H6.out.below (below_drew (Below.refl _ _)))
          have hppd : w6.drew.cell? ⟨p, 0, none⟩ = some (.pointer (some ⟨r, 0, none⟩)) := hpp6
          have hd1d : w6.drew.cell? ⟨r, 1, none⟩ = some (.int .i64 (a6 l).rs.at_) := hd1
          clear H6 hpp6 hd0 hd1 hd2
          refine start_ (n := 6) (S := fun w' => w'.cell? ⟨p, 0, none⟩ = some (.pointer (some ⟨r, 0, none⟩)) ∧ w'.cell? ⟨r, 1, none⟩ = some (.int .i64 (a6 l).rs.at_)) (ds := [5]) #[false, false, false, false, false, false] (by kernel_rfl) rfl rfl ⟨hppd, hd1d⟩ (fun hHeld => ?_)
          generalize w6.drew = wd at H6d hppd hd1d hHeld ⊢
          refine take_ (i := 0) (N := some 97) (v := ?_) (a' := ?_) #[true, false, false, false, false, false] rfl rfl (by kernel_rfl) (fun _ _ _ h => h) (Or.inl ⟨by rfl, ?_⟩) hHeld ?_ ?_
          rotate_left
          ·
            rintro w' ⟨s0, s1⟩
            go_simp
            with_reducible rfl
          rotate_left
          ·
            simp only [Act.put, List.setIfInBounds_toArray, List.set_cons_zero, List.set_cons_succ, i64_w, i32_w]
            rfl
          refine take_ (i := 1) (N := some 98) (v := ?_) (a' := ?_) #[true, true, false, false, false, false] rfl rfl (by kernel_rfl) (fun _ _ _ h => h) (Or.inl ⟨by rfl, ?_⟩) hHeld ?_ ?_
          rotate_left
          ·
            rintro w' ⟨s0, s1⟩
            go_simp
            with_reducible rfl
          rotate_left
          ·
            simp only [Act.put, List.setIfInBounds_toArray, List.set_cons_zero, List.set_cons_succ, i64_w, i32_w]
            rfl
          refine pure_ (i := 2) (N := some 99) (v := ?_) (a' := ?_) #[true, true, true, false, false, false] rfl rfl (by kernel_rfl) (fun _ _ _ h => h) (Or.inl ⟨by rfl, ?_⟩) ?_ ?_
          rotate_left
          ·
            intro w'
            go_simp
            with_reducible rfl
          rotate_left
          ·
            simp only [Act.put, List.setIfInBounds_toArray, List.set_cons_zero, List.set_cons_succ, i64_w, i32_w]
            rfl
          refine pure_ (i := 3) (N := some 100) (v := ?_) (a' := ?_) #[true, true, true, true, false, false] rfl rfl (by kernel_rfl) (fun _ _ _ h => h) (Or.inl ⟨by rfl, ?_⟩) ?_ ?_
          rotate_left
          ·
            intro w'
            go_simp
            with_reducible rfl
          rotate_left
          ·
            simp only [Act.put, List.setIfInBounds_toArray, List.set_cons_zero, List.set_cons_succ, i64_w, i32_w]
            rfl
          refine take_ (i := 4) (N := some 101) (v := ?_) (a' := ?_) #[true, true, true, true, true, false] rfl rfl (by kernel_rfl) (fun _ _ _ h => h) (Or.inl ⟨by rfl, ?_⟩) hHeld ?_ ?_
          rotate_left
          ·
            rintro w' ⟨s0, s1⟩
            go_simp
            with_reducible rfl
          rotate_left
          ·
            simp only [Act.put, List.setIfInBounds_toArray, List.set_cons_zero, List.set_cons_succ, i64_w, i32_w]
            rfl
          refine last_ (i := 5) (N := some 102) #[true, true, true, true, true, true] rfl rfl (by kernel_rfl) (by decide) (fun K hK => ?_)
          refine call_ 57 #[.pointer (some ⟨r, 0, none⟩), .int .i64 (a6 l).rs.at_] rfl rfl (by first | rfl | (go_simp; done) | (go_simp; rfl)) ?_
          refine (fails.calls w _ r A c l (a6 l).rs H6d.out.rd (a6 l).rs.at_).mono ?_
          rw [HFS.out]
          rintro e_ w8 ⟨rfl, hr_, hg_⟩
          refine ⟨_, rfl, ?_⟩
          have H6 := Aside0.mk (H6d.out.step hr_ hg_)
          have hpp6 : w8.cell? ⟨p, 0, none⟩ = some (.pointer (some ⟨r, 0, none⟩)) := (blk_cell H6.out.ptr 0).trans rfl
          obtain ⟨v8, hb, he⟩ := hr_.blk
          obtain ⟨ee, rfl, hee, hxe⟩ := he
          have hd0 := (blk_cell hb 0).trans rfl
          have hd1 := (blk_cell hb 1).trans rfl
          have hd2 := (blk_cell hb 2).trans rfl
          have HXE := Aside0.mk hxe
          refine hK.out _ _ ?_
          clear hr_ hg_ hb hee hxe H6d hppd hd1d
          clear hK K
          refine norm_ (a' := ?_) ?_ ?_
          rotate_left
          ·
            show Act.put _ (some 102) _ = _
            simp only [Act.put, List.setIfInBounds_toArray, List.set_cons_zero, List.set_cons_succ, i64_w, i32_w]
            rfl
          refine done_ (by kernel_rfl) ?_
          generalize hx_ : (a6 l).rs.at_ = x at HXE HRC ⊢
          generalize w8 = w6 at H6 hpp6 hd0 hd1 hd2 HXE ⊢
          go_upto_region 20 with (fail)
          have hbx := below_alloc (Below.refl w6.heap.size w6) (.cells #[.pointer none] 103)
          have H7 := Aside0.mk (H6.out.below hbx)
          have HT := Aside0.mk (MapKept.heap_alloc w6 (.cells #[.pointer none] 103)).1
          have HXE7 := Aside0.mk (blk_below HXE.out hbx)
          have HTW := Aside0.mk (show w.heap.size ≤ w6.heap.size from H6.out.rd.low.size)
          have hk0 : (w6.alloc (.cells #[.pointer none] 103)).cell? ⟨p, 0, none⟩ = some (.pointer (some ⟨r, 0, none⟩)) := (blk_cell H7.out.ptr 0).trans rfl
          have hk2 := (World.cell?_alloc_lt w6 (.cells #[.pointer none] 103) _ (World.block_lt_of_cell? _ _ hd2)).trans hd2
          have HG7 := Aside0.mk (pw_cell_below H7.out.rd.low HGL.out)
          clear hbx H6 hpp6 hd0 hd1 hd2 HXE
          generalize w6.alloc (.cells #[.pointer none] 103) = w7 at H7 HT HXE7 hk0 hk2 HG7 ⊢
          generalize w6.heap.size = t at HT HTW ⊢
          try clear hx_
          go_upto_region 21 with ((go_at_call 67; refine (as_calls ee t (.pointer none) _ HG7.out HT.out).mono ?_; rintro e_ w8 ⟨rfl, hg8, hb8⟩; have HB8 := Aside0.mk hb8; have HG8 := Aside0.mk hg8; clear hg8 hb8 hk0 hk2))
          have HE8 := Aside0.mk ((HG8.out.block ee (blk_lt HXE7.out) (fun z => ne_types HXE7.out HT.out (by decide) (Option.some.inj z))).trans HXE7.out)
          have HQ8 := Aside0.mk ((HG8.out.block q (blk_lt H7.out.res.1) (fun z => ne_types H7.out.res.1 HT.out (by decide) (Option.some.inj z))).trans H7.out.res.1)
          have HL8 := Aside0.mk (below_drew (below_grown H7.out.rd.low HTW.out HG8.out))
          have HQW := Aside0.mk (show w.heap.size ≤ q from QW.out)
          have hz1 : w8.drew.cell? ⟨t, 0, none⟩ = some (.pointer (some ⟨ee, 0, none⟩)) := (blk_cell HB8.out 0).trans rfl
          have hz2 : w8.drew.cell? ⟨ee, 0, none⟩ = some (.int .i64 x) := (blk_cell HE8.out 0).trans rfl
          have HQ9 := Aside0.mk (show w8.drew.heap[q]? = some (.cells zObj 27 (0, 0)) from HQ8.out)
          have HB8D := Aside0.mk (show w8.drew.heap[t]? = some (.cells #[.pointer (some ⟨ee, 0, none⟩)] 103 (0, 0)) from HB8.out)
          have HE8D := Aside0.mk (show w8.drew.heap[ee]? = some (.cells #[.int .i64 x] 107 (0, 0)) from HE8.out)
          have hu5 := Tryz.underlying107
          clear H7 HT HXE7 HG7 HG8 HE8 HQ8 HB8
          refine start_ (n := 8) (S := fun w' => w'.cell? ⟨t, 0, none⟩ = some (.pointer (some ⟨ee, 0, none⟩)) ∧ w'.cell? ⟨ee, 0, none⟩ = some (.int .i64 x) ∧ w'.heap[q]? = some (.cells zObj 27 (0, 0)) ∧ Below w.heap.size w w') (ds := []) #[false, false, false, false, false, false, false, false] (by kernel_rfl) rfl rfl ⟨hz1, hz2, HQ9.out, HL8.out⟩ (fun hHeld => ?_)
          refine pure_ (i := 0) (N := some 109) (v := ?_) (a' := ?_) #[true, false, false, false, false, false, false, false] rfl rfl (by kernel_rfl) (fun _ _ _ h => h) (Or.inl ⟨by rfl, ?_⟩) ?_ ?_
          rotate_left
          ·
            intro w'
            go_simp
            with_reducible rfl
          rotate_left
          ·
            simp only [Act.put, List.setIfInBounds_toArray, List.set_cons_zero, List.set_cons_succ, i64_w, i32_w]
            rfl
          refine take_ (i := 1) (N := some 110) (v := ?_) (a' := ?_) #[true, true, false, false, false, false, false, false] rfl rfl (by kernel_rfl) (fun _ _ _ h => h) (Or.inl ⟨by rfl, ?_⟩) hHeld ?_ ?_
          rotate_left
          ·
            rintro w' ⟨s0, s1, _, _⟩
            go_simp
            with_reducible rfl
          rotate_left
          ·
            simp only [Act.put, List.setIfInBounds_toArray, List.set_cons_zero, List.set_cons_succ, i64_w, i32_w]
            rfl
          refine pure_ (i := 2) (N := some 111) (v := ?_) (a' := ?_) #[true, true, true, false, false, false, false, false] rfl rfl (by kernel_rfl) (fun _ _ _ h => h) (Or.inl ⟨by rfl, ?_⟩) ?_ ?_
          rotate_left
          ·
            intro w'
            go_simp
            with_reducible rfl
          rotate_left
          ·
            simp only [Act.put, List.setIfInBounds_toArray, List.set_cons_zero, List.set_cons_succ, i64_w, i32_w]
            rfl
          refine pure_ (i := 3) (N := some 112) (v := ?_) (a' := ?_) #[true, true, true, true, false, false, false, false] rfl rfl (by kernel_rfl) (fun _ _ _ h => h) (Or.inl ⟨by rfl, ?_⟩) ?_ ?_
          rotate_left
          ·
            intro w'
            go_simp
            with_reducible rfl
          rotate_left
          ·
            simp only [Act.put, List.setIfInBounds_toArray, List.set_cons_zero, List.set_cons_succ, i64_w, i32_w]
            rfl
          refine take_ (i := 4) (N := some 113) (v := ?_) (a' := ?_) #[true, true, true, true, true, false, false, false] rfl rfl (by kernel_rfl) (fun _ _ _ h => h) (Or.inl ⟨by rfl, ?_⟩) hHeld ?_ ?_
          rotate_left
          ·
            rintro w' ⟨s0, s1, _, _⟩
            go_simp
            with_reducible rfl
          rotate_left
          ·
            simp only [Act.put, List.setIfInBounds_toArray, List.set_cons_zero, List.set_cons_succ, i64_w, i32_w]
            rfl
          refine one_ (i := 5) (N := none) #[true, true, true, true, true, true, false, false] rfl rfl (by kernel_rfl) (by decide) (fun K hK => ?_)
          refine step_store_whole (by rfl) rfl rfl q zObj zObj 27 rfl (by first | rfl | (go_simp; rfl)) HQ9.out (by kernel_rfl) rfl (by kernel_rfl) ?_
          intro w9 hp9
          have HL9 := Aside0.mk (hp9.below HL8.out HQW.out)
          have hq9 := hp9.blk
          refine hK.out _ _ ⟨(blk_cell ((hp9.far t (fun z => ne_types HB8D.out HQ9.out (by decide) z)).trans HB8D.out) 0).trans rfl, (blk_cell ((hp9.far ee (fun z => ne_types HE8D.out HQ9.out (by decide) z)).trans HE8D.out) 0).trans rfl, hq9, HL9.out⟩ (fun hHeld => ?_)
          clear hz1 hz2 HQ9 HL8 HB8D HE8D hK K
          refine pure_ (i := 6) (N := some 3) (v := ?_) (a' := ?_) #[true, true, true, true, true, true, true, false] rfl rfl (by kernel_rfl) (fun _ _ _ h => h) (Or.inl ⟨by rfl, ?_⟩) ?_ ?_
          rotate_left
          ·
            intro w'
            go_simp
            with_reducible rfl
          rotate_left
          ·
            simp only [Act.put, List.setIfInBounds_toArray, List.set_cons_zero, List.set_cons_succ, i64_w, i32_w]
            rfl
          refine pure_ (i := 7) (N := some 4) (v := ?_) (a' := ?_) #[true, true, true, true, true, true, true, true] rfl rfl (by kernel_rfl) (fun _ _ _ h => h) (Or.inl ⟨by rfl, ?_⟩) ?_ ?_
          rotate_left
          ·
            intro w'
            go_simp
            with_reducible rfl
          rotate_left
          ·
            simp only [Act.put, List.setIfInBounds_toArray, List.set_cons_zero, List.set_cons_succ, i64_w, i32_w]
            rfl
          refine done_ (by kernel_rfl) ?_
          go_wp2
          refine bodyPost_ret (results_cell_tmp2 rfl _ _ q 27 zObj (0, 0) _ rfl hq9 hu1 rfl (by kernel_rfl)) rfl ?_
          rw [HRC.out]
          exact ⟨zObj, rfl, HL9.out, fun h => absurd h (show ¬ (27 : Int) = 0 by decide), fun _ => rfl⟩
        · have hltb : decide ((a6 l).rs.at_ < (l.length : Int)) = false := decide_eq_false hlt
          have HRC := Aside0.mk (show readC l = if (numR l 4 (ra5 l).rs).1 = sumN (l.take (ra5 l).rs.at_.toNat) then chkR l else (28, (ra5 l).rs.at_) by unfold readC endS; rw [hs]; simp only []; rw [if_neg hlt, hs])
          have hnn := numR_none (l := l) (n := 4) (s := (ra5 l).rs) hs
          clear hs hlt
          go_upto_region 20 with (fail)
          clear hltb
          have hbx := below_alloc (Below.refl w6.heap.size w6) (.cells #[.pointer none] 103)
          have H7 := Aside0.mk (H6.out.below hbx)
          have hk0 : (w6.alloc (.cells #[.pointer none] 103)).cell? ⟨p, 0, none⟩ = some (.pointer (some ⟨r, 0, none⟩)) := (blk_cell H7.out.ptr 0).trans rfl
          have hk2 := (World.cell?_alloc_lt w6 (.cells #[.pointer none] 103) _ (World.block_lt_of_cell? _ _ hd2)).trans hd2
          clear hbx H6 hpp6 hd0 hd1 hd2
          generalize w6.alloc (.cells #[.pointer none] 103) = w7 at H7 hk0 hk2 ⊢
          generalize w6.heap.size = t
          obtain ⟨m, hm⟩ : ∃ m : Nat, (ra5 l).rs.at_ = (m : Int) := ⟨(ra5 l).rs.at_.toNat, by
            have h0 := H7.out.rd.at0
            have h1 : (a6 l).rs.at_ = (ra5 l).rs.at_ + 4 := hnn.2.2
            by_cases h2 : 0 ≤ (ra5 l).rs.at_
            · omega
            · exact absurd (RA0.out) h2⟩
          have hml : m ≤ l.length := by have := hnn.2.1; omega
          have htl : (l.take m).length = m := by rw [List.length_take]; omega
          have hsum := sum.calls A c (l.take m) w7 (Kd.C_take (Kd.C_below HC.out H7.out.rd.low) hml) (by rw [htl]; have := HL.out; omega)
          rw [htl] at hsum
          have HSUM := Aside0.mk hsum
          have HM := Aside0.mk hm
          have p0 : (0 : Int) ≤ (m : Int) := by omega
          have p1 : (m : Int) ≤ (c : Int) := by have := HCC.out; omega
          rw [hm] at HRC ⊢
          rw [Int.toNat_natCast] at HRC
          clear hnn hml htl hsum hm
          obtain ⟨sv, hsv⟩ : ∃ sv, sv = (numR l 4 (ra5 l).rs).1 := ⟨_, rfl⟩
          rw [← hsv] at HRC ⊢
          have HSV := Aside0.mk hsv
          clear hsv
          obtain ⟨sm, hsm⟩ : ∃ sm, sm = sumN (l.take m) := ⟨_, rfl⟩
          rw [← hsm] at HRC HSUM
          have HSM := Aside0.mk hsm
          clear hsm
          by_cases heq : sv = sm
          · have hbn : (sv != sm) = false := by rw [heq]; simp
            have HRC1 := Aside0.mk (show readC l = chkR l by rw [HRC.out, if_pos heq])
            clear heq HRC
            go_upto_region 24 with (first | (go_at_call 67; refine (as_nil _ _).mono ?_; rintro e_ w8 ⟨rfl, rfl⟩) | (go_at_call 29; refine HSUM.out.mono ?_; rintro e_ w8 ⟨rfl, hb_⟩; have H8 := Aside0.mk (H7.out.below hb_); clear hb_ H7 hk0 hk2))
            obtain ⟨v1, v3, v4, v5, ho_⟩ := H8.out.obj
            obtain ⟨A1, c1, e1⟩ := Kd.R_slice ho_.r1
            obtain ⟨A3, c3, e3⟩ := Kd.R_slice ho_.r3
            obtain ⟨A4, c4, e4⟩ := Kd.R_slice ho_.r4
            obtain ⟨A5, c5, e5⟩ := Kd.R_slice ho_.r5
            subst e1 e3 e4 e5
            have HO := Aside0.mk (show OB4 w8 w.heap.size g (ra5 l) (.slice A1 (ra5 l).code.length c1) (.slice A3 (ra5 l).data.length c3) (.slice A4 (ra5 l).syms.length c4) (.slice A5 (ra5 l).rels.length c5) from ⟨ho_.blk, ho_.r1, ho_.r3, ho_.r4, ho_.r5⟩)
            clear ho_
            obtain ⟨ce, cn, hce⟩ : ∃ ce cn, chkO (ra5 l).nm (ra5 l).code (ra5 l).dat (ra5 l).data (ra5 l).syms (ra5 l).rels = (ce, cn) := ⟨_, _, rfl⟩
            have HCK := Aside0.mk (show object_Check.f (ra5 l).nm (ra5 l).code (ra5 l).dat (ra5 l).data (ra5 l).syms (ra5 l).rels = some (ce, cn) by unfold object_Check.f; rw [if_pos (ra5_words l HBY.out), hce])
            have HRC3 := Aside0.mk (show readC l = if ce = 0 then (0, 0) else (ce, cn) by rw [HRC1.out]; unfold chkR; rw [hce])
            clear hce HRC1
            have hc0 := (blk_cell HO.out.blk 0).trans rfl
            have hc1 := (blk_cell HO.out.blk 1).trans rfl
            have hc2 := (blk_cell HO.out.blk 2).trans rfl
            have hc3 := (blk_cell HO.out.blk 3).trans rfl
            have hc4 := (blk_cell HO.out.blk 4).trans rfl
            have hc5 := (blk_cell HO.out.blk 5).trans rfl
            by_cases hz : ce = 0
            · subst hz
              have HRC2 := Aside0.mk (show readC l = (0, 0) by rw [HRC3.out, if_pos rfl])
              clear HRC3
              go_wp2_with (first | (go_at_call 25; refine (object_Check.calls _ _ _ _ _ _ _ _ _ _ _ _ _ _ 0 cn _ (Kd.R_reads' HO.out.r1).2.2 (Kd.R_reads' HO.out.r1).2.1 (Kd.R_reads' HO.out.r3).2.2 (Kd.R_reads' HO.out.r3).2.1 (Kd.R_reads' HO.out.r4).2.2 (Kd.R_reads' HO.out.r4).2.1 (Kd.R_reads' HO.out.r5).2.2 (Kd.R_reads' HO.out.r5).2.1 HCK.out).mono ?_; rintro e_ w9 ⟨rfl, hb_⟩; have H9 := Aside0.mk (H8.out.below hb_); have HO9 := Aside0.mk (HO.out.below hb_); clear H8 HO hb_ hc0 hc1 hc2 hc3 hc4 hc5; have hc0 := (blk_cell HO9.out.blk 0).trans rfl; have hc1 := (blk_cell HO9.out.blk 1).trans rfl; have hc2 := (blk_cell HO9.out.blk 2).trans rfl; have hc3 := (blk_cell HO9.out.blk 3).trans rfl; have hc4 := (blk_cell HO9.out.blk 4).trans rfl; have hc5 := (blk_cell HO9.out.blk 5).trans rfl) | ((with_reducible refine gate_store (t := 27) rfl ?_); refine wpList_store_whole rfl rfl rfl q _ #[.string (ra5 l).nm, .slice A1 (ra5 l).code.length c1, .int .i64 (ra5 l).dat, .slice A3 (ra5 l).data.length c3, .slice A4 (ra5 l).syms.length c4, .slice A5 (ra5 l).rels.length c5] _ rfl rfl H9.out.res.1 (by kernel_rfl) rfl (obj_oneR _ _ _ _ _ _ _ _ _ _ _ _ _ _) ?_; intro w10 hp9; have HL9 := Aside0.mk (hp9.below H9.out.rd.low QW.out); have hq9 := hp9.blk; have HR9 := Aside0.mk (And.intro (Kd.R_grown1 HO9.out.r1 rfl (put_grownN hp9) (Kd.R_ne HO9.out.r1 H9.out.res.1 (by decide))) (And.intro (Kd.R_grown1 HO9.out.r3 rfl (put_grownN hp9) (Kd.R_ne HO9.out.r3 H9.out.res.1 (by decide))) (And.intro (Kd.R_grown1 HO9.out.r4 rfl (put_grownN hp9) (Kd.R_ne HO9.out.r4 H9.out.res.1 (by decide))) (Kd.R_grown1 HO9.out.r5 rfl (put_grownN hp9) (Kd.R_ne HO9.out.r5 H9.out.res.1 (by decide)))))); clear hp9 hc0 hc1 hc2 hc3 hc4 hc5))
              try go_wp2
              refine bodyPost_ret (results_cell_tmp2 rfl _ _ q 27 #[.string (ra5 l).nm, .slice A1 (ra5 l).code.length c1, .int .i64 (ra5 l).dat, .slice A3 (ra5 l).data.length c3, .slice A4 (ra5 l).syms.length c4, .slice A5 (ra5 l).rels.length c5] (0, 0) _ rfl hq9 hu1 rfl (by kernel_rfl)) rfl ?_
              rw [HRC2.out]
              exact ⟨_, rfl, HL9.out, fun _ => ⟨_, _, _, _, rfl, HR9.out.1, HR9.out.2.1, HR9.out.2.2.1, HR9.out.2.2.2⟩, fun h => absurd rfl h⟩
            · have HRC2 := Aside0.mk (show readC l = (ce, cn) by rw [HRC3.out, if_neg hz])
              have hbz : (ce != 0) = true := bne_iff_ne.mpr hz
              have HZ := Aside0.mk hz
              clear hz HRC3
              go_wp2_with (first | (go_at_call 25; refine (object_Check.calls _ _ _ _ _ _ _ _ _ _ _ _ _ _ ce cn _ (Kd.R_reads' HO.out.r1).2.2 (Kd.R_reads' HO.out.r1).2.1 (Kd.R_reads' HO.out.r3).2.2 (Kd.R_reads' HO.out.r3).2.1 (Kd.R_reads' HO.out.r4).2.2 (Kd.R_reads' HO.out.r4).2.1 (Kd.R_reads' HO.out.r5).2.2 (Kd.R_reads' HO.out.r5).2.1 HCK.out).mono ?_; rintro e_ w9 ⟨rfl, hb_⟩; have H9 := Aside0.mk (H8.out.below hb_); have HO9 := Aside0.mk (HO.out.below hb_); clear H8 HO hb_ hc0 hc1 hc2 hc3 hc4 hc5; have hc0 := (blk_cell HO9.out.blk 0).trans rfl; have hc1 := (blk_cell HO9.out.blk 1).trans rfl; have hc2 := (blk_cell HO9.out.blk 2).trans rfl; have hc3 := (blk_cell HO9.out.blk 3).trans rfl; have hc4 := (blk_cell HO9.out.blk 4).trans rfl; have hc5 := (blk_cell HO9.out.blk 5).trans rfl) | ((with_reducible refine gate_store (t := 27) rfl ?_); refine wpList_store_whole rfl rfl rfl q _ zObj _ rfl rfl H9.out.res.1 (by kernel_rfl) rfl (by kernel_rfl) ?_; intro w10 hp9; have HL9 := Aside0.mk (hp9.below H9.out.rd.low QW.out); have hq9 := hp9.blk; clear hp9 hc0 hc1 hc2 hc3 hc4 hc5))
              try go_wp2
              refine bodyPost_ret (results_cell_tmp2 rfl _ _ q 27 zObj (0, 0) _ rfl hq9 hu1 rfl (by kernel_rfl)) rfl ?_
              rw [HRC2.out]
              exact ⟨zObj, rfl, HL9.out, fun h => absurd h HZ.out, fun _ => rfl⟩
          · have hbn : (sv != sm) = true := bne_iff_ne.mpr heq
            have HRC2 := Aside0.mk (show readC l = (28, (m : Int)) by rw [HRC.out, if_neg heq])
            clear heq HRC
            go_wp2_with (first | (go_at_call 67; refine (as_nil _ _).mono ?_; rintro e_ w8 ⟨rfl, rfl⟩) | (go_at_call 29; refine HSUM.out.mono ?_; rintro e_ w8 ⟨rfl, hb_⟩; have H8 := Aside0.mk (H7.out.below hb_); clear hb_ H7 hk0 hk2) | ((with_reducible refine gate_store (t := 27) rfl ?_); refine wpList_store_whole rfl rfl rfl q _ zObj _ rfl rfl H8.out.res.1 (by kernel_rfl) rfl (by kernel_rfl) ?_; intro w9 hp9; have HL9 := Aside0.mk (hp9.below H8.out.rd.low QW.out); have hq9 := hp9.blk; clear hp9))
            try go_wp2
            refine bodyPost_ret (results_cell_tmp2 rfl _ _ q 27 zObj (0, 0) _ rfl hq9 hu1 rfl (by kernel_rfl)) rfl ?_
            rw [HRC2.out]
            exact ⟨zObj, rfl, HL9.out, fun h => absurd h (show ¬ (28 : Int) = 0 by decide), fun _ => rfl⟩
end Go.Proofs.YtiaohbbafaaibabGreatDoor.P

/- OWN TEXT: the document's reader of an object, walked: rest. -/
namespace Go.Proofs.YtiaohbbafaaibabGreatDoor.P
open Go.RowKit Go.Maps Go.Proofs.YtiaohbbafaaibabGreatDoorW.PrintWords Go.Proofs.YtiaohbbafaaibabGreatDoorW.PrintLast Go.Proofs.YtiaohbbafaaibabGreatDoorW.PrintMore Go.Proofs.YtiaohbbafaaibabGreatDoor.Arr Go.Proofs.YtiaohbbafaaibabGreatDoor.MapB
set_option linter.unusedVariables false
set_option linter.unusedSimpArgs false
theorem grown_far {W0 W W1 : World} {r : Nat} {k : Option Nat} (h : W0.grownBy W (some r)) (g : W.grownBy W1 k) (hk : ∀ j, k = some j → W0.heap.size ≤ j) : W0.grownBy W1 (some r) :=
 ⟨g.os.trans h.os, g.tape.trans h.tape, g.output.trans h.output, Nat.le_trans h.size g.size, fun q hq hn => (g.block q (Nat.lt_of_lt_of_le hq h.size) (fun e => absurd (hk q e.symm) (Nat.not_le.2 hq))).trans (h.block q hq hn)⟩
theorem below_own {w0 W W1 : World} {o : Option Nat} (h : Below w0.heap.size w0 W) (k : W.grownBy W1 o) (ho : ∀ j, o = some j → w0.heap.size ≤ j) : Below w0.heap.size w0 W1 :=
 ⟨k.os.trans h.os, k.tape.trans h.tape, k.output.trans h.output, Nat.le_trans h.size k.size, fun q hq => (k.block q (Nat.lt_of_lt_of_le hq h.size) (fun e => absurd (ho q e.symm) (Nat.not_le.2 hq))).trans (h.block q hq)⟩
theorem Tk.move {w0 W W1 : World} {r : Nat} {A : Option Addr} {c : Nat} {l : List Int} {s : RS} (h : Tk w0 W r A c l s) (low : Below w0.heap.size w0 W1) (e : W1.heap[r]? = W.heap[r]?) : Tk w0 W1 r A c l s := ⟨low, e.trans h.blk, h.base, h.at0, h.at1, h.at2⟩
structure TkO (w0 W : World) (r g q b : Nat) (A : Option Addr) (c : Nat) (l : List Int) (a : RO) (v1 v3 v4 v5 : Value) : Prop where
  tk : Tk w0 W r A c l a.rs
  blk : W.heap[g]? = some (.cells #[.string a.nm, v1, .int .i64 a.dat, v3, v4, v5] 27 (0, 0))
  res : W.heap[q]? = some (.cells zObj 27 (0, 0)) ∧ q ≠ g
  gb : w0.heap.size ≤ g
  r1 : Kd.R (Kd.int .u32) 78 W w0.heap.size (fun _ => True) v1 a.code
  r3 : Kd.R (Kd.int .i64) 2 W w0.heap.size (fun _ => True) v3 a.data
  r4 : Kd.R k65 65 W b (fun _ => True) v4 a.syms
  r5 : Kd.R k82 82 W b (fun _ => True) v5 a.rels
section
variable {w0 W W1 : World} {r g q b : Nat} {A : Option Addr} {c : Nat} {l : List Int} {a : RO} {v1 v3 v4 v5 : Value}
theorem TkO.below (h : TkO w0 W r g q b A c l a v1 v3 v4 v5) (k : Below W.heap.size W W1) : TkO w0 W1 r g q b A c l a v1 v3 v4 v5 :=
 ⟨h.tk.below k, blk_below h.blk k, ⟨blk_below h.res.1 k, h.res.2⟩, h.gb, Kd.R_below h.r1 k, Kd.R_below h.r3 k, Kd.R_below h.r4 k, Kd.R_below h.r5 k⟩
theorem TkO.beside (h : TkO w0 W r g q b A c l a v1 v3 v4 v5) {k : Nat} {cs : Array Value} {e : TypeId} {s : RS} (hb : W.heap[k]? = some (.cells cs e (0, 0))) (he : 27 ≠ e ∧ 78 ≠ e ∧ 2 ≠ e) (h4 : some k ≠ v4.ownBlock) (h5 : some k ≠ v5.ownBlock) (ht : Tk w0 W1 r A c l s) (G : W.grownBy W1 (some k)) : TkO w0 W1 r g q b A c l { a with rs := s } v1 v3 v4 v5 :=
 ⟨ht, (G.block g (blk_lt h.blk) (fun z => ne_types h.blk hb he.1 (Option.some.inj z))).trans h.blk, ⟨(G.block q (blk_lt h.res.1) (fun z => ne_types h.res.1 hb he.1 (Option.some.inj z))).trans h.res.1, h.res.2⟩, h.gb, Kd.R_grown1 h.r1 rfl G (Kd.R_ne h.r1 hb he.2.1), Kd.R_grown1 h.r3 rfl G (Kd.R_ne h.r3 hb he.2.2), Kd.R_grown1 h.r4 rfl G h4, Kd.R_grown1 h.r5 rfl G h5⟩
theorem TkO.step (h : TkO w0 W r g q b A c l a v1 v3 v4 v5) {s : RS} (hr : Tk w0 W1 r A c l s) (k : W.grownBy W1 (some r)) : TkO w0 W1 r g q b A c l { a with rs := s } v1 v3 v4 v5 :=
 h.beside h.tk.blk (by decide) (Kd.R_ne h.r4 h.tk.blk (by decide)) (Kd.R_ne h.r5 h.tk.blk (by decide)) hr k
theorem TkO.tmp (h : TkO w0 W r g q b A c l a v1 v3 v4 v5) {k : Nat} {cs : Array Value} {e : TypeId} (hb : W.heap[k]? = some (.cells cs e (0, 0))) (he : 27 ≠ e ∧ 78 ≠ e ∧ 2 ≠ e ∧ 110 ≠ e) (h4 : some k ≠ v4.ownBlock) (h5 : some k ≠ v5.ownBlock) (hw : w0.heap.size ≤ k) (G : W.grownBy W1 (some k)) : TkO w0 W1 r g q b A c l a v1 v3 v4 v5 :=
 h.beside (s := a.rs) hb ⟨he.1, he.2.1, he.2.2.1⟩ h4 h5 (h.tk.move (below_grown h.tk.low hw G) (G.block r (blk_lt h.tk.blk) (fun z => ne_types h.tk.blk hb he.2.2.2 (Option.some.inj z)))) G
theorem TkO.dat (h : TkO w0 W r g q b A c l a v1 v3 v4 v5) (x : Int) : TkO w0 (W.setCell ⟨g, 2, none⟩ (.int .i64 x)) r g q b A c l { a with dat := x } v1 v3 v4 v5 := by
 have hp := put_set (j := 2) (x := .int .i64 x) h.blk
 have G := put_grownN hp
 exact ⟨h.tk.move (below_grown h.tk.low h.gb G) (G.block r (blk_lt h.tk.blk) (fun z => ne_types h.tk.blk h.blk (by decide) (Option.some.inj z))), hp.blk, ⟨(G.block q (blk_lt h.res.1) (fun z => h.res.2 (Option.some.inj z))).trans h.res.1, h.res.2⟩, h.gb, Kd.R_grown1 h.r1 rfl G (Kd.R_ne h.r1 h.blk (by decide)), Kd.R_grown1 h.r3 rfl G (Kd.R_ne h.r3 h.blk (by decide)), Kd.R_grown1 h.r4 rfl G (Kd.R_ne h.r4 h.blk (by decide)), Kd.R_grown1 h.r5 rfl G (Kd.R_ne h.r5 h.blk (by decide))⟩
theorem TkO.app1 (h : TkO w0 W r g q b A c l a v1 v3 v4 v5) {u : Value} {x : Int} (hu : Kd.R (Kd.int .u32) 78 W1 w0.heap.size (fun _ => True) u (a.code ++ [x])) (low : Below w0.heap.size w0 W1) (k : W.grownBy W1 v1.ownBlock) :
    W1.heap[g]? = some (.cells #[.string a.nm, v1, .int .i64 a.dat, v3, v4, v5] 27 (0, 0)) ∧ TkO w0 (W1.setCell ⟨g, 1, none⟩ u) r g q b A c l { a with code := a.code ++ [x] } u v3 v4 v5 := by
  have hb := (k.block g (blk_lt h.blk) (Kd.R_ne h.r1 h.blk (by decide))).trans h.blk
  have hp := put_set (j := 1) (x := u) hb
  have G := put_grownN hp
  have ht := h.tk.move low (k.block r (blk_lt h.tk.blk) (Kd.R_ne h.r1 h.tk.blk (by decide)))
  have hq := (k.block q (blk_lt h.res.1) (Kd.R_ne h.r1 h.res.1 (by decide))).trans h.res.1
  have t := Kd.R_typed h.r1
  have k3 := Kd.R_over' h.r3 t (by decide) k
  have k4 := Kd.R_over' h.r4 t (by decide) k
  have k5 := Kd.R_over' h.r5 t (by decide) k
  exact ⟨hb, ht.move (hp.below low h.gb) (G.block r (blk_lt ht.blk) (fun z => ne_types ht.blk hb (by decide) (Option.some.inj z))), hp.blk, ⟨(G.block q (blk_lt hq) (fun z => h.res.2 (Option.some.inj z))).trans hq, h.res.2⟩, h.gb, Kd.R_grown1 hu rfl G (Kd.R_ne hu hb (by decide)), Kd.R_grown1 k3 rfl G (Kd.R_ne k3 hb (by decide)), Kd.R_grown1 k4 rfl G (Kd.R_ne k4 hb (by decide)), Kd.R_grown1 k5 rfl G (Kd.R_ne k5 hb (by decide))⟩
theorem TkO.app3 (h : TkO w0 W r g q b A c l a v1 v3 v4 v5) {u : Value} {x : Int} (hu : Kd.R (Kd.int .i64) 2 W1 w0.heap.size (fun _ => True) u (a.data ++ [x])) (low : Below w0.heap.size w0 W1) (k : W.grownBy W1 v3.ownBlock) :
    W1.heap[g]? = some (.cells #[.string a.nm, v1, .int .i64 a.dat, v3, v4, v5] 27 (0, 0)) ∧ TkO w0 (W1.setCell ⟨g, 3, none⟩ u) r g q b A c l { a with data := a.data ++ [x] } v1 u v4 v5 := by
  have hb := (k.block g (blk_lt h.blk) (Kd.R_ne h.r3 h.blk (by decide))).trans h.blk
  have hp := put_set (j := 3) (x := u) hb
  have G := put_grownN hp
  have ht := h.tk.move low (k.block r (blk_lt h.tk.blk) (Kd.R_ne h.r3 h.tk.blk (by decide)))
  have hq := (k.block q (blk_lt h.res.1) (Kd.R_ne h.r3 h.res.1 (by decide))).trans h.res.1
  have t := Kd.R_typed h.r3
  have k1 := Kd.R_over' h.r1 t (by decide) k
  have k4 := Kd.R_over' h.r4 t (by decide) k
  have k5 := Kd.R_over' h.r5 t (by decide) k
  exact ⟨hb, ht.move (hp.below low h.gb) (G.block r (blk_lt ht.blk) (fun z => ne_types ht.blk hb (by decide) (Option.some.inj z))), hp.blk, ⟨(G.block q (blk_lt hq) (fun z => h.res.2 (Option.some.inj z))).trans hq, h.res.2⟩, h.gb, Kd.R_grown1 k1 rfl G (Kd.R_ne k1 hb (by decide)), Kd.R_grown1 hu rfl G (Kd.R_ne hu hb (by decide)), Kd.R_grown1 k4 rfl G (Kd.R_ne k4 hb (by decide)), Kd.R_grown1 k5 rfl G (Kd.R_ne k5 hb (by decide))⟩
theorem TkO.app4 (h : TkO w0 W r g q b A c l a v1 v3 v4 v5) {u : Value} {x : Sym} (hu : Kd.R k65 65 W1 b (fun _ => True) u (a.syms ++ [x])) (low : Below w0.heap.size w0 W1) (k : W.grownBy W1 v4.ownBlock) :
    W1.heap[g]? = some (.cells #[.string a.nm, v1, .int .i64 a.dat, v3, v4, v5] 27 (0, 0)) ∧ TkO w0 (W1.setCell ⟨g, 4, none⟩ u) r g q b A c l { a with syms := a.syms ++ [x] } v1 v3 u v5 := by
  have hb := (k.block g (blk_lt h.blk) (Kd.R_ne h.r4 h.blk (by decide))).trans h.blk
  have hp := put_set (j := 4) (x := u) hb
  have G := put_grownN hp
  have ht := h.tk.move low (k.block r (blk_lt h.tk.blk) (Kd.R_ne h.r4 h.tk.blk (by decide)))
  have hq := (k.block q (blk_lt h.res.1) (Kd.R_ne h.r4 h.res.1 (by decide))).trans h.res.1
  have t := Kd.R_typed h.r4
  have k1 := Kd.R_over' h.r1 t (by decide) k
  have k3 := Kd.R_over' h.r3 t (by decide) k
  have k5 := Kd.R_over' h.r5 t (by decide) k
  exact ⟨hb, ht.move (hp.below low h.gb) (G.block r (blk_lt ht.blk) (fun z => ne_types ht.blk hb (by decide) (Option.some.inj z))), hp.blk, ⟨(G.block q (blk_lt hq) (fun z => h.res.2 (Option.some.inj z))).trans hq, h.res.2⟩, h.gb, Kd.R_grown1 k1 rfl G (Kd.R_ne k1 hb (by decide)), Kd.R_grown1 k3 rfl G (Kd.R_ne k3 hb (by decide)), Kd.R_grown1 hu rfl G (Kd.R_ne hu hb (by decide)), Kd.R_grown1 k5 rfl G (Kd.R_ne k5 hb (by decide))⟩
theorem TkO.app5 (h : TkO w0 W r g q b A c l a v1 v3 v4 v5) {u : Value} {x : Rel} (hu : Kd.R k82 82 W1 b (fun _ => True) u (a.rels ++ [x])) (low : Below w0.heap.size w0 W1) (k : W.grownBy W1 v5.ownBlock) :
    W1.heap[g]? = some (.cells #[.string a.nm, v1, .int .i64 a.dat, v3, v4, v5] 27 (0, 0)) ∧ TkO w0 (W1.setCell ⟨g, 5, none⟩ u) r g q b A c l { a with rels := a.rels ++ [x] } v1 v3 v4 u := by
  have hb := (k.block g (blk_lt h.blk) (Kd.R_ne h.r5 h.blk (by decide))).trans h.blk
  have hp := put_set (j := 5) (x := u) hb
  have G := put_grownN hp
  have ht := h.tk.move low (k.block r (blk_lt h.tk.blk) (Kd.R_ne h.r5 h.tk.blk (by decide)))
  have hq := (k.block q (blk_lt h.res.1) (Kd.R_ne h.r5 h.res.1 (by decide))).trans h.res.1
  have t := Kd.R_typed h.r5
  have k1 := Kd.R_over' h.r1 t (by decide) k
  have k3 := Kd.R_over' h.r3 t (by decide) k
  have k4 := Kd.R_over' h.r4 t (by decide) k
  exact ⟨hb, ht.move (hp.below low h.gb) (G.block r (blk_lt ht.blk) (fun z => ne_types ht.blk hb (by decide) (Option.some.inj z))), hp.blk, ⟨(G.block q (blk_lt hq) (fun z => h.res.2 (Option.some.inj z))).trans hq, h.res.2⟩, h.gb, Kd.R_grown1 k1 rfl G (Kd.R_ne k1 hb (by decide)), Kd.R_grown1 k3 rfl G (Kd.R_ne k3 hb (by decide)), Kd.R_grown1 k4 rfl G (Kd.R_ne k4 hb (by decide)), Kd.R_grown1 hu rfl G (Kd.R_ne hu hb (by decide))⟩
end
set_option maxHeartbeats 60000000 in
set_option maxRecDepth 100000 in
theorem tRest.calls (w0 W : World) (r : Nat) (A : Option Addr) (c : Nat) (l : List Int) (A1 : Option Addr) (c1 : Nat) (A3 : Option Addr) (c3 : Nat) (h : Tk w0 W r A c l (ra3 l).rs) (h1 : Kd.R (Kd.int .u32) 78 W w0.heap.size (fun _ => True) (.slice A1 (ra3 l).code.length c1) (ra3 l).code) (h3 : Kd.R (Kd.int .i64) 2 W w0.heap.size (fun _ => True) (.slice A3 (ra3 l).data.length c3) (ra3 l).data) (h4 : (ra3 l).syms = []) (h5 : (ra3 l).rels = []) (hcl : (ra3 l).code.length ≤ 16384) (hC : Kd.C (Kd.int .u8) w0 A l.length l) (hl : l.length ≤ 1099511627776) (hby : ∀ x ∈ l, 0 ≤ x ∧ x < 256) (hcc : l.length ≤ c) :
    Calls Tryz.prog 73 #[.pointer (some ⟨r, 0, none⟩), .agg #[.string (ra3 l).nm, .slice A1 (ra3 l).code.length c1, .int .i64 (ra3 l).dat, .slice A3 (ra3 l).data.length c3, .slice none 0 0, .slice none 0 0]] W fun e w' => ∃ v4 v5, e = .returned (.agg #[.string (ra3 l).nm, .slice A1 (ra3 l).code.length c1, .int .i64 (ra3 l).dat, .slice A3 (ra3 l).data.length c3, v4, v5]) ∧ Tk w0 w' r A c l (ra5 l).rs ∧ Kd.R k65 65 w' w0.heap.size (fun _ => True) v4 (ra5 l).syms ∧ Kd.R k82 82 w' w0.heap.size (fun _ => True) v5 (ra5 l).rels ∧ W.grownBy w' (some r) := by
  have hu1 := Tryz.underlying27
  have hu2 := Tryz.underlying65
  have hu3 := Tryz.underlying82
  have hu4 := Tryz.underlying110
  have HT := Aside0.mk h
  have H13 := Aside0.mk (And.intro h1 h3)
  have HC := Aside0.mk hC
  have HL := Aside0.mk hl
  have HBY := Aside0.mk hby
  have HCC := Aside0.mk hcc
  have HCL := Aside0.mk hcl
  have HNL := Aside0.mk (And.intro h4 h5)
  have HB := Aside0.mk (Below.refl W.heap.size W)
  clear h h1 h3 h4 h5 hC hl hby hcc hcl
  go_enter Tryz.func73, Tryz.ntmps73
  go_upto_region 1 with (first | ((with_reducible refine gate_dst (N := 3) rfl ?_); refine box_event ?hg (N := 3) ?hd (cs := #[.string (ra3 l).nm, .slice A1 (ra3 l).code.length c1, .int .i64 (ra3 l).dat, .slice A3 (ra3 l).data.length c3, .slice none 0 0, .slice none 0 0]) (t := 27) ?hr ?_; (case hd => rfl); (case hg => rfl); (case hr => first | (go_simp; done) | (go_simp; rfl)); intro g hg_ w1 BG_ hb_; have BG := Aside0.mk BG_; have HG := Aside0.mk (gwQ hg_ HB.out); replace HB := Aside0.mk (bsQ hb_ HB.out); clear BG_ hg_ hb_) | ((with_reducible refine gate_dst (N := 4) rfl ?_); refine box_event ?hg (N := 4) ?hd (cs := zObj) (t := 27) ?hr ?_; (case hd => rfl); (case hg => rfl); (case hr => first | (go_simp; done) | (go_simp; rfl)); intro q hq_ w2 BQ_ hb_; have BQ := Aside0.mk BQ_; have HQ := Aside0.mk (show W.heap.size ≤ q by rw [hq_]; exact HB.out.size); have HQG := Aside0.mk (show q ≠ g by rw [hq_]; exact Nat.ne_of_gt (blk_lt BG.out)); replace BG := Aside0.mk (blk_below BG.out hb_); replace HB := Aside0.mk (bsQ hb_ HB.out); clear BQ_ hb_ hq_))
  obtain ⟨v1, hv1⟩ : ∃ v1, v1 = Value.slice A1 (ra3 l).code.length c1 := ⟨_, rfl⟩
  obtain ⟨v3, hv3⟩ : ∃ v3, v3 = Value.slice A3 (ra3 l).data.length c3 := ⟨_, rfl⟩
  have H := Aside0.mk (show TkO w0 w2 r g q W.heap.size A c l (ra3 l) v1 v3 (.slice none 0 0) (.slice none 0 0) from ⟨HT.out.below HB.out, by rw [hv1, hv3]; exact BG.out, ⟨BQ.out, HQG.out⟩, Nat.le_trans HT.out.low.size HG.out, by rw [hv1]; exact Kd.R_below H13.out.1 HB.out, by rw [hv3]; exact Kd.R_below H13.out.2 HB.out, by rw [HNL.out.1]; exact Kd.R_nil _ _ _ _ _, by rw [HNL.out.2]; exact Kd.R_nil _ _ _ _ _⟩)
  have GR := Aside0.mk (grown_below (k := some r) HB.out)
  have HV := Aside0.mk (And.intro hv1 hv3)
  have HWW := Aside0.mk (show w0.heap.size ≤ W.heap.size from HT.out.low.size)
  obtain ⟨n, hn⟩ : ∃ n : Nat, (n : Int) = (countR l 256 (ra3 l).rs).1 := ⟨(countR l 256 (ra3 l).rs).1.toNat, Int.toNat_of_nonneg (countR_range l 256 (ra3 l).rs HBY.out (by omega)).1⟩
  have HN := Aside0.mk hn
  have HN2 := Aside0.mk (show n ≤ 256 by have := (countR_range l 256 (ra3 l).rs HBY.out (by omega)).2; omega)
  clear HB BG BQ HQG HT H13 hv1 hv3 hn
  go_upto_block 0 with ((go_at_call 70; refine (tCount.calls w0 _ r A c l (ra3 l).rs H.out.tk HC.out HL.out HBY.out 256).mono ?_; rw [← HN.out]; rintro e_ w3 ⟨rfl, hr_, hg_⟩; have H3 := Aside0.mk (show TkO w0 w3 r g q W.heap.size A c l (cntR l 256 (ra3 l)) v1 v3 _ _ from H.out.step hr_ hg_); have GR3 := Aside0.mk (grown_trans GR.out hg_); clear hr_ hg_ H GR))
  have HE := Aside0.mk (show eachR (f3 l) RO.rs n (cntR l 256 (ra3 l)) = ra4 l by unfold ra4; rw [← HN.out, Int.toNat_natCast])
  have HL0 := Aside0.mk (show (cntR l 256 (ra3 l)).syms.length ≤ 0 by show (ra3 l).syms.length ≤ 0; rw [HNL.out.1]; exact Nat.le_refl _)
  go_cut [6, 7] from 12 to 39 (fun u6 u7 wx => ∃ v4 v5, Aside0 (TkO w0 wx r g q W.heap.size A c l (ra4 l) v1 v3 v4 v5 ∧ W.grownBy wx (some r)))
  case first =>
    go_wp2_with fail
    go_loopw [6] (fun u6 wr => ∃ (i m : Nat) (b : RO) (v4 v5 : Value), u6 = .int .i64 (i : Int) ∧ i + m = n ∧ b.syms.length ≤ i ∧ Aside0 (TkO w0 wr r g q W.heap.size A c l b v1 v3 v4 v5 ∧ W.grownBy wr (some r) ∧ eachR (f3 l) RO.rs m b = ra4 l)) (fun u6 _ => n - (intOf u6).toNat)
    case atStart => exact ⟨0, n, _, _, _, rfl, by omega, HL0.out, ⟨H3.out, GR3.out, HE.out⟩⟩
    case round =>
      clear H3 GR3 HE HL0
      obtain ⟨i, m, b, v4, v5, rfl, him, hbl, HH⟩ := hrel
      have H := Aside0.mk HH.out.1
      have GR := Aside0.mk HH.out.2.1
      have HE := Aside0.mk HH.out.2.2
      clear HH
      by_cases hlt : i < n
      · have hltb : decide ((i : Int) < (n : Int)) = true := decide_eq_true (by omega)
        have hltc : (i < n) = True := eq_true hlt
        have HI := Aside0.mk (And.intro hlt hbl)
        obtain ⟨m, rfl⟩ : ∃ m', m = m' + 1 := ⟨m - 1, by omega⟩
        have HM := Aside0.mk him
        cases hs : b.rs.er with
        | some x =>
          have hd2 := H.out.tk.c2 (b := 27) (by rw [hs]; rfl)
          have HB := Aside0.mk (show b = ra4 l by rw [← HE.out]; exact (eachR_stop (f3 l) RO.rs _ hs).symm)
          clear hs hlt him hbl
          go_wp2_with fail
          go_meet
          case rel => exact ⟨_, _, ⟨by rw [← HB.out]; exact H.out, GR.out⟩⟩
        | none =>
          have hd2 := H.out.tk.c2 (b := 0) (by rw [hs]; rfl)
          have HE1 := Aside0.mk (show eachR (f3 l) RO.rs m (f3 l b) = ra4 l by rw [← HE.out]; exact (eachR_go (f3 l) RO.rs m hs).symm)
          have hwr : wrap64 ((i : Int) + 1) = ((i + 1 : Nat) : Int) := by rw [wrap64_id (by omega) (by have := HN2.out; omega)]; rfl
          have HWR := Aside0.mk hwr
          clear hs hlt him hbl HE hwr
          go_upto_region 6 with ((go_at_call 69; refine (tName.calls w0 _ r A c l b.rs H.out.tk HC.out HL.out HBY.out HCC.out).mono ?_; rintro e_ w1 ⟨rfl, hr_, hg_⟩; have H1 := Aside0.mk (H.out.step hr_ hg_); have GR1 := Aside0.mk (grown_trans GR.out hg_); clear hr_ hg_ H GR hd2))
          have F4 := Aside0.mk (Kd.R_ne_new H1.out.r4 0)
          have F5 := Aside0.mk (Kd.R_ne_new H1.out.r5 0)
          have hbx := below_alloc (Below.refl w1.heap.size w1) (.cells #[.string (textR l b.rs).1, .int .i8 0, .int .i64 0] 65)
          have H := Aside0.mk (H1.out.below hbx)
          have GR := Aside0.mk (grown_trans GR1.out (grown_below hbx))
          have BS := Aside0.mk (MapKept.heap_alloc w1 (.cells #[.string (textR l b.rs).1, .int .i8 0, .int .i64 0] 65)).1
          have HK := Aside0.mk (show W.heap.size ≤ w1.heap.size from GR1.out.size)
          have HK0 := Aside0.mk (show w0.heap.size ≤ w1.heap.size from H1.out.tk.low.size)
          clear hbx H1 GR1
          generalize w1.alloc (.cells #[.string (textR l b.rs).1, .int .i8 0, .int .i64 0] 65) = wa at H GR BS ⊢
          generalize w1.heap.size = k at BS F4 F5 HK HK0 ⊢
          have HRG := Aside0.mk (countR_range l 3 (textR l b.rs).2 HBY.out (by decide))
          have hi8 : IntKind.i8.wrap (countR l 3 (textR l b.rs).2).1 = (countR l 3 (textR l b.rs).2).1 := i8_small HRG.out.1 HRG.out.2
          go_upto_region 7 with ((go_at_call 70; refine (tCount.calls w0 _ r A c l (textR l b.rs).2 H.out.tk HC.out HL.out HBY.out 3).mono ?_; rintro e_ w2 ⟨rfl, hr_, hg_⟩; have H1 := Aside0.mk (H.out.step hr_ hg_); have GR1 := Aside0.mk (grown_trans GR.out hg_); have BS1 := Aside0.mk ((hg_.block _ (blk_lt BS.out) (fun z => ne_types BS.out H.out.tk.blk (by decide) (Option.some.inj z))).trans BS.out); have hq0 := (blk_cell BS1.out 1).trans rfl; have hqf := blk_frozen BS1.out 1; clear hr_ hg_ H GR BS))
          clear hi8
          have hp_ := put_set (j := 1) (x := .int .i8 (countR l 3 (textR l b.rs).2).1) BS1.out
          have H := Aside0.mk (H1.out.tmp BS1.out (by decide) F4.out F5.out HK0.out (put_grownN hp_))
          have GR := Aside0.mk (grown_far GR1.out (put_grownN hp_) (fun j hj => by rw [← Option.some.inj hj]; exact HK.out))
          have BS := Aside0.mk hp_.blk
          clear hp_ hq0 hqf H1 GR1 BS1
          generalize w2.setCell ⟨k, 1, none⟩ (.int .i8 (countR l 3 (textR l b.rs).2).1) = wb at H GR BS ⊢
          go_upto_region 8 with ((go_at_call 70; refine (tCount.calls w0 _ r A c l (countR l 3 (textR l b.rs).2).2 H.out.tk HC.out HL.out HBY.out 2147483647).mono ?_; rintro e_ w3 ⟨rfl, hr_, hg_⟩; have H1 := Aside0.mk (H.out.step hr_ hg_); have GR1 := Aside0.mk (grown_trans GR.out hg_); have BS1 := Aside0.mk ((hg_.block _ (blk_lt BS.out) (fun z => ne_types BS.out H.out.tk.blk (by decide) (Option.some.inj z))).trans BS.out); have hq0 := (blk_cell BS1.out 2).trans rfl; have hqf := blk_frozen BS1.out 2; clear hr_ hg_ H GR BS))
          have hp_ := put_set (j := 2) (x := .int .i64 (countR l 2147483647 (countR l 3 (textR l b.rs).2).2).1) BS1.out
          have H := Aside0.mk (H1.out.tmp BS1.out (by decide) F4.out F5.out HK0.out (put_grownN hp_))
          have GR := Aside0.mk (grown_far GR1.out (put_grownN hp_) (fun j hj => by rw [← Option.some.inj hj]; exact HK.out))
          have BS := Aside0.mk hp_.blk
          clear hp_ hq0 hqf H1 GR1 BS1
          generalize w3.setCell ⟨k, 2, none⟩ (.int .i64 (countR l 2147483647 (countR l 3 (textR l b.rs).2).2).1) = wc at H GR BS ⊢
          have hs0 := (blk_cell BS.out 0).trans rfl
          have hs1 := (blk_cell BS.out 1).trans rfl
          have hs2 := (blk_cell BS.out 2).trans rfl
          have hg4 := (blk_cell H.out.blk 4).trans rfl
          have hlen : b.syms.length ≤ 256 := by have := HI.out; have := HN2.out; omega
          have HLEN := Aside0.mk hlen
          clear hlen
          go_wp2_with (first | ((with_reducible refine gate_builtin (b := .append) (xs := #[.tmp 35, .tmp 37]) rfl ?_); at_builtin; go_loud (refine Kd.R_append k65 (w0 := wc) (W := wc) W.heap.size rfl (.tmp 35) (.tmp 37) 24 65 (.agg #[.string ⟨#[]⟩, .int .i8 0, .int .i64 0]) 32 rfl Tryz.underlying24 info65 rfl (by decide) (by decide) v4 b.syms (⟨(textR l b.rs).1, (countR l 3 (textR l b.rs).2).1, (countR l 2147483647 (countR l 3 (textR l b.rs).2).2).1⟩ : Sym) [.string ((textR l b.rs).1), .int .i8 ((countR l 3 (textR l b.rs).2).1), .int .i64 ((countR l 2147483647 (countR l 3 (textR l b.rs).2).2).1)] (fun _ => True) (fun _ => False) rfl rfl (k65_mkM _ _ _ (⟨(textR l b.rs).1, (countR l 3 (textR l b.rs).2).1, (countR l 2147483647 (countR l 3 (textR l b.rs).2).2).1⟩ : Sym)) (fun _ hk => hk.elim) (fun _ _ => trivial) H.out.r4 (Below.refl _ _) GR.out.size (by have := HLEN.out; omega) ?_; intro u w7 hu2 hlow hgr _; obtain ⟨Ao, co, eo⟩ := Kd.R_slice hu2; obtain ⟨nn, hnn⟩ : ∃ nn, nn = (b.syms ++ [(⟨(textR l b.rs).1, (countR l 3 (textR l b.rs).2).1, (countR l 2147483647 (countR l 3 (textR l b.rs).2).2).1⟩ : Sym)]).length := ⟨_, rfl⟩; rw [← hnn] at eo; subst eo; have hx := TkO.app4 H.out hu2 (below_own H.out.tk.low hgr (fun j hj => Nat.le_trans HWW.out (Kd.R_base H.out.r4 j hj))) hgr; have HX := Aside0.mk hx.2; have GX := Aside0.mk (grown_far GR.out hgr (fun j hj => Kd.R_base H.out.r4 j hj)); have hz1 := (blk_cell hx.1 4).trans rfl; have hzf := blk_frozen hx.1 4; have HXB := Aside0.mk hx.1; have HGW := Aside0.mk HG.out; clear hx hlow hgr hu2 hnn hs0 hs1 hs2 hg4)))
          go_roundw
          case measure => have hq := HI.out; (try rw [HWR.out]); simp only [intOf]; omega
          case rel => exact ⟨i + 1, m, f3 l b, _, _, by first | rfl | rw [HWR.out], by have := HM.out; omega, by show (b.syms ++ [_]).length ≤ _; rw [List.length_append]; have := HI.out; simp only [List.length_cons, List.length_nil]; omega, ⟨HX.out, grown_far GX.out (put_grownN (put_set (j := 4) HXB.out)) (fun j hj => by rw [← Option.some.inj hj]; exact HG.out), HE1.out⟩⟩
      · have hltb : decide ((i : Int) < (n : Int)) = false := decide_eq_false (by omega)
        have hltc : (i < n) = False := eq_false hlt
        obtain rfl : m = 0 := by omega
        have HB := Aside0.mk (show b = ra4 l from HE.out)
        clear hlt him hbl
        go_wp2_with fail
        go_meet
        case rel => exact ⟨_, _, ⟨by rw [← HB.out]; exact H.out, GR.out⟩⟩
  case rest =>
    clear H3 GR3 HE HL0
    obtain ⟨v4, v5, HH⟩ := hcut
    have H := Aside0.mk HH.out.1
    have GR := Aside0.mk HH.out.2
    clear HH
    have hk1 := (blk_cell H.out.blk 1).trans (show _ = some (Value.slice A1 (ra3 l).code.length c1) by rw [← HV.out.1]; rfl)
    have HCE := Aside0.mk (show (ra4 l).code.length = (ra3 l).code.length by unfold ra4; rw [eachR_keep RO.code (f3 l) (fun _ => rfl)]; rfl)
    obtain ⟨n4, hn⟩ : ∃ n4 : Nat, (n4 : Int) = (countR l ((ra3 l).code.length : Int) (ra4 l).rs).1 := ⟨(countR l ((ra3 l).code.length : Int) (ra4 l).rs).1.toNat, Int.toNat_of_nonneg (countR_range l ((ra3 l).code.length : Int) (ra4 l).rs HBY.out (by omega)).1⟩
    have HN4n := Aside0.mk hn
    have HN4 := Aside0.mk (show n4 ≤ 16384 by have := (countR_range l ((ra3 l).code.length : Int) (ra4 l).rs HBY.out (by omega)).2; have := HCL.out; omega)
    clear hn
    go_upto_block 2 with ((go_at_call 70; refine (tCount.calls w0 _ r A c l (ra4 l).rs H.out.tk HC.out HL.out HBY.out ((ra3 l).code.length : Int)).mono ?_; rw [← HN4n.out]; rintro e_ w3 ⟨rfl, hr_, hg_⟩; have H3 := Aside0.mk (show TkO w0 w3 r g q W.heap.size A c l (cntR l ((ra3 l).code.length : Int) (ra4 l)) v1 v3 _ _ from H.out.step hr_ hg_); have GR3 := Aside0.mk (grown_trans GR.out hg_); clear hr_ hg_ H GR hk1))
    have HE := Aside0.mk (show eachR (f4 l) RO.rs n4 (cntR l ((ra3 l).code.length : Int) (ra4 l)) = ra5 l by unfold ra5; rw [HCE.out, ← HN4n.out, Int.toNat_natCast])
    have HL0 := Aside0.mk (show (cntR l ((ra3 l).code.length : Int) (ra4 l)).rels.length ≤ 0 by show (ra4 l).rels.length ≤ 0; rw [show (ra4 l).rels = (ra3 l).rels by unfold ra4; rw [eachR_keep RO.rels (f3 l) (fun _ => rfl)]; rfl, HNL.out.2]; exact Nat.le_refl _)
    go_cut [8, 9] from 45 to 68 (fun u8 u9 wx => ∃ v4 v5, Aside0 (TkO w0 wx r g q W.heap.size A c l (ra5 l) v1 v3 v4 v5 ∧ W.grownBy wx (some r)))
    case first =>
      go_wp2_with fail
      go_loopw [8] (fun u8 wr => ∃ (i m : Nat) (b : RO) (v4 v5 : Value), u8 = .int .i64 (i : Int) ∧ i + m = n4 ∧ b.rels.length ≤ i ∧ Aside0 (TkO w0 wr r g q W.heap.size A c l b v1 v3 v4 v5 ∧ W.grownBy wr (some r) ∧ eachR (f4 l) RO.rs m b = ra5 l)) (fun u8 _ => n4 - (intOf u8).toNat)
      case atStart => exact ⟨0, n4, _, _, _, rfl, by omega, HL0.out, ⟨H3.out, GR3.out, HE.out⟩⟩
      case round =>
        clear H3 GR3 HE HL0
        obtain ⟨i, m, b, v4, v5, rfl, him, hbl, HH⟩ := hrel
        have H := Aside0.mk HH.out.1
        have GR := Aside0.mk HH.out.2.1
        have HE := Aside0.mk HH.out.2.2
        clear HH
        by_cases hlt : i < n4
        · have hltb : decide ((i : Int) < (n4 : Int)) = true := decide_eq_true (by omega)
          have hltc : (i < n4) = True := eq_true hlt
          have HI := Aside0.mk (And.intro hlt hbl)
          obtain ⟨m, rfl⟩ : ∃ m', m = m' + 1 := ⟨m - 1, by omega⟩
          have HM := Aside0.mk him
          cases hs : b.rs.er with
          | some x =>
            have hd2 := H.out.tk.c2 (b := 27) (by rw [hs]; rfl)
            have HB := Aside0.mk (show b = ra5 l by rw [← HE.out]; exact (eachR_stop (f4 l) RO.rs _ hs).symm)
            clear hs hlt him hbl
            go_wp2_with fail
            go_meet
            case rel => exact ⟨_, _, ⟨by rw [← HB.out]; exact H.out, GR.out⟩⟩
          | none =>
            have hd2 := H.out.tk.c2 (b := 0) (by rw [hs]; rfl)
            have HE1 := Aside0.mk (show eachR (f4 l) RO.rs m (f4 l b) = ra5 l by rw [← HE.out]; exact (eachR_go (f4 l) RO.rs m hs).symm)
            have hwr : wrap64 ((i : Int) + 1) = ((i + 1 : Nat) : Int) := by rw [wrap64_id (by omega) (by have := HN4.out; omega)]; rfl
            have HWR := Aside0.mk hwr
            clear hs hlt him hbl HE hwr
            go_upto_region 14 with ((go_at_call 70; refine (tCount.calls w0 _ r A c l b.rs H.out.tk HC.out HL.out HBY.out 2147483647).mono ?_; rintro e_ w1 ⟨rfl, hr_, hg_⟩; have H1 := Aside0.mk (H.out.step hr_ hg_); have GR1 := Aside0.mk (grown_trans GR.out hg_); clear hr_ hg_ H GR hd2))
            have F4 := Aside0.mk (Kd.R_ne_new H1.out.r4 0)
            have F5 := Aside0.mk (Kd.R_ne_new H1.out.r5 0)
            have hbx := below_alloc (Below.refl w1.heap.size w1) (.cells #[.int .i64 (countR l 2147483647 b.rs).1, .int .i64 0] 82)
            have H := Aside0.mk (H1.out.below hbx)
            have GR := Aside0.mk (grown_trans GR1.out (grown_below hbx))
            have BS := Aside0.mk (MapKept.heap_alloc w1 (.cells #[.int .i64 (countR l 2147483647 b.rs).1, .int .i64 0] 82)).1
            have HK := Aside0.mk (show W.heap.size ≤ w1.heap.size from GR1.out.size)
            have HK0 := Aside0.mk (show w0.heap.size ≤ w1.heap.size from H1.out.tk.low.size)
            clear hbx H1 GR1
            generalize w1.alloc (.cells #[.int .i64 (countR l 2147483647 b.rs).1, .int .i64 0] 82) = wa at H GR BS ⊢
            generalize w1.heap.size = k at BS F4 F5 HK HK0 ⊢
            go_upto_region 15 with ((go_at_call 70; refine (tCount.calls w0 _ r A c l (countR l 2147483647 b.rs).2 H.out.tk HC.out HL.out HBY.out 2147483647).mono ?_; rintro e_ w2 ⟨rfl, hr_, hg_⟩; have H1 := Aside0.mk (H.out.step hr_ hg_); have GR1 := Aside0.mk (grown_trans GR.out hg_); have BS1 := Aside0.mk ((hg_.block _ (blk_lt BS.out) (fun z => ne_types BS.out H.out.tk.blk (by decide) (Option.some.inj z))).trans BS.out); have hq0 := (blk_cell BS1.out 1).trans rfl; have hqf := blk_frozen BS1.out 1; clear hr_ hg_ H GR BS))
            have hp_ := put_set (j := 1) (x := .int .i64 (countR l 2147483647 (countR l 2147483647 b.rs).2).1) BS1.out
            have H := Aside0.mk (H1.out.tmp BS1.out (by decide) F4.out F5.out HK0.out (put_grownN hp_))
            have GR := Aside0.mk (grown_far GR1.out (put_grownN hp_) (fun j hj => by rw [← Option.some.inj hj]; exact HK.out))
            have BS := Aside0.mk hp_.blk
            clear hp_ hq0 hqf H1 GR1 BS1
            generalize w2.setCell ⟨k, 1, none⟩ (.int .i64 (countR l 2147483647 (countR l 2147483647 b.rs).2).1) = wc at H GR BS ⊢
            have hs0 := (blk_cell BS.out 0).trans rfl
            have hs1 := (blk_cell BS.out 1).trans rfl
            have hg5 := (blk_cell H.out.blk 5).trans rfl
            have HLEN := Aside0.mk (show b.rels.length ≤ 16384 by have := HI.out; have := HN4.out; omega)
            go_wp2_with (first | ((with_reducible refine gate_builtin (b := .append) (xs := #[.tmp 64, .tmp 66]) rfl ?_); at_builtin; go_loud (refine Kd.R_append k82 (w0 := wc) (W := wc) W.heap.size rfl (.tmp 64) (.tmp 66) 25 82 (.agg #[.int .i64 0, .int .i64 0]) 16 rfl Tryz.underlying25 info82 rfl (by decide) (by decide) v5 b.rels (⟨(countR l 2147483647 b.rs).1, (countR l 2147483647 (countR l 2147483647 b.rs).2).1⟩ : Rel) [.int .i64 ((countR l 2147483647 b.rs).1), .int .i64 ((countR l 2147483647 (countR l 2147483647 b.rs).2).1)] (fun _ => True) (fun _ => False) rfl rfl (k82_mkM _ _ _ (⟨(countR l 2147483647 b.rs).1, (countR l 2147483647 (countR l 2147483647 b.rs).2).1⟩ : Rel)) (fun _ hk => hk.elim) (fun _ _ => trivial) H.out.r5 (Below.refl _ _) GR.out.size (by have := HLEN.out; omega) ?_; intro u w7 hu2 hlow hgr _; obtain ⟨Ao, co, eo⟩ := Kd.R_slice hu2; obtain ⟨nn, hnn⟩ : ∃ nn, nn = (b.rels ++ [(⟨(countR l 2147483647 b.rs).1, (countR l 2147483647 (countR l 2147483647 b.rs).2).1⟩ : Rel)]).length := ⟨_, rfl⟩; rw [← hnn] at eo; subst eo; have hx := TkO.app5 H.out hu2 (below_own H.out.tk.low hgr (fun j hj => Nat.le_trans HWW.out (Kd.R_base H.out.r5 j hj))) hgr; have HX := Aside0.mk hx.2; have GX := Aside0.mk (grown_far GR.out hgr (fun j hj => Kd.R_base H.out.r5 j hj)); have hz1 := (blk_cell hx.1 5).trans rfl; have hzf := blk_frozen hx.1 5; have HXB := Aside0.mk hx.1; clear hx hlow hgr hu2 hnn hs0 hs1 hg5)))
            go_roundw
            case measure => have hq := HI.out; (try rw [HWR.out]); simp only [intOf]; omega
            case rel => exact ⟨i + 1, m, f4 l b, _, _, by first | rfl | rw [HWR.out], by have := HM.out; omega, by show (b.rels ++ [_]).length ≤ _; rw [List.length_append]; have := HI.out; simp only [List.length_cons, List.length_nil]; omega, ⟨HX.out, grown_far GX.out (put_grownN (put_set (j := 5) HXB.out)) (fun j hj => by rw [← Option.some.inj hj]; exact HG.out), HE1.out⟩⟩
        · have hltb : decide ((i : Int) < (n4 : Int)) = false := decide_eq_false (by omega)
          have hltc : (i < n4) = False := eq_false hlt
          obtain rfl : m = 0 := by omega
          have HB := Aside0.mk (show b = ra5 l from HE.out)
          clear hlt him hbl
          go_wp2_with fail
          go_meet
          case rel => exact ⟨_, _, ⟨by rw [← HB.out]; exact H.out, GR.out⟩⟩
    case rest =>
      clear H3 GR3 HE HL0
      obtain ⟨v4, v5, HH⟩ := hcut
      obtain ⟨A4, c4, e4⟩ := Kd.R_slice HH.out.1.r4
      obtain ⟨A5, c5, e5⟩ := Kd.R_slice HH.out.1.r5
      obtain ⟨L4, hL4⟩ : ∃ L4, L4 = (ra5 l).syms.length := ⟨_, rfl⟩
      obtain ⟨L5, hL5⟩ : ∃ L5, L5 = (ra5 l).rels.length := ⟨_, rfl⟩
      rw [← hL4] at e4
      rw [← hL5] at e5
      subst e4 e5
      have HNM := Aside0.mk (show (ra5 l).nm = (ra3 l).nm ∧ (ra5 l).dat = (ra3 l).dat by unfold ra5; rw [eachR_keep RO.nm (f4 l) (fun _ => rfl), eachR_keep RO.dat (f4 l) (fun _ => rfl)]; show (ra4 l).nm = _ ∧ (ra4 l).dat = _; unfold ra4; rw [eachR_keep RO.nm (f3 l) (fun _ => rfl), eachR_keep RO.dat (f3 l) (fun _ => rfl)]; exact ⟨rfl, rfl⟩)
      have H := Aside0.mk HH.out.1
      have GR := Aside0.mk HH.out.2
      have HBK := Aside0.mk HH.out.1.blk
      clear HH hL4 hL5
      rw [HV.out.1, HV.out.2, HNM.out.1, HNM.out.2] at HBK
      have hc0 := (blk_cell HBK.out 0).trans rfl
      have hc1 := (blk_cell HBK.out 1).trans rfl
      have hc2 := (blk_cell HBK.out 2).trans rfl
      have hc3 := (blk_cell HBK.out 3).trans rfl
      have hc4 := (blk_cell HBK.out 4).trans rfl
      have hc5 := (blk_cell HBK.out 5).trans rfl
      go_wp2_with (first | ((with_reducible refine gate_store (t := 27) rfl ?_); refine wpList_store_whole rfl rfl rfl q _ #[.string (ra3 l).nm, .slice A1 (ra3 l).code.length c1, .int .i64 (ra3 l).dat, .slice A3 (ra3 l).data.length c3, .slice A4 L4 c4, .slice A5 L5 c5] _ rfl rfl H.out.res.1 (by kernel_rfl) rfl (obj_oneR _ _ _ _ _ _ _ _ _ _ _ _ _ _) ?_; intro w9 hp9; have HP := Aside0.mk hp9; have hq9 := hp9.blk; clear hp9 hc0 hc1 hc2 hc3 hc4 hc5))
      try go_wp2
      refine bodyPost_ret (results_cell_row rfl _ _ q 27 #[.string (ra3 l).nm, .slice A1 (ra3 l).code.length c1, .int .i64 (ra3 l).dat, .slice A3 (ra3 l).data.length c3, .slice A4 L4 c4, .slice A5 L5 c5] (0, 0) _ rfl hq9 hu1 rfl (by kernel_rfl)) rfl ?_
      have G := put_grownN HP.out
      exact ⟨_, _, rfl, H.out.tk.move (below_grown H.out.tk.low (Nat.le_trans HWW.out HQ.out) G) (G.block r (blk_lt H.out.tk.blk) (fun z => ne_types H.out.tk.blk H.out.res.1 (by decide) (Option.some.inj z))), Kd.R_lower (Kd.R_grown1 H.out.r4 rfl G (Kd.R_ne H.out.r4 H.out.res.1 (by decide))) HWW.out, Kd.R_lower (Kd.R_grown1 H.out.r5 rfl G (Kd.R_ne H.out.r5 H.out.res.1 (by decide))) HWW.out, grown_far GR.out G (fun j hj => by rw [← Option.some.inj hj]; exact HQ.out)⟩
end Go.Proofs.YtiaohbbafaaibabGreatDoor.P

/- OWN TEXT: plain laws of wire's numbers: what is read is what was written. -/
namespace Go.Proofs.YtiaohbbafaaibabGreatDoor.P
open Go.RowKit Go.Maps Go.Proofs.YtiaohbbafaaibabGreatDoorW.PrintWords Go.Proofs.YtiaohbbafaaibabGreatDoorW.PrintLast Go.Proofs.YtiaohbbafaaibabGreatDoorW.PrintMore Go.Proofs.YtiaohbbafaaibabGreatDoor.Arr Go.Proofs.YtiaohbbafaaibabGreatDoor.MapB
set_option linter.unusedVariables false
theorem pow256_pos (n : Nat) : (0 : Int) < 256 ^ n := Int.pow_pos (by decide)
theorem beN_mod (n : Nat) : ∀ a b : Int, beN (a * 256 ^ n + b) n = beN b n := by
 induction n with
 | zero => intro a b; rfl
 | succ n ih =>
  intro a b
  have e : a * 256 ^ (n + 1) + b = (a * 256) * 256 ^ n + b := by rw [Int.pow_succ, Int.mul_comm (256 ^ n) 256, ← Int.mul_assoc]
  show ((a * 256 ^ (n + 1) + b) / 256 ^ n) % 256 :: beN (a * 256 ^ (n + 1) + b) n = (b / 256 ^ n) % 256 :: beN b n
  rw [e, ih (a * 256) b, Int.add_comm, Int.add_mul_ediv_right _ _ (Int.ne_of_gt (pow256_pos n))]
  congr 1
  omega
theorem beV_from (l : List Int) : ∀ a : Int, l.foldl (fun a c => a * 256 + c) a = a * 256 ^ l.length + beV l := by
 induction l with
 | nil => intro a; show a = a * 1 + 0; omega
 | cons c l ih =>
  intro a
  have h1 := ih (a * 256 + c)
  have h2 := ih (0 * 256 + c)
  show l.foldl (fun a c => a * 256 + c) (a * 256 + c) = a * 256 ^ (l.length + 1) + l.foldl (fun a c => a * 256 + c) (0 * 256 + c)
  rw [h1, h2, Int.pow_succ, Int.add_mul, Int.mul_assoc, Int.mul_comm 256 (256 ^ l.length), Int.zero_mul, Int.zero_add, Int.add_assoc]
theorem beV_cons (c : Int) (l : List Int) : beV (c :: l) = c * 256 ^ l.length + beV l := by
 exact (show beV (c :: l) = (0 * 256 + c) * 256 ^ l.length + beV l from beV_from l (0 * 256 + c)).trans (by rw [Int.zero_mul, Int.zero_add])
theorem be_beV (l : List Int) (h : ∀ x ∈ l, 0 ≤ x ∧ x < 256) : beN (beV l) l.length = l := by
 induction l with
 | nil => rfl
 | cons c l ih =>
  have hc := h c (List.mem_cons_self ..)
  have hl := fun x hx => h x (List.mem_cons_of_mem _ hx)
  have hr := beV_range l hl
  rw [beV_cons]
  show ((c * 256 ^ l.length + beV l) / 256 ^ l.length) % 256 :: beN (c * 256 ^ l.length + beV l) l.length = c :: l
  rw [beN_mod, ih hl, Int.add_comm, Int.add_mul_ediv_right _ _ (Int.ne_of_gt (pow256_pos l.length)), Int.ediv_eq_zero_of_lt hr.1 hr.2]
  congr 1
  omega
theorem numR_ok {l : List Int} {n : Nat} {s : RS} (hby : ∀ x ∈ l, 0 ≤ x ∧ x < 256) (h0 : 0 ≤ s.at_) (h : (numR l n s).2.er = none) :
  s.er = none ∧ (numR l n s).2.at_ = s.at_ + n ∧ s.at_ + n ≤ (l.length : Int) ∧ l.take ((numR l n s).2.at_.toNat) = l.take s.at_.toNat ++ beN (numR l n s).1 n := by
 unfold numR at h ⊢
 cases hs : s.er with
 | some q => rw [hs] at h; simp only [] at h; rw [hs] at h; cases h
 | none =>
  rw [hs] at h
  simp only [] at h ⊢
  by_cases hlt : (l.length : Int) - s.at_ < n
  ·
   rw [if_pos hlt] at h; cases h
  ·
   rw [if_neg hlt]
   refine ⟨trivial, rfl, by omega, ?_⟩
   have hm : (l.take (s.at_.toNat + n)).drop s.at_.toNat = (l.drop s.at_.toNat).take n := by rw [List.drop_take]; congr 1; omega
   have hx : ((l.take (s.at_.toNat + n)).drop s.at_.toNat).length = n := by rw [List.length_drop, List.length_take]; omega
   have hb := be_beV ((l.take (s.at_.toNat + n)).drop s.at_.toNat) (fun x hx => hby x (List.mem_of_mem_take (List.mem_of_mem_drop hx)))
   rw [hx] at hb
   show l.take (s.at_ + n).toNat = l.take s.at_.toNat ++ beN (beV ((l.take (s.at_.toNat + n)).drop s.at_.toNat)) n
   rw [hb, hm, show (s.at_ + n).toNat = s.at_.toNat + n by omega, List.take_add]
theorem countR_ok {l : List Int} {lim : Int} {s : RS} (h : (countR l lim s).2.er = none) : (countR l lim s).2 = (numR l 4 s).2 ∧ (countR l lim s).1 = (numR l 4 s).1 ∧ (numR l 4 s).1 ≤ lim ∧ (numR l 4 s).2.er = none := by
 unfold countR at h ⊢
 by_cases hg : (numR l 4 s).1 > lim
 ·
  rw [if_pos hg] at h
  obtain ⟨q, hq⟩ := failsR_er s.at_ (numR l 4 s).2
  have h1 : (failsR s.at_ (numR l 4 s).2).er = none := h
  rw [hq] at h1
  cases h1
 ·
  rw [if_neg hg] at h ⊢
  cases he : (numR l 4 s).2.er with
  | none => exact ⟨rfl, rfl, by omega, rfl⟩
  | some q =>
   rw [he] at h
   have h1 : (numR l 4 s).2.er = none := h
   rw [he] at h1
   cases h1
theorem bytes_str (xs : List Int) (h : ∀ x ∈ xs, 0 ≤ x ∧ x < 256) : bytesOf (strOfNums xs) = xs := by
 unfold bytesOf
 rw [strOfNums_data, List.map_map]
 conv => rhs; rw [← List.map_id xs]
 apply List.map_congr_left
 intro x hx
 have := h x hx
 show ((UInt8.ofNat x.toNat).toNat : Int) = x
 rw [UInt8.toNat_ofNat']
 omega
theorem textR_ok {l : List Int} {s : RS} (hby : ∀ x ∈ l, 0 ≤ x ∧ x < 256) (h0 : 0 ≤ s.at_) (h : (textR l s).2.er = none) :
  s.er = none ∧ s.at_ ≤ (textR l s).2.at_ ∧ (textR l s).2.at_ ≤ (l.length : Int) ∧ (textR l s).1.size ≤ 24 ∧ l.take ((textR l s).2.at_.toNat) = l.take s.at_.toNat ++ beN ((textR l s).1.size : Int) 4 ++ bytesOf (textR l s).1 := by
 unfold textR at h ⊢
 cases hh : (hasR l.length (countR l 24 s).1 (countR l 24 s).2).er with
 | some q =>
  rw [hh] at h
  have h1 : (hasR l.length (countR l 24 s).1 (countR l 24 s).2).er = none := h
  rw [hh] at h1
  cases h1
 | none =>
  simp only []
  have hge : ¬ ((l.length : Int) - (countR l 24 s).2.at_ < (countR l 24 s).1) := fun hx => by
   unfold hasR at hh
   rw [if_pos hx] at hh
   obtain ⟨q, hq⟩ := failsR_er (l.length : Int) (countR l 24 s).2
   rw [hq] at hh
   cases hh
  have hce : (countR l 24 s).2.er = none := by
   unfold hasR at hh
   rw [if_neg hge] at hh
   exact hh
  obtain ⟨e1, e2, e3, e4⟩ := countR_ok hce
  have hn := numR_range l 4 s hby
  obtain ⟨k1, k2, k3, k4⟩ := numR_ok hby h0 e4
  rw [← e1] at k2 k4
  rw [← e2] at k4 e3 hn
  obtain ⟨n, hnn⟩ : ∃ n : Nat, (countR l 24 s).1 = (n : Int) := ⟨(countR l 24 s).1.toNat, by omega⟩
  obtain ⟨m, hm⟩ : ∃ m : Nat, (countR l 24 s).2.at_ = (m : Int) := ⟨(countR l 24 s).2.at_.toNat, by omega⟩
  rw [hnn, hm] at hge
  rw [hnn] at e3 k4
  rw [hm] at k2 k4
  have hx : ((l.take (m + n)).drop m).length = n := by rw [List.length_drop, List.length_take]; omega
  have hb := bytes_str ((l.take (m + n)).drop m) (fun x hx => hby x (List.mem_of_mem_take (List.mem_of_mem_drop hx)))
  have hsz : (strOfNums ((l.take (m + n)).drop m)).size = n := by rw [strOfNums_size, hx]
  rw [hnn, hm, Int.toNat_natCast, Int.toNat_natCast, hb, hsz]
  refine ⟨k1, by show s.at_ ≤ (m : Int) + n; omega, by show (m : Int) + n ≤ _; omega, by omega, ?_⟩
  show l.take ((m : Int) + (n : Int)).toNat = _
  rw [Int.toNat_natCast] at k4
  have hm2 : (l.take (m + n)).drop m = (l.drop m).take n := by rw [List.drop_take]; congr 1; omega
  rw [← k4, hm2, show ((m : Int) + (n : Int)).toNat = m + n by omega, List.take_add]
end Go.Proofs.YtiaohbbafaaibabGreatDoor.P

/- OWN TEXT: plain laws of the reader: what is read without a fault is what is written of it. -/
namespace Go.Proofs.YtiaohbbafaaibabGreatDoor.P
open Go.RowKit Go.Maps Go.Proofs.YtiaohbbafaaibabGreatDoorW.PrintWords Go.Proofs.YtiaohbbafaaibabGreatDoorW.PrintLast Go.Proofs.YtiaohbbafaaibabGreatDoorW.PrintMore Go.Proofs.YtiaohbbafaaibabGreatDoor.Arr Go.Proofs.YtiaohbbafaaibabGreatDoor.MapB
set_option linter.unusedVariables false
structure At (l : List Int) (s : RS) (pre : List Int) : Prop where
  at0 : 0 ≤ s.at_
  tk : s.er = none → s.at_ ≤ (l.length : Int) ∧ l.take s.at_.toNat = pre
theorem At.of {l : List Int} {s : RS} {pre k : List Int} (h : At l s pre) (e : s.er = none → pre = k) : At l s k := ⟨h.at0, fun he => ⟨(h.tk he).1, (h.tk he).2.trans (e he)⟩⟩
theorem numR_at0 {l : List Int} {n : Nat} {s : RS} (h : 0 ≤ s.at_) : 0 ≤ (numR l n s).2.at_ := by
 unfold numR
 cases s.er with
 | some q => exact h
 | none =>
  simp only []
  by_cases hlt : (l.length : Int) - s.at_ < n
  ·
   rw [if_pos hlt]; exact h
  ·
   rw [if_neg hlt]; show 0 ≤ s.at_ + (n : Int); omega
theorem At.num {l : List Int} {s : RS} {pre : List Int} (hby : ∀ x ∈ l, 0 ≤ x ∧ x < 256) (h : At l s pre) (n : Nat) : At l (numR l n s).2 (pre ++ beN (numR l n s).1 n) :=
  ⟨numR_at0 h.at0, fun he => by
    obtain ⟨k1, k2, k3, k4⟩ := numR_ok hby h.at0 he
    exact ⟨by rw [k2]; exact k3, by rw [k4, (h.tk k1).2]⟩⟩
theorem countR_at {l : List Int} {lim : Int} {s : RS} : (countR l lim s).2.at_ = (numR l 4 s).2.at_ := by
 unfold countR
 by_cases hg : (numR l 4 s).1 > lim
 ·
  rw [if_pos hg]; rfl
 ·
  rw [if_neg hg]
  cases (numR l 4 s).2.er with
  | none => rfl
  | some q => rfl
theorem At.count {l : List Int} {s : RS} {pre : List Int} (hby : ∀ x ∈ l, 0 ≤ x ∧ x < 256) (h : At l s pre) (lim : Int) : At l (countR l lim s).2 (pre ++ beN (countR l lim s).1 4) :=
  ⟨by rw [countR_at]; exact numR_at0 h.at0, fun he => by
    obtain ⟨e1, e2, e3, e4⟩ := countR_ok he
    rw [e1, e2]
    exact (h.num hby 4).tk e4⟩
theorem hasR_at (len n : Int) (s : RS) : (hasR len n s).at_ = s.at_ := by
 unfold hasR
 by_cases h : len - s.at_ < n
 ·
  rw [if_pos h]; rfl
 ·
  rw [if_neg h]
theorem At.text {l : List Int} {s : RS} {pre : List Int} (hby : ∀ x ∈ l, 0 ≤ x ∧ x < 256) (h : At l s pre) : At l (textR l s).2 (pre ++ beN ((textR l s).1.size : Int) 4 ++ bytesOf (textR l s).1) := by
 constructor
 ·
  cases he : (textR l s).2.er with
  | none => exact Int.le_trans h.at0 (textR_ok hby h.at0 he).2.1
  | some q =>
   unfold textR at he ⊢
   cases hh : (hasR l.length (countR l 24 s).1 (countR l 24 s).2).er with
   | some q => simp only []; rw [hasR_at, countR_at]; exact numR_at0 h.at0
   | none => rw [hh] at he; cases he
 ·
  intro he
  obtain ⟨k1, k2, k3, k4, k5⟩ := textR_ok hby h.at0 he
  exact ⟨k3, by rw [k5, (h.tk k1).2]⟩
end Go.Proofs.YtiaohbbafaaibabGreatDoor.P
