/- OWN TEXT and printed parts of this claim, laid together: HObjR, HObj, HRc. -/
import Derived.Test.YtiaohbbafaaibabGreatDoorZxM3
import Derived.Test.YtiaohbbafaaibabGreatDoorZxM0
import Derived.Test.YtiaohbbafaaibabGreatDoorZxM2
import Derived.Handy
import Derived.Test.YtiaohbbafaaibabGreatDoorZxM1
import Derived.Deep.RegionLawGrows
/- OWN TEXT: what object.relocs comes to (it marks places in an array, which the print does not take). -/
namespace Go.Proofs.YtiaohbbafaaibabGreatDoor.P
open Go.RowKit Go.Maps Go.Proofs.YtiaohbbafaaibabGreatDoorW.PrintWords Go.Proofs.YtiaohbbafaaibabGreatDoorW.PrintLast Go.Proofs.YtiaohbbafaaibabGreatDoorW.PrintMore Go.Proofs.YtiaohbbafaaibabGreatDoor.Arr Go.Proofs.YtiaohbbafaaibabGreatDoor.MapB
set_option linter.unusedVariables false
set_option linter.unusedSimpArgs false

def aggOf : Option Value → Array Value | some (.agg a) => a | _ => #[]
def isF : Value → Bool | .bool false => true | _ => false
def allF : List Value → Nat → Bool
 | [], 0 => true
 | [], _ + 1 => false
 | _ :: _, 0 => false
 | a :: l, n + 1 => isF a && allF l n
theorem allF_len : ∀ {l : List Value} {n : Nat}, allF l n = true → l.length = n ∧ ∀ k, k < n → l[k]? = some (.bool false)
  | [], 0, _ => ⟨rfl, fun k hk => by omega⟩
  | a :: l, n + 1, h => by
    unfold allF at h
    rw [Bool.and_eq_true] at h
    have IH := allF_len h.2
    refine ⟨by simp [IH.1], fun k hk => ?_⟩
    cases k with
    | zero =>
      have := h.1
      unfold isF at this
      split at this
      · rfl
      · cases this
    | succ k => simpa using IH.2 k (by omega)
theorem zMark_all : allF (aggOf Tryz.t174.zero).toList 16384 = true := by kernel_rfl
theorem run_mark (w : World) : (Instr.alloc 174 true (.tuple #[])).run Tryz.prog w = .ok (.pointer (some ⟨w.heap.size, 0, none⟩)) (w.alloc (.cells (aggOf Tryz.t174.zero) 174)) := by kernel_rfl
def Named (W : World) (g : Nat) (N : Nat → Bool) : Prop := ∃ Z : Array Value, W.heap[g]? = some (.cells Z 174 (0, 0)) ∧ Z.size = 16384 ∧ ∀ k, k < 16384 → Z[k]? = some (.bool (N k))
theorem mark_zero : ∃ Z : Array Value, allF Z.toList 16384 = true ∧ ∀ w : World, (Instr.alloc 174 true (.tuple #[])).run Tryz.prog w = .ok (.pointer (some ⟨w.heap.size, 0, none⟩)) (w.alloc (.cells Z 174)) := ⟨_, zMark_all, run_mark⟩
theorem exec_mark {Z : Array Value} (hrun : ∀ w : World, (Instr.alloc 174 true (.tuple #[])).run Tryz.prog w = .ok (.pointer (some ⟨w.heap.size, 0, none⟩)) (w.alloc (.cells Z 174))) {ev : Operand → Value} {o : Oper} (ho : o.op = .alloc 174) (W : World) :
  (execOp ev o).run Tryz.prog W = .ok (.value (.pointer (some ⟨W.heap.size, 0, none⟩))) (W.alloc (.cells Z 174)) := by
 unfold execOp
 rw [ho]
 simp only [Sem.run_bind, hrun, Result.andThen_ok, Sem.run_pure]
theorem Named.start {W : World} {g : Nat} {Z : Array Value} (hZ : allF Z.toList 16384 = true) (h : W.heap[g]? = some (.cells Z 174 (0, 0))) : Named W g (fun _ => false) := by
 obtain ⟨h1, h2⟩ := allF_len hZ
 exact ⟨_, h, by rw [← h1]; simp, fun k hk => by rw [← h2 k hk]; simp⟩
theorem Named.cell {W : World} {g : Nat} {N : Nat → Bool} (h : Named W g N) {k : Nat} (hk : k < 16384) : W.cell? ⟨g, k, none⟩ = some (.bool (N k)) := by
 obtain ⟨Z, h1, h2, h3⟩ := h
 rw [blk_cell h1 k, h3 k hk]
structure OR (w W : World) (gb : Nat) (oi : Obj) (gr gn : Nat) (N : Nat → Bool) : Prop where
  low : Below w.heap.size w W
  obj : W.heap[gb]? = some oi
  res : W.heap[gr]? = some (ansCell 0 0)
  nam : Named W gn N
  n1 : gb ≠ gn
  n2 : gr ≠ gn
  g1 : w.heap.size ≤ gr
  g2 : w.heap.size ≤ gn
theorem Named.grown {W W1 : World} {g : Nat} {N : Nat → Bool} {row : Option Nat} (h : Named W g N) (hg : W.grownBy W1 row) (hne : some g ≠ row) : Named W1 g N := by
 obtain ⟨Z, h1, h2, h3⟩ := h
 exact ⟨Z, blk_grown h1 hg hne, h2, h3⟩
theorem OR.below {w W W1 : World} {gb gr gn : Nat} {oi : Obj} {N : Nat → Bool} (h : OR w W gb oi gr gn N) (hb : Below W.heap.size W W1) : OR w W1 gb oi gr gn N :=
 ⟨below_then h.low h.low.size hb, blk_below h.obj hb, blk_below h.res hb, h.nam.grown (grown_of_below hb none) (by simp), h.n1, h.n2, h.g1, h.g2⟩
theorem OR.grown {w W W1 : World} {gb gr gn g : Nat} {oi : Obj} {N : Nat → Bool} (h : OR w W gb oi gr gn N) (hg : W.grownBy W1 (some g)) (hw : w.heap.size ≤ g) (h1 : gb ≠ g) (h2 : gr ≠ g) (h3 : gn ≠ g) : OR w W1 gb oi gr gn N :=
 ⟨pw_below_grown h.low (some g) h.low.size hg (fun k hk => by have := Option.some.inj hk; omega), blk_grown h.obj hg (fun e => h1 (Option.some.inj e)), blk_grown h.res hg (fun e => h2 (Option.some.inj e)), h.nam.grown hg (fun e => h3 (Option.some.inj e)), h.n1, h.n2, h.g1, h.g2⟩
theorem OR.mark {w W W1 : World} {gb gr gn : Nat} {oi : Obj} {N : Nat → Bool} (h : OR w W gb oi gr gn N) {Z : Array Value} {j : Nat} (hz : Z.size = 16384) (hN : ∀ k, k < 16384 → Z[k]? = some (.bool (N k))) (hj : j < 16384) (hp : Put W W1 gn (Z.setIfInBounds j (.bool true)) 174) : OR w W1 gb oi gr gn (fun k => decide (k = j) || N k) :=
  ⟨hp.below h.low h.g2, blk_grown h.obj (put_grownN hp) (fun e => h.n1 (Option.some.inj e)), blk_grown h.res (put_grownN hp) (fun e => h.n2 (Option.some.inj e)),
   ⟨_, hp.blk, by simp [hz], fun k hk => by
      by_cases e : k = j
      · subst e; simp [hz, hj]
      · rw [Array.getElem?_setIfInBounds_ne (by omega), hN k hk]; simp [e]⟩, h.n1, h.n2, h.g1, h.g2⟩
theorem rel_one (a b : Int) : ((#[.int .i64 a, .int .i64 b] : Array Value).all fun v => v.oneCell') = true := by kernel_rfl
theorem bool_one (W : World) : (sizeOf 4).run Tryz.prog W = .ok 1 W := by kernel_rfl
theorem relE_eq (code : List Int) (ns : Int) (l : List Rel) (i : Nat) : relE code ns l i = if (rl l i).f0 ≤ lastR l i then 24 else if (rl l i).f0 ≥ (code.length : Int) then 24 else if (rl l i).f1 < 0 then 24 else if (rl l i).f1 ≥ ns then 24 else if (tgtS (rd code (rl l i).f0)).2 = true then (if (tgtS (rd code (rl l i).f0)).1 = 0 then 0 else 24) else 24 := rfl
theorem scanE_eq (code : List Int) (named : Nat → Bool) (k : Nat) : scanE code named k = if (tgtS (rd code (k : Int))).2 = true then (if named k = true then 0 else if (tgtS (rd code (k : Int))).1 > (code.length : Int) then 22 else 0) else 0 := rfl
theorem firstS_at {g : Nat → Int} {n i : Nat} (hi : i < n) (hz : ∀ j, j < i → g j = 0) (hne : g i ≠ 0) : firstS g n n = (g i, (i : Int)) := by
  have : ∀ d j, j + d = i → firstS g n (n - j) = (g i, (i : Int)) := by
    intro d
    induction d with
    | zero => intro j hj; obtain rfl : j = i := by omega
              rw [firstS_step g hi, if_neg hne]
    | succ d ih => intro j hj; rw [firstS_step g (by omega), if_pos (hz j (by omega))]; exact ih (j + 1) (by omega)
  exact this i 0 (by omega)
theorem firstS_zero {g : Nat → Int} {n : Nat} (hz : ∀ j, j < n → g j = 0) : firstS g n n = (0, 0) := by
 have : ∀ d, d ≤ n → firstS g n d = (0, 0) := by
  intro d
  induction d with
  | zero => intro _; rfl
  | succ d ih => intro hd; unfold firstS; rw [if_pos (hz _ (by omega))]; exact ih (by omega)
 exact this n (Nat.le_refl _)
theorem scanS_at {g : Nat → Int} {n i : Nat} (hi : i < n) (hz : ∀ j, j < i → g j = 0) (hne : g i ≠ 0) : scanS g n n = (g i, -1 - (i : Int)) := by
  have : ∀ d j, j + d = i → scanS g n (n - j) = (g i, -1 - (i : Int)) := by
    intro d
    induction d with
    | zero => intro j hj; obtain rfl : j = i := by omega
              rw [scanS_step g hi, if_neg hne]
    | succ d ih => intro j hj; rw [scanS_step g (by omega), if_pos (hz j (by omega))]; exact ih (j + 1) (by omega)
  exact this i 0 (by omega)
theorem scanS_zero {g : Nat → Int} {n : Nat} (hz : ∀ j, j < n → g j = 0) : scanS g n n = (0, 0) := by
 have : ∀ d, d ≤ n → scanS g n d = (0, 0) := by
  intro d
  induction d with
  | zero => intro _; rfl
  | succ d ih => intro hd; unfold scanS; rw [if_pos (hz _ (by omega))]; exact ih (by omega)
 exact this n (Nat.le_refl _)
theorem relocs_first {code : List Int} {ns : Int} {l : List Rel} {i : Nat} (hz : ∀ j, j < i → relE code ns l j = 0) (hi : i < l.length) (hne : relE code ns l i ≠ 0) : relocsS code ns l = (relE code ns l i, (i : Int)) := by
 unfold relocsS
 rw [firstS_at hi hz hne, if_neg hne]
theorem relocs_scan {code : List Int} {ns : Int} {l : List Rel} (hz : ∀ j, j < l.length → relE code ns l j = 0) : relocsS code ns l = scanS (scanE code (markB l l.length)) code.length code.length := by
 unfold relocsS
 rw [firstS_zero hz, if_pos rfl]
theorem Named.cell' {W : World} {g : Nat} {N : Nat → Bool} (h : Named W g N) {k : Nat} (hk : k < 16384) {b : Bool} (e : N k = b) : W.cell? ⟨g, k, none⟩ = some (.bool b) := e ▸ h.cell hk
theorem lastR_lo (code : List Int) (ns : Int) (l : List Rel) : ∀ i, (∀ j, j < i → relE code ns l j = 0) → -1 ≤ lastR l i
  | 0, _ => Int.le_refl _
  | i + 1, h => by
    have h1 := h i (by omega)
    have IH := lastR_lo code ns l i (fun j hj => h j (by omega))
    show -1 ≤ (rl l i).f0
    rw [relE_eq] at h1
    split at h1
    · cases h1
    · omega

set_option maxHeartbeats 8000000 in
set_option maxRecDepth 100000 in
theorem object_relocs.calls (a0_0 : ByteArray) (A0_1 : Option Addr) (c0_1 : Nat) (l0_1 : List Int) (a0_2 : Int) (A0_3 : Option Addr) (c0_3 : Nat) (l0_3 : List Int) (A0_4 : Option Addr) (c0_4 : Nat) (l0_4 : List (S65)) (A0_5 : Option Addr) (c0_5 : Nat) (l0_5 : List (S82)) (r1 r2 : Int) (w : World) (hr0_1 : Kd.C (Kd.int .u32) w A0_1 l0_1.length l0_1) (hc0_1 : l0_1.length ≤ c0_1) (hr0_3 : Kd.C (Kd.int .i64) w A0_3 l0_3.length l0_3) (hc0_3 : l0_3.length ≤ c0_3) (hr0_4 : Kd.C k65 w A0_4 l0_4.length l0_4) (hc0_4 : l0_4.length ≤ c0_4) (hr0_5 : Kd.C k82 w A0_5 l0_5.length l0_5) (hc0_5 : l0_5.length ≤ c0_5) (hw : wordsO l0_1 = true) (hl : l0_1.length ≤ 16384) (hl5 : l0_5.length ≤ 1000000) (h : relocsS l0_1 (l0_4.length : Int) l0_5 = (r1, r2)) :
    Calls Tryz.prog 85 #[.agg #[.string a0_0, .slice A0_1 l0_1.length c0_1, .int .i64 a0_2, .slice A0_3 l0_3.length c0_3, .slice A0_4 l0_4.length c0_4, .slice A0_5 l0_5.length c0_5]] w fun e w' => e = .returned (.agg #[.int .i64 r1, .int .i64 r2]) ∧ Below w.heap.size w w' := by
  have hu1 := Tryz.underlying27
  have hu2 := Tryz.underlying121
  have hu3 := Tryz.underlying82
  have hu4 := Tryz.underlying174
  have HR := Aside0.mk hr0_5
  have HC := Aside0.mk hr0_1
  have HW := Aside0.mk hw
  clear hr0_1 hc0_1 hr0_3 hc0_3 hr0_4 hc0_4 hr0_5 hc0_5 hw
  have HH := Aside0.mk h
  obtain ⟨Z0, hZ0, hrz⟩ := mark_zero
  have HZ0 := Aside0.mk hZ0
  have HRZ := Aside0.mk hrz
  clear hZ0 hrz
  clear h
  go_enter Tryz.func85, Tryz.ntmps85
  go_wp2_with (first | ((with_reducible refine gate_dst (N := 1) rfl ?_); refine box_event ?hg (N := 1) ?hd (cs := #[.string a0_0, .slice A0_1 l0_1.length c0_1, .int .i64 a0_2, .slice A0_3 l0_3.length c0_3, .slice A0_4 l0_4.length c0_4, .slice A0_5 l0_5.length c0_5]) (t := 27) ?hr ?_; (case hd => rfl); (case hg => rfl); (case hr => first | (go_simp; done) | (go_simp; rfl)); intro gb hgb w1 BK1 hb1; have HB := Aside0.mk (below_then (Below.refl w.heap.size w) (Nat.le_refl _) hb1); have BO := Aside0.mk (show w1.heap[gb]? = some (objCell a0_0 A0_1 l0_1.length c0_1 a0_2 A0_3 l0_3.length c0_3 A0_4 l0_4.length c0_4 A0_5 l0_5.length c0_5) from BK1); clear BK1 hb1 hgb) | ((with_reducible refine gate_dst (N := 2) rfl ?_); refine box_event ?hg (N := 2) ?hd (cs := #[.int .i64 0, .int .i64 0]) (t := 121) ?hr ?_; (case hd => rfl); (case hg => rfl); (case hr => first | (go_simp; done) | (go_simp; rfl)); intro gr hgr w2 BK2 hb2; have G1 := Aside0.mk (show w.heap.size ≤ gr by rw [hgr]; exact HB.out.size); have L1 := Aside0.mk (show gb < gr by rw [hgr]; exact blk_lt BO.out); replace HB := Aside0.mk (below_then HB.out HB.out.size hb2); replace BO := Aside0.mk (blk_below BO.out hb2); have BR := Aside0.mk (show w2.heap[gr]? = some (ansCell 0 0) from BK2); clear BK2 hb2 hgr) | ((with_reducible refine gate_dst (N := 3) rfl ?_); refine box_event ?hg (N := 3) ?hd (cs := Z0) (t := 174) ?hr ?_; (case hd => rfl); (case hg => rfl); (case hr => exact exec_mark HRZ.out rfl _); intro gn hgn w3 BK3 hb3; have HO := Aside0.mk (show OR w w3 gb (objCell a0_0 A0_1 l0_1.length c0_1 a0_2 A0_3 l0_3.length c0_3 A0_4 l0_4.length c0_4 A0_5 l0_5.length c0_5) gr gn (fun _ => false) from ⟨below_then HB.out HB.out.size hb3, blk_below BO.out hb3, blk_below BR.out hb3, Named.start HZ0.out BK3, by rw [hgn]; exact Nat.ne_of_lt (blk_lt BO.out), by rw [hgn]; exact Nat.ne_of_lt (blk_lt BR.out), G1.out, by rw [hgn]; exact HB.out.size⟩); clear HB BO BR hb3 BK3 hgn; have hco1 := blk_cell HO.out.obj 1; have hco4 := blk_cell HO.out.obj 4; have hco5 := blk_cell HO.out.obj 5))
  go_loopw [4, 16] (fun u4 u16 wr => ∃ i : Nat, u16 = .int .i64 (i : Int) ∧ u4 = .int .i64 (lastR l0_5 i) ∧ i ≤ l0_5.length ∧ Aside0 (∀ j, j < i → relE l0_1 (l0_4.length : Int) l0_5 j = 0) ∧ Aside0 (OR w wr gb (objCell a0_0 A0_1 l0_1.length c0_1 a0_2 A0_3 l0_3.length c0_3 A0_4 l0_4.length c0_4 A0_5 l0_5.length c0_5) gr gn (markB l0_5 i))) (fun _ u16 _ => l0_5.length - (intOf u16).toNat)
  case atStart => exact ⟨0, rfl, rfl, Nat.zero_le _, ⟨fun j hj => absurd hj (Nat.not_lt_zero _)⟩, HO⟩
  case round =>
    clear HO hco1 hco4 hco5
    obtain ⟨i, rfl, rfl, hile, HZ, HO⟩ := hrel
    have hco1 := blk_cell HO.out.obj 1; have hco4 := blk_cell HO.out.obj 4; have hco5 := blk_cell HO.out.obj 5
    by_cases hlt : i < l0_5.length
    · have hse := relE_eq l0_1 (l0_4.length : Int) l0_5 i
      have HFirst := Aside0.mk (fun (hne : relE l0_1 (l0_4.length : Int) l0_5 i ≠ 0) => relocs_first (code := l0_1) (ns := (l0_4.length : Int)) HZ.out hlt hne)
      have hmk : markB l0_5 (i + 1) = fun k => decide (k = (rl l0_5 i).f0.toNat) || markB l0_5 i k := rfl
      have hla : lastR l0_5 (i + 1) = (rl l0_5 i).f0 := rfl
      have hlo := lastR_lo _ _ _ i HZ.out
      have p0 : (0 : Int) ≤ (i : Int) := by omega
      have q0 : (i : Int) < (l0_5.length : Int) := by omega
      obtain ⟨ad, eA, hx0, hx1⟩ := at_T82 HR.out (i : Int) p0 q0
      subst eA
      rw [show ((i : Int)).toNat = i by omega] at hx0 hx1
      have hy0 := (HO.out.low.cell (World.block_lt_of_cell? w _ hx0)).trans hx0
      have hy1 := (HO.out.low.cell (World.block_lt_of_cell? w _ hx1)).trans hx1
      clear hx0 hx1
      rw [show rd_T82 l0_5 (i : Int) = rl l0_5 i from rfl] at hy0 hy1
      have hre : relE l0_1 (l0_4.length : Int) l0_5 i = relE l0_1 (l0_4.length : Int) l0_5 i := rfl
      generalize hge : relE l0_1 (l0_4.length : Int) l0_5 i = ge at hse HFirst
      have HGE := Aside0.mk hge
      clear hge hre
      generalize rl l0_5 i = s at hy0 hy1 hse hmk hla
      obtain ⟨sa, sm⟩ := s
      simp only at hy0 hy1 hse hmk hla
      have HMK := Aside0.mk hmk
      have HLA := Aside0.mk hla
      clear hmk hla
      generalize hlr : lastR l0_5 i = la at hse hlo
      clear hlr
      have hwr : wrap64 ((i : Int) + 1) = ((i + 1 : Nat) : Int) := by rw [wrap64_id (by omega) (by omega)]; rfl
      replace p0 := eq_true p0
      replace q0 := eq_true q0
      have hltb : decide ((i : Int) < (l0_5.length : Int)) = true := decide_eq_true (by omega)
      by_cases c1 : sa ≤ la
      · rw [if_pos c1] at hse
        have d1 : decide (sa ≤ la) = true := decide_eq_true c1
        clear c1 hlo
        subst hse
        have h := (HFirst.out (by decide)).symm.trans HH.out
        injection h with e1 e2
        subst e1 e2
        go_wp2_with (first | ((with_reducible refine gate_dst (N := 6) rfl ?_); refine box_event ?hg (N := 6) ?hd (cs := #[.int .i64 0, .int .i64 0]) (t := 82) ?hr ?_; (case hd => rfl); (case hg => rfl); (case hr => first | (go_simp; done) | (go_simp; rfl)); intro gs hgs w5 BK5 hb5; have LN := Aside0.mk (show gn < gs by rw [hgs]; obtain ⟨Z, hz, _⟩ := HO.out.nam; exact blk_lt hz); have LG := Aside0.mk (show gb < gs by rw [hgs]; exact blk_lt HO.out.obj); have LR := Aside0.mk (show gr < gs by rw [hgs]; exact blk_lt HO.out.res); replace HO := Aside0.mk (HO.out.below hb5); have BS := Aside0.mk BK5; clear BK5 hb5 hgs) | ((with_reducible refine gate_store (t := 82) rfl ?_); refine wpList_store_whole rfl rfl rfl gs _ #[.int .i64 sa, .int .i64 sm] _ rfl rfl BS.out (by kernel_rfl) rfl (rel_one _ _) ?_; intro w6 hp; replace HO := Aside0.mk (HO.out.grown (put_grownN hp) (by have := LG.out; have := LN.out; have := HO.out.g2; omega) (by have := LG.out; omega) (by have := LR.out; omega) (by have := LN.out; omega)); replace BS := Aside0.mk hp.blk; clear hp; have hco1 := blk_cell HO.out.obj 1; have hco4 := blk_cell HO.out.obj 4; have hco5 := blk_cell HO.out.obj 5; have hs0 := blk_cell BS.out 0; have hs1 := blk_cell BS.out 1) | ((with_reducible refine gate_store (t := 121) rfl ?_); refine wpList_store_whole rfl rfl rfl gr _ #[.int .i64 24, .int .i64 (i : Int)] _ rfl rfl HO.out.res (by kernel_rfl) rfl (two_one _ _) ?_; intro w9 hp; have HE := Aside0.mk (hp.below HO.out.low HO.out.g1); have HP := Aside0.mk hp.blk; clear hp))
        refine bodyPost_ret (results_cell_row rfl _ _ gr 121 #[.int .i64 24, .int .i64 (i : Int)] (0, 0) _ rfl HP.out Tryz.underlying121 rfl (by kernel_rfl)) rfl ?_
        exact ⟨rfl, HE.out⟩
      rw [if_neg c1] at hse
      have d1 : decide (sa ≤ la) = false := decide_eq_false c1
      by_cases c2 : sa ≥ (l0_1.length : Int)
      · rw [if_pos c2] at hse
        have d2 : decide ((l0_1.length : Int) ≤ sa) = true := decide_eq_true c2
        clear c1 c2 hlo
        subst hse
        have h := (HFirst.out (by decide)).symm.trans HH.out
        injection h with e1 e2
        subst e1 e2
        go_wp2_with (first | ((with_reducible refine gate_dst (N := 6) rfl ?_); refine box_event ?hg (N := 6) ?hd (cs := #[.int .i64 0, .int .i64 0]) (t := 82) ?hr ?_; (case hd => rfl); (case hg => rfl); (case hr => first | (go_simp; done) | (go_simp; rfl)); intro gs hgs w5 BK5 hb5; have LN := Aside0.mk (show gn < gs by rw [hgs]; obtain ⟨Z, hz, _⟩ := HO.out.nam; exact blk_lt hz); have LG := Aside0.mk (show gb < gs by rw [hgs]; exact blk_lt HO.out.obj); have LR := Aside0.mk (show gr < gs by rw [hgs]; exact blk_lt HO.out.res); replace HO := Aside0.mk (HO.out.below hb5); have BS := Aside0.mk BK5; clear BK5 hb5 hgs) | ((with_reducible refine gate_store (t := 82) rfl ?_); refine wpList_store_whole rfl rfl rfl gs _ #[.int .i64 sa, .int .i64 sm] _ rfl rfl BS.out (by kernel_rfl) rfl (rel_one _ _) ?_; intro w6 hp; replace HO := Aside0.mk (HO.out.grown (put_grownN hp) (by have := LG.out; have := LN.out; have := HO.out.g2; omega) (by have := LG.out; omega) (by have := LR.out; omega) (by have := LN.out; omega)); replace BS := Aside0.mk hp.blk; clear hp; have hco1 := blk_cell HO.out.obj 1; have hco4 := blk_cell HO.out.obj 4; have hco5 := blk_cell HO.out.obj 5; have hs0 := blk_cell BS.out 0; have hs1 := blk_cell BS.out 1) | ((with_reducible refine gate_store (t := 121) rfl ?_); refine wpList_store_whole rfl rfl rfl gr _ #[.int .i64 24, .int .i64 (i : Int)] _ rfl rfl HO.out.res (by kernel_rfl) rfl (two_one _ _) ?_; intro w9 hp; have HE := Aside0.mk (hp.below HO.out.low HO.out.g1); have HP := Aside0.mk hp.blk; clear hp))
        refine bodyPost_ret (results_cell_row rfl _ _ gr 121 #[.int .i64 24, .int .i64 (i : Int)] (0, 0) _ rfl HP.out Tryz.underlying121 rfl (by kernel_rfl)) rfl ?_
        exact ⟨rfl, HE.out⟩
      rw [if_neg c2] at hse
      have d2 : decide ((l0_1.length : Int) ≤ sa) = false := decide_eq_false (by omega)
      by_cases c3 : sm < 0
      · rw [if_pos c3] at hse
        have d3 : decide (sm < 0) = true := decide_eq_true c3
        clear c1 c2 c3 hlo
        subst hse
        have h := (HFirst.out (by decide)).symm.trans HH.out
        injection h with e1 e2
        subst e1 e2
        go_wp2_with (first | ((with_reducible refine gate_dst (N := 6) rfl ?_); refine box_event ?hg (N := 6) ?hd (cs := #[.int .i64 0, .int .i64 0]) (t := 82) ?hr ?_; (case hd => rfl); (case hg => rfl); (case hr => first | (go_simp; done) | (go_simp; rfl)); intro gs hgs w5 BK5 hb5; have LN := Aside0.mk (show gn < gs by rw [hgs]; obtain ⟨Z, hz, _⟩ := HO.out.nam; exact blk_lt hz); have LG := Aside0.mk (show gb < gs by rw [hgs]; exact blk_lt HO.out.obj); have LR := Aside0.mk (show gr < gs by rw [hgs]; exact blk_lt HO.out.res); replace HO := Aside0.mk (HO.out.below hb5); have BS := Aside0.mk BK5; clear BK5 hb5 hgs) | ((with_reducible refine gate_store (t := 82) rfl ?_); refine wpList_store_whole rfl rfl rfl gs _ #[.int .i64 sa, .int .i64 sm] _ rfl rfl BS.out (by kernel_rfl) rfl (rel_one _ _) ?_; intro w6 hp; replace HO := Aside0.mk (HO.out.grown (put_grownN hp) (by have := LG.out; have := LN.out; have := HO.out.g2; omega) (by have := LG.out; omega) (by have := LR.out; omega) (by have := LN.out; omega)); replace BS := Aside0.mk hp.blk; clear hp; have hco1 := blk_cell HO.out.obj 1; have hco4 := blk_cell HO.out.obj 4; have hco5 := blk_cell HO.out.obj 5; have hs0 := blk_cell BS.out 0; have hs1 := blk_cell BS.out 1) | ((with_reducible refine gate_store (t := 121) rfl ?_); refine wpList_store_whole rfl rfl rfl gr _ #[.int .i64 24, .int .i64 (i : Int)] _ rfl rfl HO.out.res (by kernel_rfl) rfl (two_one _ _) ?_; intro w9 hp; have HE := Aside0.mk (hp.below HO.out.low HO.out.g1); have HP := Aside0.mk hp.blk; clear hp))
        refine bodyPost_ret (results_cell_row rfl _ _ gr 121 #[.int .i64 24, .int .i64 (i : Int)] (0, 0) _ rfl HP.out Tryz.underlying121 rfl (by kernel_rfl)) rfl ?_
        exact ⟨rfl, HE.out⟩
      rw [if_neg c3] at hse
      have d3 : decide (sm < 0) = false := decide_eq_false c3
      by_cases c4 : sm ≥ (l0_4.length : Int)
      · rw [if_pos c4] at hse
        have d4 : decide ((l0_4.length : Int) ≤ sm) = true := decide_eq_true c4
        clear c1 c2 c3 c4 hlo
        subst hse
        have h := (HFirst.out (by decide)).symm.trans HH.out
        injection h with e1 e2
        subst e1 e2
        go_wp2_with (first | ((with_reducible refine gate_dst (N := 6) rfl ?_); refine box_event ?hg (N := 6) ?hd (cs := #[.int .i64 0, .int .i64 0]) (t := 82) ?hr ?_; (case hd => rfl); (case hg => rfl); (case hr => first | (go_simp; done) | (go_simp; rfl)); intro gs hgs w5 BK5 hb5; have LN := Aside0.mk (show gn < gs by rw [hgs]; obtain ⟨Z, hz, _⟩ := HO.out.nam; exact blk_lt hz); have LG := Aside0.mk (show gb < gs by rw [hgs]; exact blk_lt HO.out.obj); have LR := Aside0.mk (show gr < gs by rw [hgs]; exact blk_lt HO.out.res); replace HO := Aside0.mk (HO.out.below hb5); have BS := Aside0.mk BK5; clear BK5 hb5 hgs) | ((with_reducible refine gate_store (t := 82) rfl ?_); refine wpList_store_whole rfl rfl rfl gs _ #[.int .i64 sa, .int .i64 sm] _ rfl rfl BS.out (by kernel_rfl) rfl (rel_one _ _) ?_; intro w6 hp; replace HO := Aside0.mk (HO.out.grown (put_grownN hp) (by have := LG.out; have := LN.out; have := HO.out.g2; omega) (by have := LG.out; omega) (by have := LR.out; omega) (by have := LN.out; omega)); replace BS := Aside0.mk hp.blk; clear hp; have hco1 := blk_cell HO.out.obj 1; have hco4 := blk_cell HO.out.obj 4; have hco5 := blk_cell HO.out.obj 5; have hs0 := blk_cell BS.out 0; have hs1 := blk_cell BS.out 1) | ((with_reducible refine gate_store (t := 121) rfl ?_); refine wpList_store_whole rfl rfl rfl gr _ #[.int .i64 24, .int .i64 (i : Int)] _ rfl rfl HO.out.res (by kernel_rfl) rfl (two_one _ _) ?_; intro w9 hp; have HE := Aside0.mk (hp.below HO.out.low HO.out.g1); have HP := Aside0.mk hp.blk; clear hp))
        refine bodyPost_ret (results_cell_row rfl _ _ gr 121 #[.int .i64 24, .int .i64 (i : Int)] (0, 0) _ rfl HP.out Tryz.underlying121 rfl (by kernel_rfl)) rfl ?_
        exact ⟨rfl, HE.out⟩
      rw [if_neg c4] at hse
      have d4 : decide ((l0_4.length : Int) ≤ sm) = false := decide_eq_false (by omega)
      have a0 : (0 : Int) ≤ sa := by omega
      have a1 : sa < (l0_1.length : Int) := by omega
      have a2 : sa.toNat < 16384 := by omega
      have a3 : sa < 16384 := by omega
      obtain ⟨ac, eC, hxc⟩ := Kd.at_int HC.out sa a0 a1
      subst eC
      have hxr : 0 ≤ rd l0_1 sa ∧ rd l0_1 sa < 4294967296 := by
        rw [show sa = ((sa.toNat : Nat) : Int) by omega, rd_get (by omega)]
        exact wordsO_at HW.out (List.getElem_mem _)
      generalize rd l0_1 sa = x at hxc hse hxr
      obtain ⟨kT, HT0⟩ := Ev.rounds (tgt1 hxr.1 hxr.2)
      have HT := Aside0.mk HT0
      clear HT0 hxr
      generalize tgtS x = t at HT hse
      obtain ⟨t1, t2⟩ := t
      simp only at hse
      have HA2 := Aside0.mk a2
      clear c1 c2 c3 c4 hlo a2
      replace a0 := eq_true a0
      replace a1 := eq_true a1
      replace a3 := eq_true a3
      have HX := Aside0.mk hxc
      clear hxc
      by_cases b : t2 = true
      · rw [if_pos b] at hse
        subst b
        by_cases z : t1 = 0
        · rw [if_pos z] at hse
          subst z
          subst hse
          go_wp2_with (first | ((with_reducible refine gate_dst (N := 6) rfl ?_); refine box_event ?hg (N := 6) ?hd (cs := #[.int .i64 0, .int .i64 0]) (t := 82) ?hr ?_; (case hd => rfl); (case hg => rfl); (case hr => first | (go_simp; done) | (go_simp; rfl)); intro gs hgs w5 BK5 hb5; have LN := Aside0.mk (show gn < gs by rw [hgs]; obtain ⟨Z, hz, _⟩ := HO.out.nam; exact blk_lt hz); have LG := Aside0.mk (show gb < gs by rw [hgs]; exact blk_lt HO.out.obj); have LR := Aside0.mk (show gr < gs by rw [hgs]; exact blk_lt HO.out.res); replace HO := Aside0.mk (HO.out.below hb5); have BS := Aside0.mk BK5; clear BK5 hb5 hgs) | ((with_reducible refine gate_store (t := 82) rfl ?_); refine wpList_store_whole rfl rfl rfl gs _ #[.int .i64 sa, .int .i64 sm] _ rfl rfl BS.out (by kernel_rfl) rfl (rel_one _ _) ?_; intro w6 hp; replace HO := Aside0.mk (HO.out.grown (put_grownN hp) (by have := LG.out; have := LN.out; have := HO.out.g2; omega) (by have := LG.out; omega) (by have := LR.out; omega) (by have := LN.out; omega)); replace BS := Aside0.mk hp.blk; clear hp; have hco1 := blk_cell HO.out.obj 1; have hco4 := blk_cell HO.out.obj 4; have hco5 := blk_cell HO.out.obj 5; have hs0 := blk_cell BS.out 0; have hs1 := blk_cell BS.out 1; have hyc := pw_cell_below HO.out.low HX.out) | (go_at_call 104; refine (isa_Target.calls kT x 0 _ _ HT.out).mono ?_; rintro e w7 ⟨rfl, hb⟩; replace HO := Aside0.mk (HO.out.below hb); replace BS := Aside0.mk (blk_below BS.out hb); clear hb; have hco1 := blk_cell HO.out.obj 1; have hco4 := blk_cell HO.out.obj 4; have hco5 := blk_cell HO.out.obj 5; have hs0 := blk_cell BS.out 0; have hs1 := blk_cell BS.out 1; obtain ⟨Z, hz1, hz2, hz3⟩ := HO.out.nam; have HZ1 := Aside0.mk hz1; have HZ2 := Aside0.mk hz2; have HZ3 := Aside0.mk hz3; clear hz1 hz2 hz3) | ((with_reducible refine gate_store (t := 4) rfl ?_); refine wpList_store_arr rfl rfl rfl gn sa.toNat Z 174 (.bool true) rfl rfl rfl rfl (bool_one _) HZ1.out (by rw [HZ2.out]; exact HA2.out) ?_; intro w8 hp; replace HO := Aside0.mk (HO.out.mark HZ2.out HZ3.out HA2.out hp); replace BS := Aside0.mk (blk_grown BS.out (put_grownN hp) (fun e => by have := LN.out; have := Option.some.inj e; omega)); clear hp HZ1 HZ2 HZ3; have hco1 := blk_cell HO.out.obj 1; have hco4 := blk_cell HO.out.obj 4; have hco5 := blk_cell HO.out.obj 5; have hs0 := blk_cell BS.out 0; have hs1 := blk_cell BS.out 1))
          go_roundw
          case measure => simp [intOf]; omega
          case rel => exact ⟨i + 1, by first | rfl | (simp; done) | (simp [*]; done), by rw [HLA.out], by omega, ⟨fun j hj => by
            by_cases e : j = i
            · rw [e]; exact HGE.out
            · exact HZ.out j (by omega)⟩, ⟨by rw [HMK.out]; exact HO.out⟩⟩
        · rw [if_neg z] at hse
          have zb : (t1 != 0) = true := bne_iff_ne.mpr z
          clear z
          subst hse
          have h := (HFirst.out (by decide)).symm.trans HH.out
          injection h with e1 e2
          subst e1 e2
          go_wp2_with (first | ((with_reducible refine gate_dst (N := 6) rfl ?_); refine box_event ?hg (N := 6) ?hd (cs := #[.int .i64 0, .int .i64 0]) (t := 82) ?hr ?_; (case hd => rfl); (case hg => rfl); (case hr => first | (go_simp; done) | (go_simp; rfl)); intro gs hgs w5 BK5 hb5; have LN := Aside0.mk (show gn < gs by rw [hgs]; obtain ⟨Z, hz, _⟩ := HO.out.nam; exact blk_lt hz); have LG := Aside0.mk (show gb < gs by rw [hgs]; exact blk_lt HO.out.obj); have LR := Aside0.mk (show gr < gs by rw [hgs]; exact blk_lt HO.out.res); replace HO := Aside0.mk (HO.out.below hb5); have BS := Aside0.mk BK5; clear BK5 hb5 hgs) | ((with_reducible refine gate_store (t := 82) rfl ?_); refine wpList_store_whole rfl rfl rfl gs _ #[.int .i64 sa, .int .i64 sm] _ rfl rfl BS.out (by kernel_rfl) rfl (rel_one _ _) ?_; intro w6 hp; replace HO := Aside0.mk (HO.out.grown (put_grownN hp) (by have := LG.out; have := LN.out; have := HO.out.g2; omega) (by have := LG.out; omega) (by have := LR.out; omega) (by have := LN.out; omega)); replace BS := Aside0.mk hp.blk; clear hp; have hco1 := blk_cell HO.out.obj 1; have hco4 := blk_cell HO.out.obj 4; have hco5 := blk_cell HO.out.obj 5; have hs0 := blk_cell BS.out 0; have hs1 := blk_cell BS.out 1; have hyc := pw_cell_below HO.out.low HX.out) | (go_at_call 104; refine (isa_Target.calls kT x t1 _ _ HT.out).mono ?_; rintro e w7 ⟨rfl, hb⟩; replace HO := Aside0.mk (HO.out.below hb); replace BS := Aside0.mk (blk_below BS.out hb); clear hb; have hco1 := blk_cell HO.out.obj 1; have hco4 := blk_cell HO.out.obj 4; have hco5 := blk_cell HO.out.obj 5; have hs0 := blk_cell BS.out 0; have hs1 := blk_cell BS.out 1; have hyc := pw_cell_below HO.out.low HX.out) | ((with_reducible refine gate_store (t := 121) rfl ?_); refine wpList_store_whole rfl rfl rfl gr _ #[.int .i64 24, .int .i64 (i : Int)] _ rfl rfl HO.out.res (by kernel_rfl) rfl (two_one _ _) ?_; intro w9 hp; have HE := Aside0.mk (hp.below HO.out.low HO.out.g1); have HP := Aside0.mk hp.blk; clear hp))
          refine bodyPost_ret (results_cell_row rfl _ _ gr 121 #[.int .i64 24, .int .i64 (i : Int)] (0, 0) _ rfl HP.out Tryz.underlying121 rfl (by kernel_rfl)) rfl ?_
          exact ⟨rfl, HE.out⟩
      · rw [if_neg b] at hse
        have b : t2 = false := by simpa using b
        subst b
        subst hse
        have h := (HFirst.out (by decide)).symm.trans HH.out
        injection h with e1 e2
        subst e1 e2
        go_wp2_with (first | ((with_reducible refine gate_dst (N := 6) rfl ?_); refine box_event ?hg (N := 6) ?hd (cs := #[.int .i64 0, .int .i64 0]) (t := 82) ?hr ?_; (case hd => rfl); (case hg => rfl); (case hr => first | (go_simp; done) | (go_simp; rfl)); intro gs hgs w5 BK5 hb5; have LN := Aside0.mk (show gn < gs by rw [hgs]; obtain ⟨Z, hz, _⟩ := HO.out.nam; exact blk_lt hz); have LG := Aside0.mk (show gb < gs by rw [hgs]; exact blk_lt HO.out.obj); have LR := Aside0.mk (show gr < gs by rw [hgs]; exact blk_lt HO.out.res); replace HO := Aside0.mk (HO.out.below hb5); have BS := Aside0.mk BK5; clear BK5 hb5 hgs) | ((with_reducible refine gate_store (t := 82) rfl ?_); refine wpList_store_whole rfl rfl rfl gs _ #[.int .i64 sa, .int .i64 sm] _ rfl rfl BS.out (by kernel_rfl) rfl (rel_one _ _) ?_; intro w6 hp; replace HO := Aside0.mk (HO.out.grown (put_grownN hp) (by have := LG.out; have := LN.out; have := HO.out.g2; omega) (by have := LG.out; omega) (by have := LR.out; omega) (by have := LN.out; omega)); replace BS := Aside0.mk hp.blk; clear hp; have hco1 := blk_cell HO.out.obj 1; have hco4 := blk_cell HO.out.obj 4; have hco5 := blk_cell HO.out.obj 5; have hs0 := blk_cell BS.out 0; have hs1 := blk_cell BS.out 1; have hyc := pw_cell_below HO.out.low HX.out) | (go_at_call 104; refine (isa_Target.calls kT x t1 _ _ HT.out).mono ?_; rintro e w7 ⟨rfl, hb⟩; replace HO := Aside0.mk (HO.out.below hb); replace BS := Aside0.mk (blk_below BS.out hb); clear hb; have hco1 := blk_cell HO.out.obj 1; have hco4 := blk_cell HO.out.obj 4; have hco5 := blk_cell HO.out.obj 5; have hs0 := blk_cell BS.out 0; have hs1 := blk_cell BS.out 1; have hyc := pw_cell_below HO.out.low HX.out) | ((with_reducible refine gate_store (t := 121) rfl ?_); refine wpList_store_whole rfl rfl rfl gr _ #[.int .i64 24, .int .i64 (i : Int)] _ rfl rfl HO.out.res (by kernel_rfl) rfl (two_one _ _) ?_; intro w9 hp; have HE := Aside0.mk (hp.below HO.out.low HO.out.g1); have HP := Aside0.mk hp.blk; clear hp))
        refine bodyPost_ret (results_cell_row rfl _ _ gr 121 #[.int .i64 24, .int .i64 (i : Int)] (0, 0) _ rfl HP.out Tryz.underlying121 rfl (by kernel_rfl)) rfl ?_
        exact ⟨rfl, HE.out⟩
    · have hi0 : i = l0_5.length := by omega
      subst hi0
      have hltb : decide ((l0_5.length : Int) < (l0_5.length : Int)) = false := by simp
      have HS := Aside0.mk ((relocs_scan HZ.out).symm.trans HH.out)
      clear hlt hile HZ
      generalize lastR l0_5 l0_5.length = la
      generalize markB l0_5 l0_5.length = N at HO HS
      go_wp2
      go_loopw [75] (fun u75 wr => ∃ k : Nat, u75 = .int .i64 (k : Int) ∧ k ≤ l0_1.length ∧ Aside0 (∀ j, j < k → scanE l0_1 N j = 0) ∧ Aside0 (OR w wr gb (objCell a0_0 A0_1 l0_1.length c0_1 a0_2 A0_3 l0_3.length c0_3 A0_4 l0_4.length c0_4 A0_5 l0_5.length c0_5) gr gn N)) (fun u75 _ => l0_1.length - (intOf u75).toNat)
      case atStart => exact ⟨0, rfl, Nat.zero_le _, ⟨fun j hj => absurd hj (Nat.not_lt_zero _)⟩, HO⟩
      case round =>
        clear HO hco1 hco4 hco5
        obtain ⟨k, rfl, hkle, HZ, HO⟩ := hrel
        have hco1 := blk_cell HO.out.obj 1; have hco4 := blk_cell HO.out.obj 4; have hco5 := blk_cell HO.out.obj 5
        by_cases hlt : k < l0_1.length
        · have hse := scanE_eq l0_1 N k
          have HFirst := Aside0.mk (fun (hne : scanE l0_1 N k ≠ 0) => scanS_at hlt HZ.out hne)
          have p0 : (0 : Int) ≤ (k : Int) := by omega
          have q0 : (k : Int) < (l0_1.length : Int) := by omega
          have q1 : (k : Int) < 16384 := by omega
          have HK := Aside0.mk (show k < 16384 by omega)
          obtain ⟨ac, eC, hxc⟩ := Kd.at_int HC.out (k : Int) p0 q0
          subst eC
          rw [show ((k : Int)).toNat = k by omega] at hxc
          have hxr : 0 ≤ rd l0_1 (k : Int) ∧ rd l0_1 (k : Int) < 4294967296 := by
            rw [rd_get hlt]
            exact wordsO_at HW.out (List.getElem_mem _)
          generalize rd l0_1 (k : Int) = x at hxc hse hxr
          have hyc := pw_cell_below HO.out.low hxc
          clear hxc
          obtain ⟨kT, HT0⟩ := Ev.rounds (tgt1 hxr.1 hxr.2)
          have HT := Aside0.mk HT0
          clear HT0 hxr
          generalize tgtS x = t at HT hse
          obtain ⟨t1, t2⟩ := t
          simp only at hse
          generalize hge : scanE l0_1 N k = ge at hse HFirst
          have HGE := Aside0.mk hge
          clear hge
          generalize hnk0 : N k = nk at hse
          have HNK := Aside0.mk hnk0
          clear hnk0
          have hnk := HO.out.nam.cell' HK.out HNK.out
          have hwr : wrap64 ((k : Int) + 1) = ((k + 1 : Nat) : Int) := by rw [wrap64_id (by omega) (by omega)]; rfl
          have hwm : wrap64 (-1 - (k : Int)) = -1 - (k : Int) := wrap64_id (by omega) (by omega)
          have hcn : ((k : Int)).toNat = k := by omega
          replace p0 := eq_true p0
          replace q0 := eq_true q0
          replace q1 := eq_true q1
          have hltb : decide ((k : Int) < (l0_1.length : Int)) = true := decide_eq_true (by omega)
          have HLT := Aside0.mk hlt
          clear hkle hlt
          cases t2
          · simp only [Bool.false_eq_true, if_false] at hse
            subst hse
            go_wp2_with (first | (go_at_call 104; refine (isa_Target.calls kT x t1 _ _ HT.out).mono ?_; rintro e w7 ⟨rfl, hb⟩; replace HO := Aside0.mk (HO.out.below hb); clear hb hnk; have hco1 := blk_cell HO.out.obj 1; have hco4 := blk_cell HO.out.obj 4; have hco5 := blk_cell HO.out.obj 5; have hnk := HO.out.nam.cell' HK.out HNK.out))
            go_roundw
            case measure => have hq := HLT.out; clear hl hl5; rw [hwr]; simp only [intOf, Int.toNat_natCast]; omega
            case rel => exact ⟨k + 1, by first | rfl | (simp; done) | (simp [*]; done), by have := HLT.out; omega, ⟨fun j hj => by
              by_cases e : j = k
              · rw [e]; exact HGE.out
              · exact HZ.out j (by omega)⟩, HO⟩
          · simp only [if_true] at hse
            cases nk
            · simp only [Bool.false_eq_true, if_false] at hse
              by_cases g : t1 > (l0_1.length : Int)
              · rw [if_pos g] at hse
                have gb1 : decide ((l0_1.length : Int) < t1) = true := decide_eq_true g
                subst hse
                clear g
                have h := (HFirst.out (by decide)).symm.trans HS.out
                injection h with e1 e2
                subst e1 e2
                go_wp2_with (first | (go_at_call 104; refine (isa_Target.calls kT x t1 _ _ HT.out).mono ?_; rintro e w7 ⟨rfl, hb⟩; replace HO := Aside0.mk (HO.out.below hb); clear hb hnk; have hco1 := blk_cell HO.out.obj 1; have hco4 := blk_cell HO.out.obj 4; have hco5 := blk_cell HO.out.obj 5; have hnk := HO.out.nam.cell' HK.out HNK.out) | ((with_reducible refine gate_store (t := 121) rfl ?_); refine wpList_store_whole rfl rfl rfl gr _ #[.int .i64 22, .int .i64 (-1 - (k : Int))] _ rfl rfl HO.out.res (by kernel_rfl) rfl (two_one _ _) ?_; intro w9 hp; have HE := Aside0.mk (hp.below HO.out.low HO.out.g1); have HP := Aside0.mk hp.blk; clear hp))
                refine bodyPost_ret (results_cell_row rfl _ _ gr 121 #[.int .i64 22, .int .i64 (-1 - (k : Int))] (0, 0) _ rfl HP.out Tryz.underlying121 rfl (by kernel_rfl)) rfl ?_
                exact ⟨rfl, HE.out⟩
              · rw [if_neg g] at hse
                have gb1 : decide ((l0_1.length : Int) < t1) = false := decide_eq_false g
                subst hse
                clear g
                go_wp2_with (first | (go_at_call 104; refine (isa_Target.calls kT x t1 _ _ HT.out).mono ?_; rintro e w7 ⟨rfl, hb⟩; replace HO := Aside0.mk (HO.out.below hb); clear hb hnk; have hco1 := blk_cell HO.out.obj 1; have hco4 := blk_cell HO.out.obj 4; have hco5 := blk_cell HO.out.obj 5; have hnk := HO.out.nam.cell' HK.out HNK.out))
                go_roundw
                case measure => have hq := HLT.out; clear hl hl5; rw [hwr]; simp only [intOf, Int.toNat_natCast]; omega
                case rel => exact ⟨k + 1, by first | rfl | (simp; done) | (simp [*]; done), by have := HLT.out; omega, ⟨fun j hj => by
                  by_cases e : j = k
                  · rw [e]; exact HGE.out
                  · exact HZ.out j (by omega)⟩, HO⟩
            · simp only [if_true] at hse
              subst hse
              go_wp2_with (first | (go_at_call 104; refine (isa_Target.calls kT x t1 _ _ HT.out).mono ?_; rintro e w7 ⟨rfl, hb⟩; replace HO := Aside0.mk (HO.out.below hb); clear hb hnk; have hco1 := blk_cell HO.out.obj 1; have hco4 := blk_cell HO.out.obj 4; have hco5 := blk_cell HO.out.obj 5; have hnk := HO.out.nam.cell' HK.out HNK.out))
              go_roundw
              case measure => have hq := HLT.out; clear hl hl5; rw [hwr]; simp only [intOf, Int.toNat_natCast]; omega
              case rel => exact ⟨k + 1, by first | rfl | (simp; done) | (simp [*]; done), by have := HLT.out; omega, ⟨fun j hj => by
                by_cases e : j = k
                · rw [e]; exact HGE.out
                · exact HZ.out j (by omega)⟩, HO⟩
        · have hk0 : k = l0_1.length := by omega
          subst hk0
          have hltb : decide ((l0_1.length : Int) < (l0_1.length : Int)) = false := by simp
          have h := (scanS_zero HZ.out).symm.trans HS.out
          injection h with e1 e2
          subst e1 e2
          clear hlt hkle
          go_wp2_with (first | ((with_reducible refine gate_store (t := 121) rfl ?_); refine wpList_store_whole rfl rfl rfl gr _ #[.int .i64 0, .int .i64 0] _ rfl rfl HO.out.res (by kernel_rfl) rfl (two_one _ _) ?_; intro w9 hp; have HE := Aside0.mk (hp.below HO.out.low HO.out.g1); have HP := Aside0.mk hp.blk; clear hp))
          refine bodyPost_ret (results_cell_row rfl _ _ gr 121 #[.int .i64 0, .int .i64 0] (0, 0) _ rfl HP.out Tryz.underlying121 rfl (by kernel_rfl)) rfl ?_
          exact ⟨rfl, HE.out⟩
  end Go.Proofs.YtiaohbbafaaibabGreatDoor.P

/- OWN TEXT: what object.Check comes to (it calls closures out of a list, which the print does not take), in the print's own form. -/
namespace Go.Proofs.YtiaohbbafaaibabGreatDoor.P
open Go.RowKit Go.Maps Go.Proofs.YtiaohbbafaaibabGreatDoorW.PrintWords Go.Proofs.YtiaohbbafaaibabGreatDoorW.PrintLast Go.Proofs.YtiaohbbafaaibabGreatDoorW.PrintMore Go.Proofs.YtiaohbbafaaibabGreatDoor.Arr Go.Proofs.YtiaohbbafaaibabGreatDoor.MapB
set_option linter.unusedVariables false
set_option linter.unusedSimpArgs false

theorem sizeS_ok {name : ByteArray} {code : List Int} {dat : Int} {data : List Int} {ns nr : Nat} (h : (sizeS name code dat data ns nr).1 = 0) : nameS name = true ∧ code.length ≤ 16384 ∧ ns ≤ 256 ∧ nr ≤ code.length ∧ 0 ≤ dat ∧ dat + (data.length : Int) ≤ 4096 := by
 unfold sizeS at h
 split at h
 ·
  rename_i h0
  refine ⟨h0, ?_⟩
  split at h
  ·
   exact absurd h (by decide)
  split at h
  ·
   exact absurd h (by decide)
  split at h
  ·
   exact absurd h (by decide)
  split at h
  ·
   exact absurd h (by decide)
  split at h
  ·
   exact absurd h (by decide)
  split at h
  ·
   exact absurd h (by decide)
  omega
 ·
  exact absurd h (by decide)
section
variable {P : Program} {ops : Array Oper} {rest : List Oper} {o : Oper} {a : Act} {Q : Exit → Act → World → Prop}
theorem lit_event {W : World} (hgd : o.guard = none) {N : Tmp} (_hd : o.dst = some N) {cs : Array Value} {e : TypeId} {n : Nat}
  (hrun : (execOp a.eval o).run P W = .ok (.value (.slice (some ⟨W.heap.size, 0, none⟩) n n)) (W.alloc (.cells cs e (0, 0))))
  (h : ∀ g, g = W.heap.size → ∀ w1, w1.heap[g]? = some (.cells cs e (0, 0)) → Below W.heap.size W w1 → wpList P ops Q rest (a.put o.dst (.slice (some ⟨g, 0, none⟩) n n)) w1) : wpList P ops Q (o :: rest) a W :=
 Kd.event_run hgd hrun (h _ rfl _ (blk_new W _) (below_alloc (Below.refl _ _) _))
end

set_option maxHeartbeats 8000000 in
set_option maxRecDepth 100000 in
theorem sizeH.calls (a0_0 : ByteArray) (A0_1 : Option Addr) (c0_1 : Nat) (l0_1 : List Int) (a0_2 : Int) (A0_3 : Option Addr) (c0_3 : Nat) (l0_3 : List Int) (A0_4 : Option Addr) (c0_4 : Nat) (l0_4 : List (S65)) (A0_5 : Option Addr) (c0_5 : Nat) (l0_5 : List (S82)) (r1 r2 : Int) (w : World) (hr0_1 : Kd.C (Kd.int .u32) w A0_1 l0_1.length l0_1) (hc0_1 : l0_1.length ≤ c0_1) (hr0_3 : Kd.C (Kd.int .i64) w A0_3 l0_3.length l0_3) (hc0_3 : l0_3.length ≤ c0_3) (hr0_4 : Kd.C k65 w A0_4 l0_4.length l0_4) (hc0_4 : l0_4.length ≤ c0_4) (hr0_5 : Kd.C k82 w A0_5 l0_5.length l0_5) (hc0_5 : l0_5.length ≤ c0_5) (h : sizeS a0_0 l0_1 a0_2 l0_3 l0_4.length l0_5.length = (r1, r2)) :
  Calls Tryz.prog 81 #[.agg #[.string a0_0, .slice A0_1 l0_1.length c0_1, .int .i64 a0_2, .slice A0_3 l0_3.length c0_3, .slice A0_4 l0_4.length c0_4, .slice A0_5 l0_5.length c0_5]] w fun e w' => e = .returned (.agg #[.int .i64 r1, .int .i64 r2]) ∧ Below w.heap.size w w' := by
 have hu1 := Tryz.underlying27
 have hu2 := Tryz.underlying121
 have HB := Aside0.mk (Below.refl w.heap.size w)
 clear hr0_1 hc0_1 hr0_3 hc0_3 hr0_4 hc0_4 hr0_5 hc0_5
 unfold sizeS at h
 have hN : object_Name.f a0_0 = some (nameS a0_0) := rfl
 generalize nameS a0_0 = b at h hN
 have HN := Aside0.mk hN
 clear hN
 cases b
 rotate_left
 rw [if_pos rfl] at h
 refine dite (16384 < (l0_1.length : Int)) (fun c0 => ?_) (fun c0 => ?_)
 rw [if_pos c0] at h; have b0 : decide (16384 < (l0_1.length : Int)) = true := decide_eq_true c0; have n0 : decide (16384 < l0_1.length) = true := decide_eq_true (by omega)
 rotate_left
 rw [if_neg c0] at h; have b0 : decide (16384 < (l0_1.length : Int)) = false := decide_eq_false c0; have n0 : decide (16384 < l0_1.length) = false := decide_eq_false (by omega)
 refine dite (256 < (l0_4.length : Int)) (fun c1 => ?_) (fun c1 => ?_)
 rw [if_pos c1] at h; have b1 : decide (256 < (l0_4.length : Int)) = true := decide_eq_true c1; have n1 : decide (256 < l0_4.length) = true := decide_eq_true (by omega)
 rotate_left
 rw [if_neg c1] at h; have b1 : decide (256 < (l0_4.length : Int)) = false := decide_eq_false c1; have n1 : decide (256 < l0_4.length) = false := decide_eq_false (by omega)
 refine dite ((l0_1.length : Int) < (l0_5.length : Int)) (fun c2 => ?_) (fun c2 => ?_)
 rw [if_pos c2] at h; have b2 : decide ((l0_1.length : Int) < (l0_5.length : Int)) = true := decide_eq_true c2; have n2 : decide (l0_1.length < l0_5.length) = true := decide_eq_true (by omega)
 rotate_left
 rw [if_neg c2] at h; have b2 : decide ((l0_1.length : Int) < (l0_5.length : Int)) = false := decide_eq_false c2; have n2 : decide (l0_1.length < l0_5.length) = false := decide_eq_false (by omega)
 refine dite (a0_2 < 0) (fun c3 => ?_) (fun c3 => ?_)
 rw [if_pos c3] at h; have b3 : decide (a0_2 < 0) = true := decide_eq_true c3
 rotate_left
 rw [if_neg c3] at h; have b3 : decide (a0_2 < 0) = false := decide_eq_false c3
 refine dite (4096 < a0_2) (fun c4 => ?_) (fun c4 => ?_)
 rw [if_pos c4] at h; have b4 : decide (4096 < a0_2) = true := decide_eq_true c4
 rotate_left
 rw [if_neg c4] at h; have b4 : decide (4096 < a0_2) = false := decide_eq_false c4
 refine dite (4096 - a0_2 < (l0_3.length : Int)) (fun c5 => ?_) (fun c5 => ?_)
 rw [if_pos c5] at h; have b5 : decide (wrap64 (4096 - a0_2) < (l0_3.length : Int)) = true := by rw [wrap64_id (by omega) (by omega)]; exact decide_eq_true c5
 rotate_left
 rw [if_neg c5] at h; have b5 : decide (wrap64 (4096 - a0_2) < (l0_3.length : Int)) = false := by rw [wrap64_id (by omega) (by omega)]; exact decide_eq_false c5
 all_goals
  try clear c0; try clear c1; try clear c2; try clear c3; try clear c4; try clear c5
  try rw [if_neg (by decide)] at h
  obtain ⟨rfl, rfl⟩ := Prod.mk.inj h
  clear h
  go_enter Tryz.func81, Tryz.ntmps81
  go_wp2_with (first | ((with_reducible refine gate_dst (N := 1) rfl ?_); refine box_event ?hg (N := 1) ?hd (cs := #[.string a0_0, .slice A0_1 l0_1.length c0_1, .int .i64 a0_2, .slice A0_3 l0_3.length c0_3, .slice A0_4 l0_4.length c0_4, .slice A0_5 l0_5.length c0_5]) (t := 27) ?hr ?_; (case hd => rfl); (case hg => rfl); (case hr => first | (go_simp; done) | (go_simp; rfl)); intro gb hg_ w1 BK_ hb_; have BO := Aside0.mk (show w1.heap[gb]? = some (objCell a0_0 A0_1 l0_1.length c0_1 a0_2 A0_3 l0_3.length c0_3 A0_4 l0_4.length c0_4 A0_5 l0_5.length c0_5) from BK_); replace HB := Aside0.mk (bsQ hb_ HB.out); clear BK_ hb_ hg_) | ((with_reducible refine gate_dst (N := 2) rfl ?_); refine box_event ?hg (N := 2) ?hd (cs := #[.int .i64 0, .int .i64 0]) (t := 121) ?hr ?_; (case hd => rfl); (case hg => rfl); (case hr => first | (go_simp; done) | (go_simp; rfl)); intro gr hgr w2 BK2 hb2; have G1 := Aside0.mk (gwQ hgr HB.out); replace HB := Aside0.mk (bsQ hb2 HB.out); replace BO := Aside0.mk (blk_below BO.out hb2); have BR := Aside0.mk (show w2.heap[gr]? = some (ansCell 0 0) from BK2); clear BK2 hb2 hgr; have hco0 := blk_cell BO.out 0; have hco1 := blk_cell BO.out 1; have hco2 := blk_cell BO.out 2; have hco3 := blk_cell BO.out 3; have hco4 := blk_cell BO.out 4; have hco5 := blk_cell BO.out 5) | (go_at_call 103; refine (object_Name.calls a0_0 _ _ HN.out).mono ?_; rintro e_ w3 ⟨rfl, hb_⟩; replace HB := Aside0.mk (bsQ hb_ HB.out); replace BO := Aside0.mk (blk_below BO.out hb_); replace BR := Aside0.mk (blk_below BR.out hb_); clear hb_ hco0 hco1 hco2 hco3 hco4 hco5; have hco0 := blk_cell BO.out 0; have hco1 := blk_cell BO.out 1; have hco2 := blk_cell BO.out 2; have hco3 := blk_cell BO.out 3; have hco4 := blk_cell BO.out 4; have hco5 := blk_cell BO.out 5) | ((with_reducible refine gate_store (t := 121) rfl ?_); refine wpList_store_whole rfl rfl rfl gr _ #[.int .i64 _, .int .i64 _] _ rfl rfl BR.out (by kernel_rfl) rfl (two_one _ _) ?_; intro w9 hp; have HE := Aside0.mk (hp.below HB.out G1.out); have HP := Aside0.mk hp.blk; clear hp))
  refine bodyPost_ret (results_cell_row rfl _ _ gr 121 #[.int .i64 _, .int .i64 _] (0, 0) _ rfl HP.out Tryz.underlying121 rfl (by kernel_rfl)) rfl ?_
  exact ⟨rfl, HE.out⟩
set_option maxHeartbeats 4000000 in
set_option maxRecDepth 100000 in
theorem chk1.calls (a0_0 : ByteArray) (A0_1 : Option Addr) (c0_1 : Nat) (l0_1 : List Int) (a0_2 : Int) (A0_3 : Option Addr) (c0_3 : Nat) (l0_3 : List Int) (A0_4 : Option Addr) (c0_4 : Nat) (l0_4 : List (S65)) (A0_5 : Option Addr) (c0_5 : Nat) (l0_5 : List (S82)) (gb : Nat) (r1 r2 : Int) (w : World) (hr0_1 : Kd.C (Kd.int .u32) w A0_1 l0_1.length l0_1) (hc0_1 : l0_1.length ≤ c0_1) (hr0_3 : Kd.C (Kd.int .i64) w A0_3 l0_3.length l0_3) (hc0_3 : l0_3.length ≤ c0_3) (hr0_4 : Kd.C k65 w A0_4 l0_4.length l0_4) (hc0_4 : l0_4.length ≤ c0_4) (hr0_5 : Kd.C k82 w A0_5 l0_5.length l0_5) (hc0_5 : l0_5.length ≤ c0_5) (hob : w.heap[gb]? = some (objCell a0_0 A0_1 l0_1.length c0_1 a0_2 A0_3 l0_3.length c0_3 A0_4 l0_4.length c0_4 A0_5 l0_5.length c0_5)) (h : sizeS a0_0 l0_1 a0_2 l0_3 l0_4.length l0_5.length = (r1, r2)) :
  Calls Tryz.prog 80 #[.pointer (some ⟨gb, 0, none⟩)] w fun e w' => e = .returned (.agg #[.int .i64 r1, .int .i64 r2]) ∧ Below w.heap.size w w' := by
 have hu1 := Tryz.underlying27
 have hu2 := Tryz.underlying121
 have HR1 := Aside0.mk hr0_1
 have HC1 := Aside0.mk hc0_1
 have HR3 := Aside0.mk hr0_3
 have HC3 := Aside0.mk hc0_3
 have HR4 := Aside0.mk hr0_4
 have HC4 := Aside0.mk hc0_4
 have HR5 := Aside0.mk hr0_5
 have HC5 := Aside0.mk hc0_5
 have HH := Aside0.mk h
 have BO := Aside0.mk hob
 clear hr0_1 hc0_1 hr0_3 hc0_3 hr0_4 hc0_4 hr0_5 hc0_5 h hob
 go_enter Tryz.func80, Tryz.ntmps80
 go_wp2_with (first | ((with_reducible refine gate_dst (N := 1) rfl ?_); refine box_event ?hg (N := 1) ?hd (cs := #[.int .i64 0, .int .i64 0]) (t := 121) ?hr ?_; (case hd => rfl); (case hg => rfl); (case hr => first | (go_simp; done) | (go_simp; rfl)); intro gr hgr w2 BK2 hb2; have G1 := Aside0.mk (show w.heap.size ≤ gr by rw [hgr]; exact Nat.le_refl _); have HB := Aside0.mk (below_then (Below.refl w.heap.size w) (Nat.le_refl _) hb2); replace BO := Aside0.mk (blk_below BO.out hb2); have BR := Aside0.mk (show w2.heap[gr]? = some (ansCell 0 0) from BK2); clear BK2 hb2 hgr; have hco0 := blk_cell BO.out 0; have hco1 := blk_cell BO.out 1; have hco2 := blk_cell BO.out 2; have hco3 := blk_cell BO.out 3; have hco4 := blk_cell BO.out 4; have hco5 := blk_cell BO.out 5) | (go_at_call 81; refine (sizeH.calls a0_0 A0_1 c0_1 l0_1 a0_2 A0_3 c0_3 l0_3 A0_4 c0_4 l0_4 A0_5 c0_5 l0_5 _ _ _ (Kd.C_below HR1.out HB.out) HC1.out (Kd.C_below HR3.out HB.out) HC3.out (Kd.C_below HR4.out HB.out) HC4.out (Kd.C_below HR5.out HB.out) HC5.out HH.out).mono ?_; rintro e w3 ⟨rfl, hb⟩; replace HB := Aside0.mk (below_then HB.out HB.out.size hb); replace BR := Aside0.mk (blk_below BR.out hb); clear BO hb) | ((with_reducible refine gate_store (t := 121) rfl ?_); refine wpList_store_whole rfl rfl rfl gr _ #[.int .i64 r1, .int .i64 r2] _ rfl rfl BR.out (by kernel_rfl) rfl (two_one _ _) ?_; intro w9 hp; have HE := Aside0.mk (hp.below HB.out G1.out); have HP := Aside0.mk hp.blk; clear hp))
 refine bodyPost_ret (results_cell_row rfl _ _ gr 121 #[.int .i64 r1, .int .i64 r2] (0, 0) _ rfl HP.out Tryz.underlying121 rfl (by kernel_rfl)) rfl ?_
 exact ⟨rfl, HE.out⟩

set_option maxHeartbeats 4000000 in
set_option maxRecDepth 100000 in
theorem chk2.calls (a0_0 : ByteArray) (A0_1 : Option Addr) (c0_1 : Nat) (l0_1 : List Int) (a0_2 : Int) (A0_3 : Option Addr) (c0_3 : Nat) (l0_3 : List Int) (A0_4 : Option Addr) (c0_4 : Nat) (l0_4 : List (S65)) (A0_5 : Option Addr) (c0_5 : Nat) (l0_5 : List (S82)) (gb : Nat) (r1 r2 : Int) (w : World) (hr0_1 : Kd.C (Kd.int .u32) w A0_1 l0_1.length l0_1) (hc0_1 : l0_1.length ≤ c0_1) (hr0_3 : Kd.C (Kd.int .i64) w A0_3 l0_3.length l0_3) (hc0_3 : l0_3.length ≤ c0_3) (hr0_4 : Kd.C k65 w A0_4 l0_4.length l0_4) (hc0_4 : l0_4.length ≤ c0_4) (hr0_5 : Kd.C k82 w A0_5 l0_5.length l0_5) (hc0_5 : l0_5.length ≤ c0_5) (hl : l0_4.length ≤ 1000000) (hob : w.heap[gb]? = some (objCell a0_0 A0_1 l0_1.length c0_1 a0_2 A0_3 l0_3.length c0_3 A0_4 l0_4.length c0_4 A0_5 l0_5.length c0_5)) (h : symsS l0_4 (l0_1.length : Int) = (r1, r2)) :
  Calls Tryz.prog 82 #[.pointer (some ⟨gb, 0, none⟩)] w fun e w' => e = .returned (.agg #[.int .i64 r1, .int .i64 r2]) ∧ Below w.heap.size w w' := by
 have hu1 := Tryz.underlying27
 have hu2 := Tryz.underlying121
 have HR1 := Aside0.mk hr0_1
 have HC1 := Aside0.mk hc0_1
 have HR3 := Aside0.mk hr0_3
 have HC3 := Aside0.mk hc0_3
 have HR4 := Aside0.mk hr0_4
 have HC4 := Aside0.mk hc0_4
 have HR5 := Aside0.mk hr0_5
 have HC5 := Aside0.mk hc0_5
 have HH := Aside0.mk h
 have BO := Aside0.mk hob
 have HL := Aside0.mk hl
 clear hl
 clear hr0_1 hc0_1 hr0_3 hc0_3 hr0_4 hc0_4 hr0_5 hc0_5 h hob
 go_enter Tryz.func82, Tryz.ntmps82
 go_wp2_with (first | ((with_reducible refine gate_dst (N := 1) rfl ?_); refine box_event ?hg (N := 1) ?hd (cs := #[.int .i64 0, .int .i64 0]) (t := 121) ?hr ?_; (case hd => rfl); (case hg => rfl); (case hr => first | (go_simp; done) | (go_simp; rfl)); intro gr hgr w2 BK2 hb2; have G1 := Aside0.mk (show w.heap.size ≤ gr by rw [hgr]; exact Nat.le_refl _); have HB := Aside0.mk (below_then (Below.refl w.heap.size w) (Nat.le_refl _) hb2); replace BO := Aside0.mk (blk_below BO.out hb2); have BR := Aside0.mk (show w2.heap[gr]? = some (ansCell 0 0) from BK2); clear BK2 hb2 hgr; have hco0 := blk_cell BO.out 0; have hco1 := blk_cell BO.out 1; have hco2 := blk_cell BO.out 2; have hco3 := blk_cell BO.out 3; have hco4 := blk_cell BO.out 4; have hco5 := blk_cell BO.out 5) | (go_at_call 83; refine (object_symbols.calls a0_0 A0_1 c0_1 l0_1 a0_2 A0_3 c0_3 l0_3 A0_4 c0_4 l0_4 A0_5 c0_5 l0_5 _ _ _ (Kd.C_below HR1.out HB.out) HC1.out (Kd.C_below HR3.out HB.out) HC3.out (Kd.C_below HR4.out HB.out) HC4.out (Kd.C_below HR5.out HB.out) HC5.out HL.out HH.out).mono ?_; rintro e w3 ⟨rfl, hb⟩; replace HB := Aside0.mk (below_then HB.out HB.out.size hb); replace BR := Aside0.mk (blk_below BR.out hb); clear BO hb) | ((with_reducible refine gate_store (t := 121) rfl ?_); refine wpList_store_whole rfl rfl rfl gr _ #[.int .i64 r1, .int .i64 r2] _ rfl rfl BR.out (by kernel_rfl) rfl (two_one _ _) ?_; intro w9 hp; have HE := Aside0.mk (hp.below HB.out G1.out); have HP := Aside0.mk hp.blk; clear hp))
 refine bodyPost_ret (results_cell_row rfl _ _ gr 121 #[.int .i64 r1, .int .i64 r2] (0, 0) _ rfl HP.out Tryz.underlying121 rfl (by kernel_rfl)) rfl ?_
 exact ⟨rfl, HE.out⟩

set_option maxHeartbeats 4000000 in
set_option maxRecDepth 100000 in
theorem chk3.calls (a0_0 : ByteArray) (A0_1 : Option Addr) (c0_1 : Nat) (l0_1 : List Int) (a0_2 : Int) (A0_3 : Option Addr) (c0_3 : Nat) (l0_3 : List Int) (A0_4 : Option Addr) (c0_4 : Nat) (l0_4 : List (S65)) (A0_5 : Option Addr) (c0_5 : Nat) (l0_5 : List (S82)) (gb : Nat) (r1 r2 : Int) (w : World) (hr0_1 : Kd.C (Kd.int .u32) w A0_1 l0_1.length l0_1) (hc0_1 : l0_1.length ≤ c0_1) (hr0_3 : Kd.C (Kd.int .i64) w A0_3 l0_3.length l0_3) (hc0_3 : l0_3.length ≤ c0_3) (hr0_4 : Kd.C k65 w A0_4 l0_4.length l0_4) (hc0_4 : l0_4.length ≤ c0_4) (hr0_5 : Kd.C k82 w A0_5 l0_5.length l0_5) (hc0_5 : l0_5.length ≤ c0_5) (hw : wordsO l0_1 = true) (hl : l0_1.length ≤ 16384) (hl5 : l0_5.length ≤ 1000000) (hob : w.heap[gb]? = some (objCell a0_0 A0_1 l0_1.length c0_1 a0_2 A0_3 l0_3.length c0_3 A0_4 l0_4.length c0_4 A0_5 l0_5.length c0_5)) (h : relocsS l0_1 (l0_4.length : Int) l0_5 = (r1, r2)) :
  Calls Tryz.prog 84 #[.pointer (some ⟨gb, 0, none⟩)] w fun e w' => e = .returned (.agg #[.int .i64 r1, .int .i64 r2]) ∧ Below w.heap.size w w' := by
 have hu1 := Tryz.underlying27
 have hu2 := Tryz.underlying121
 have HR1 := Aside0.mk hr0_1
 have HC1 := Aside0.mk hc0_1
 have HR3 := Aside0.mk hr0_3
 have HC3 := Aside0.mk hc0_3
 have HR4 := Aside0.mk hr0_4
 have HC4 := Aside0.mk hc0_4
 have HR5 := Aside0.mk hr0_5
 have HC5 := Aside0.mk hc0_5
 have HH := Aside0.mk h
 have BO := Aside0.mk hob
 have HL := Aside0.mk hl
 have HL5 := Aside0.mk hl5
 have HW := Aside0.mk hw
 clear hl hl5 hw
 clear hr0_1 hc0_1 hr0_3 hc0_3 hr0_4 hc0_4 hr0_5 hc0_5 h hob
 go_enter Tryz.func84, Tryz.ntmps84
 go_wp2_with (first | ((with_reducible refine gate_dst (N := 1) rfl ?_); refine box_event ?hg (N := 1) ?hd (cs := #[.int .i64 0, .int .i64 0]) (t := 121) ?hr ?_; (case hd => rfl); (case hg => rfl); (case hr => first | (go_simp; done) | (go_simp; rfl)); intro gr hgr w2 BK2 hb2; have G1 := Aside0.mk (show w.heap.size ≤ gr by rw [hgr]; exact Nat.le_refl _); have HB := Aside0.mk (below_then (Below.refl w.heap.size w) (Nat.le_refl _) hb2); replace BO := Aside0.mk (blk_below BO.out hb2); have BR := Aside0.mk (show w2.heap[gr]? = some (ansCell 0 0) from BK2); clear BK2 hb2 hgr; have hco0 := blk_cell BO.out 0; have hco1 := blk_cell BO.out 1; have hco2 := blk_cell BO.out 2; have hco3 := blk_cell BO.out 3; have hco4 := blk_cell BO.out 4; have hco5 := blk_cell BO.out 5) | (go_at_call 85; refine (object_relocs.calls a0_0 A0_1 c0_1 l0_1 a0_2 A0_3 c0_3 l0_3 A0_4 c0_4 l0_4 A0_5 c0_5 l0_5 _ _ _ (Kd.C_below HR1.out HB.out) HC1.out (Kd.C_below HR3.out HB.out) HC3.out (Kd.C_below HR4.out HB.out) HC4.out (Kd.C_below HR5.out HB.out) HC5.out HW.out HL.out HL5.out HH.out).mono ?_; rintro e w3 ⟨rfl, hb⟩; replace HB := Aside0.mk (below_then HB.out HB.out.size hb); replace BR := Aside0.mk (blk_below BR.out hb); clear BO hb) | ((with_reducible refine gate_store (t := 121) rfl ?_); refine wpList_store_whole rfl rfl rfl gr _ #[.int .i64 r1, .int .i64 r2] _ rfl rfl BR.out (by kernel_rfl) rfl (two_one _ _) ?_; intro w9 hp; have HE := Aside0.mk (hp.below HB.out G1.out); have HP := Aside0.mk hp.blk; clear hp))
 refine bodyPost_ret (results_cell_row rfl _ _ gr 121 #[.int .i64 r1, .int .i64 r2] (0, 0) _ rfl HP.out Tryz.underlying121 rfl (by kernel_rfl)) rfl ?_
 exact ⟨rfl, HE.out⟩

def fsCell (gb : Nat) : Obj := .cells #[(.func (.func 80) #[] #[.pointer (some ⟨gb, 0, none⟩)]), (.func (.func 82) #[] #[.pointer (some ⟨gb, 0, none⟩)]), (.func (.func 84) #[] #[.pointer (some ⟨gb, 0, none⟩)])] 123 (0, 0)
structure OC (w W : World) (gb : Nat) (oi : Obj) (gf : Nat) : Prop where
  low : Below w.heap.size w W
  obj : W.heap[gb]? = some oi
  fs : W.heap[gf]? = some (fsCell gb)
  g1 : w.heap.size ≤ gb
  g2 : w.heap.size ≤ gf
theorem OC.below {w W W1 : World} {gb gf : Nat} {oi : Obj} (h : OC w W gb oi gf) (hb : Below W.heap.size W W1) : OC w W1 gb oi gf :=
 ⟨below_then h.low h.low.size hb, blk_below h.obj hb, blk_below h.fs hb, h.g1, h.g2⟩
theorem OC.grown {w W W1 : World} {gb gf g : Nat} {oi : Obj} (h : OC w W gb oi gf) (hg : W.grownBy W1 (some g)) (hw : w.heap.size ≤ g) (h1 : gb ≠ g) (h2 : gf ≠ g) : OC w W1 gb oi gf :=
 ⟨pw_below_grown h.low (some g) h.low.size hg (fun k hk => by have := Option.some.inj hk; omega), blk_grown h.obj hg (fun e => h1 (Option.some.inj e)), blk_grown h.fs hg (fun e => h2 (Option.some.inj e)), h.g1, h.g2⟩
set_option maxHeartbeats 8000000 in
set_option maxRecDepth 100000 in
theorem object_Check.calls (a0_0 : ByteArray) (A0_1 : Option Addr) (c0_1 : Nat) (l0_1 : List Int) (a0_2 : Int) (A0_3 : Option Addr) (c0_3 : Nat) (l0_3 : List Int) (A0_4 : Option Addr) (c0_4 : Nat) (l0_4 : List (S65)) (A0_5 : Option Addr) (c0_5 : Nat) (l0_5 : List (S82)) (r1 r2 : Int) (w : World) (hr0_1 : Kd.C (Kd.int .u32) w A0_1 l0_1.length l0_1) (hc0_1 : l0_1.length ≤ c0_1) (hr0_3 : Kd.C (Kd.int .i64) w A0_3 l0_3.length l0_3) (hc0_3 : l0_3.length ≤ c0_3) (hr0_4 : Kd.C k65 w A0_4 l0_4.length l0_4) (hc0_4 : l0_4.length ≤ c0_4) (hr0_5 : Kd.C k82 w A0_5 l0_5.length l0_5) (hc0_5 : l0_5.length ≤ c0_5) (h : object_Check.f a0_0 l0_1 a0_2 l0_3 l0_4 l0_5 = some (r1, r2)) :
  Calls Tryz.prog 25 #[.agg #[.string a0_0, .slice A0_1 l0_1.length c0_1, .int .i64 a0_2, .slice A0_3 l0_3.length c0_3, .slice A0_4 l0_4.length c0_4, .slice A0_5 l0_5.length c0_5]] w fun e w' => e = .returned (.tuple #[.int .i64 r1, .int .i64 r2]) ∧ Below w.heap.size w w' := by
 have hu1 := Tryz.underlying27
 have hu2 := Tryz.underlying121
 unfold object_Check.f at h
 by_cases hw : wordsO l0_1 = true
 ·
  rw [if_pos hw] at h
  have h := Option.some.inj h
  have HR1 := Aside0.mk hr0_1
  have HC1 := Aside0.mk hc0_1
  have HR3 := Aside0.mk hr0_3
  have HC3 := Aside0.mk hc0_3
  have HR4 := Aside0.mk hr0_4
  have HC4 := Aside0.mk hc0_4
  have HR5 := Aside0.mk hr0_5
  have HC5 := Aside0.mk hc0_5
  have HW := Aside0.mk hw
  clear hr0_1 hc0_1 hr0_3 hc0_3 hr0_4 hc0_4 hr0_5 hc0_5 hw
  unfold chkO at h
  have hok : (sizeS a0_0 l0_1 a0_2 l0_3 l0_4.length l0_5.length).1 = 0 → _ := fun h => sizeS_ok h
  generalize hz1 : sizeS a0_0 l0_1 a0_2 l0_3 l0_4.length l0_5.length = z1 at h hok
  have H1 := Aside0.mk hz1
  clear hz1
  obtain ⟨s1, n1⟩ := z1
  simp only at h hok
  by_cases k1 : s1 = 0
  ·
   rw [if_pos k1] at h
   obtain ⟨_, hl1, hl4, hl5, _, _⟩ := hok k1
   subst k1
   have HL1 := Aside0.mk hl1
   have HL4 := Aside0.mk (show l0_4.length ≤ 1000000 by omega)
   have HL5 := Aside0.mk (show l0_5.length ≤ 1000000 by omega)
   clear hok hl1 hl4 hl5
   generalize hz2 : symsS l0_4 (l0_1.length : Int) = z2 at h
   have H2 := Aside0.mk hz2
   clear hz2
   obtain ⟨s2, n2⟩ := z2
   simp only at h
   by_cases k2 : s2 = 0
   ·
    rw [if_pos k2] at h
    subst k2
    generalize hz3 : relocsS l0_1 (l0_4.length : Int) l0_5 = z3 at h
    have H3 := Aside0.mk hz3
    clear hz3
    obtain ⟨s3, n3⟩ := z3
    simp only at h
    by_cases k3 : s3 = 0
    ·
     rw [if_pos k3] at h
     subst k3
     injection h with e1 e2
     subst e1 e2
     go_enter Tryz.func25, Tryz.ntmps25
     go_wp2_with (first | ((with_reducible refine gate_dst (N := 1) rfl ?_); refine box_event ?hg (N := 1) ?hd (cs := #[.string a0_0, .slice A0_1 l0_1.length c0_1, .int .i64 a0_2, .slice A0_3 l0_3.length c0_3, .slice A0_4 l0_4.length c0_4, .slice A0_5 l0_5.length c0_5]) (t := 27) ?hr ?_; (case hd => rfl); (case hg => rfl); (case hr => first | (go_simp; done) | (go_simp; rfl)); intro gb hgb w1 BK1 hb1; have HB := Aside0.mk (below_then (Below.refl w.heap.size w) (Nat.le_refl _) hb1); have GB := Aside0.mk (show w.heap.size ≤ gb by rw [hgb]; exact Nat.le_refl _); have BO := Aside0.mk (show w1.heap[gb]? = some (objCell a0_0 A0_1 l0_1.length c0_1 a0_2 A0_3 l0_3.length c0_3 A0_4 l0_4.length c0_4 A0_5 l0_5.length c0_5) from BK1); clear BK1 hb1 hgb) | ((with_reducible refine gate_dst (N := 11) rfl ?_); refine lit_event ?hg (N := 11) ?hd (cs := #[(.func (.func 80) #[] #[.pointer (some ⟨gb, 0, none⟩)]), (.func (.func 82) #[] #[.pointer (some ⟨gb, 0, none⟩)]), (.func (.func 84) #[] #[.pointer (some ⟨gb, 0, none⟩)])]) (e := 123) (n := 3) ?hr ?_; (case hd => rfl); (case hg => rfl); (case hr => first | (go_simp; done) | (go_simp; rfl)); intro gf hgf w2 BK2 hb2; have HO := Aside0.mk (show OC w w2 gb (objCell a0_0 A0_1 l0_1.length c0_1 a0_2 A0_3 l0_3.length c0_3 A0_4 l0_4.length c0_4 A0_5 l0_5.length c0_5) gf from ⟨below_then HB.out HB.out.size hb2, blk_below BO.out hb2, BK2, GB.out, by rw [hgf]; exact HB.out.size⟩); clear HB BO BK2 hb2 hgf GB; have hf0 := blk_cell HO.out.fs 0; have hf1 := blk_cell HO.out.fs 1; have hf2 := blk_cell HO.out.fs 2))
     refine wp_loop_rounds 4 ?_
     rw [rounds_succ]
     go_wp2_with (first | (go_at_call 80; refine (chk1.calls a0_0 A0_1 c0_1 l0_1 a0_2 A0_3 c0_3 l0_3 A0_4 c0_4 l0_4 A0_5 c0_5 l0_5 gb _ _ _ (Kd.C_below HR1.out HO.out.low) HC1.out (Kd.C_below HR3.out HO.out.low) HC3.out (Kd.C_below HR4.out HO.out.low) HC4.out (Kd.C_below HR5.out HO.out.low) HC5.out HO.out.obj H1.out).mono ?_; rintro e w3 ⟨rfl, hb⟩; replace HO := Aside0.mk (HO.out.below hb); clear hb; have hf0 := blk_cell HO.out.fs 0; have hf1 := blk_cell HO.out.fs 1; have hf2 := blk_cell HO.out.fs 2) | ((with_reducible refine gate_dst (N := 7) rfl ?_); refine box_event ?hg (N := 7) ?hd (cs := #[.int .i64 0, .int .i64 0]) (t := 121) ?hr ?_; (case hd => rfl); (case hg => rfl); (case hr => first | (go_simp; done) | (go_simp; rfl)); intro gs hgs w5 BK5 hb5; have LF := Aside0.mk (show gf < gs by rw [hgs]; exact blk_lt HO.out.fs); have LG := Aside0.mk (show gb < gs by rw [hgs]; exact blk_lt HO.out.obj); replace HO := Aside0.mk (HO.out.below hb5); have BS := Aside0.mk BK5; clear BK5 hb5 hgs; have hf0 := blk_cell HO.out.fs 0; have hf1 := blk_cell HO.out.fs 1; have hf2 := blk_cell HO.out.fs 2) | ((with_reducible refine gate_store (t := 121) rfl ?_); refine wpList_store_whole rfl rfl rfl gs _ #[.int .i64 0, .int .i64 n1] _ rfl rfl BS.out (by kernel_rfl) rfl (two_one _ _) ?_; intro w6 hp; replace HO := Aside0.mk (HO.out.grown (put_grownN hp) (by have := LG.out; have := HO.out.g1; omega) (by have := LG.out; omega) (by have := LF.out; omega)); have BSn := Aside0.mk hp.blk; clear BS hp LF LG; have hs0 := blk_cell BSn.out 0; have hs1 := blk_cell BSn.out 1; clear BSn; have hf0 := blk_cell HO.out.fs 0; have hf1 := blk_cell HO.out.fs 1; have hf2 := blk_cell HO.out.fs 2))
     rw [rounds_succ]
     go_wp2_with (first | (go_at_call 82; refine (chk2.calls a0_0 A0_1 c0_1 l0_1 a0_2 A0_3 c0_3 l0_3 A0_4 c0_4 l0_4 A0_5 c0_5 l0_5 gb _ _ _ (Kd.C_below HR1.out HO.out.low) HC1.out (Kd.C_below HR3.out HO.out.low) HC3.out (Kd.C_below HR4.out HO.out.low) HC4.out (Kd.C_below HR5.out HO.out.low) HC5.out HL4.out HO.out.obj H2.out).mono ?_; rintro e w3 ⟨rfl, hb⟩; replace HO := Aside0.mk (HO.out.below hb); clear hb; have hf0 := blk_cell HO.out.fs 0; have hf1 := blk_cell HO.out.fs 1; have hf2 := blk_cell HO.out.fs 2) | ((with_reducible refine gate_dst (N := 7) rfl ?_); refine box_event ?hg (N := 7) ?hd (cs := #[.int .i64 0, .int .i64 0]) (t := 121) ?hr ?_; (case hd => rfl); (case hg => rfl); (case hr => first | (go_simp; done) | (go_simp; rfl)); intro gs hgs w5 BK5 hb5; have LF := Aside0.mk (show gf < gs by rw [hgs]; exact blk_lt HO.out.fs); have LG := Aside0.mk (show gb < gs by rw [hgs]; exact blk_lt HO.out.obj); replace HO := Aside0.mk (HO.out.below hb5); have BS := Aside0.mk BK5; clear BK5 hb5 hgs; have hf0 := blk_cell HO.out.fs 0; have hf1 := blk_cell HO.out.fs 1; have hf2 := blk_cell HO.out.fs 2) | ((with_reducible refine gate_store (t := 121) rfl ?_); refine wpList_store_whole rfl rfl rfl gs _ #[.int .i64 0, .int .i64 n2] _ rfl rfl BS.out (by kernel_rfl) rfl (two_one _ _) ?_; intro w6 hp; replace HO := Aside0.mk (HO.out.grown (put_grownN hp) (by have := LG.out; have := HO.out.g1; omega) (by have := LG.out; omega) (by have := LF.out; omega)); have BSn := Aside0.mk hp.blk; clear BS hp LF LG; have hs0 := blk_cell BSn.out 0; have hs1 := blk_cell BSn.out 1; clear BSn; have hf0 := blk_cell HO.out.fs 0; have hf1 := blk_cell HO.out.fs 1; have hf2 := blk_cell HO.out.fs 2))
     rw [rounds_succ]
     go_wp2_with (first | (go_at_call 84; refine (chk3.calls a0_0 A0_1 c0_1 l0_1 a0_2 A0_3 c0_3 l0_3 A0_4 c0_4 l0_4 A0_5 c0_5 l0_5 gb _ _ _ (Kd.C_below HR1.out HO.out.low) HC1.out (Kd.C_below HR3.out HO.out.low) HC3.out (Kd.C_below HR4.out HO.out.low) HC4.out (Kd.C_below HR5.out HO.out.low) HC5.out HW.out HL1.out HL5.out HO.out.obj H3.out).mono ?_; rintro e w3 ⟨rfl, hb⟩; replace HO := Aside0.mk (HO.out.below hb); clear hb; have hf0 := blk_cell HO.out.fs 0; have hf1 := blk_cell HO.out.fs 1; have hf2 := blk_cell HO.out.fs 2) | ((with_reducible refine gate_dst (N := 7) rfl ?_); refine box_event ?hg (N := 7) ?hd (cs := #[.int .i64 0, .int .i64 0]) (t := 121) ?hr ?_; (case hd => rfl); (case hg => rfl); (case hr => first | (go_simp; done) | (go_simp; rfl)); intro gs hgs w5 BK5 hb5; have LF := Aside0.mk (show gf < gs by rw [hgs]; exact blk_lt HO.out.fs); have LG := Aside0.mk (show gb < gs by rw [hgs]; exact blk_lt HO.out.obj); replace HO := Aside0.mk (HO.out.below hb5); have BS := Aside0.mk BK5; clear BK5 hb5 hgs; have hf0 := blk_cell HO.out.fs 0; have hf1 := blk_cell HO.out.fs 1; have hf2 := blk_cell HO.out.fs 2) | ((with_reducible refine gate_store (t := 121) rfl ?_); refine wpList_store_whole rfl rfl rfl gs _ #[.int .i64 0, .int .i64 n3] _ rfl rfl BS.out (by kernel_rfl) rfl (two_one _ _) ?_; intro w6 hp; replace HO := Aside0.mk (HO.out.grown (put_grownN hp) (by have := LG.out; have := HO.out.g1; omega) (by have := LG.out; omega) (by have := LF.out; omega)); have BSn := Aside0.mk hp.blk; clear BS hp LF LG; have hs0 := blk_cell BSn.out 0; have hs1 := blk_cell BSn.out 1; clear BSn; have hf0 := blk_cell HO.out.fs 0; have hf1 := blk_cell HO.out.fs 1; have hf2 := blk_cell HO.out.fs 2))
     rw [rounds_succ]
     go_wp2
     go_ret2
     exact ⟨rfl, HO.out.low⟩
    ·
     rw [if_neg k3] at h
     injection h with e1 e2
     subst e1 e2
     have k3b : (s3 != 0) = true := bne_iff_ne.mpr k3
     clear k3
     go_enter Tryz.func25, Tryz.ntmps25
     go_wp2_with (first | ((with_reducible refine gate_dst (N := 1) rfl ?_); refine box_event ?hg (N := 1) ?hd (cs := #[.string a0_0, .slice A0_1 l0_1.length c0_1, .int .i64 a0_2, .slice A0_3 l0_3.length c0_3, .slice A0_4 l0_4.length c0_4, .slice A0_5 l0_5.length c0_5]) (t := 27) ?hr ?_; (case hd => rfl); (case hg => rfl); (case hr => first | (go_simp; done) | (go_simp; rfl)); intro gb hgb w1 BK1 hb1; have HB := Aside0.mk (below_then (Below.refl w.heap.size w) (Nat.le_refl _) hb1); have GB := Aside0.mk (show w.heap.size ≤ gb by rw [hgb]; exact Nat.le_refl _); have BO := Aside0.mk (show w1.heap[gb]? = some (objCell a0_0 A0_1 l0_1.length c0_1 a0_2 A0_3 l0_3.length c0_3 A0_4 l0_4.length c0_4 A0_5 l0_5.length c0_5) from BK1); clear BK1 hb1 hgb) | ((with_reducible refine gate_dst (N := 11) rfl ?_); refine lit_event ?hg (N := 11) ?hd (cs := #[(.func (.func 80) #[] #[.pointer (some ⟨gb, 0, none⟩)]), (.func (.func 82) #[] #[.pointer (some ⟨gb, 0, none⟩)]), (.func (.func 84) #[] #[.pointer (some ⟨gb, 0, none⟩)])]) (e := 123) (n := 3) ?hr ?_; (case hd => rfl); (case hg => rfl); (case hr => first | (go_simp; done) | (go_simp; rfl)); intro gf hgf w2 BK2 hb2; have HO := Aside0.mk (show OC w w2 gb (objCell a0_0 A0_1 l0_1.length c0_1 a0_2 A0_3 l0_3.length c0_3 A0_4 l0_4.length c0_4 A0_5 l0_5.length c0_5) gf from ⟨below_then HB.out HB.out.size hb2, blk_below BO.out hb2, BK2, GB.out, by rw [hgf]; exact HB.out.size⟩); clear HB BO BK2 hb2 hgf GB; have hf0 := blk_cell HO.out.fs 0; have hf1 := blk_cell HO.out.fs 1; have hf2 := blk_cell HO.out.fs 2))
     refine wp_loop_rounds 4 ?_
     rw [rounds_succ]
     go_wp2_with (first | (go_at_call 80; refine (chk1.calls a0_0 A0_1 c0_1 l0_1 a0_2 A0_3 c0_3 l0_3 A0_4 c0_4 l0_4 A0_5 c0_5 l0_5 gb _ _ _ (Kd.C_below HR1.out HO.out.low) HC1.out (Kd.C_below HR3.out HO.out.low) HC3.out (Kd.C_below HR4.out HO.out.low) HC4.out (Kd.C_below HR5.out HO.out.low) HC5.out HO.out.obj H1.out).mono ?_; rintro e w3 ⟨rfl, hb⟩; replace HO := Aside0.mk (HO.out.below hb); clear hb; have hf0 := blk_cell HO.out.fs 0; have hf1 := blk_cell HO.out.fs 1; have hf2 := blk_cell HO.out.fs 2) | ((with_reducible refine gate_dst (N := 7) rfl ?_); refine box_event ?hg (N := 7) ?hd (cs := #[.int .i64 0, .int .i64 0]) (t := 121) ?hr ?_; (case hd => rfl); (case hg => rfl); (case hr => first | (go_simp; done) | (go_simp; rfl)); intro gs hgs w5 BK5 hb5; have LF := Aside0.mk (show gf < gs by rw [hgs]; exact blk_lt HO.out.fs); have LG := Aside0.mk (show gb < gs by rw [hgs]; exact blk_lt HO.out.obj); replace HO := Aside0.mk (HO.out.below hb5); have BS := Aside0.mk BK5; clear BK5 hb5 hgs; have hf0 := blk_cell HO.out.fs 0; have hf1 := blk_cell HO.out.fs 1; have hf2 := blk_cell HO.out.fs 2) | ((with_reducible refine gate_store (t := 121) rfl ?_); refine wpList_store_whole rfl rfl rfl gs _ #[.int .i64 0, .int .i64 n1] _ rfl rfl BS.out (by kernel_rfl) rfl (two_one _ _) ?_; intro w6 hp; replace HO := Aside0.mk (HO.out.grown (put_grownN hp) (by have := LG.out; have := HO.out.g1; omega) (by have := LG.out; omega) (by have := LF.out; omega)); have BSn := Aside0.mk hp.blk; clear BS hp LF LG; have hs0 := blk_cell BSn.out 0; have hs1 := blk_cell BSn.out 1; clear BSn; have hf0 := blk_cell HO.out.fs 0; have hf1 := blk_cell HO.out.fs 1; have hf2 := blk_cell HO.out.fs 2))
     rw [rounds_succ]
     go_wp2_with (first | (go_at_call 82; refine (chk2.calls a0_0 A0_1 c0_1 l0_1 a0_2 A0_3 c0_3 l0_3 A0_4 c0_4 l0_4 A0_5 c0_5 l0_5 gb _ _ _ (Kd.C_below HR1.out HO.out.low) HC1.out (Kd.C_below HR3.out HO.out.low) HC3.out (Kd.C_below HR4.out HO.out.low) HC4.out (Kd.C_below HR5.out HO.out.low) HC5.out HL4.out HO.out.obj H2.out).mono ?_; rintro e w3 ⟨rfl, hb⟩; replace HO := Aside0.mk (HO.out.below hb); clear hb; have hf0 := blk_cell HO.out.fs 0; have hf1 := blk_cell HO.out.fs 1; have hf2 := blk_cell HO.out.fs 2) | ((with_reducible refine gate_dst (N := 7) rfl ?_); refine box_event ?hg (N := 7) ?hd (cs := #[.int .i64 0, .int .i64 0]) (t := 121) ?hr ?_; (case hd => rfl); (case hg => rfl); (case hr => first | (go_simp; done) | (go_simp; rfl)); intro gs hgs w5 BK5 hb5; have LF := Aside0.mk (show gf < gs by rw [hgs]; exact blk_lt HO.out.fs); have LG := Aside0.mk (show gb < gs by rw [hgs]; exact blk_lt HO.out.obj); replace HO := Aside0.mk (HO.out.below hb5); have BS := Aside0.mk BK5; clear BK5 hb5 hgs; have hf0 := blk_cell HO.out.fs 0; have hf1 := blk_cell HO.out.fs 1; have hf2 := blk_cell HO.out.fs 2) | ((with_reducible refine gate_store (t := 121) rfl ?_); refine wpList_store_whole rfl rfl rfl gs _ #[.int .i64 0, .int .i64 n2] _ rfl rfl BS.out (by kernel_rfl) rfl (two_one _ _) ?_; intro w6 hp; replace HO := Aside0.mk (HO.out.grown (put_grownN hp) (by have := LG.out; have := HO.out.g1; omega) (by have := LG.out; omega) (by have := LF.out; omega)); have BSn := Aside0.mk hp.blk; clear BS hp LF LG; have hs0 := blk_cell BSn.out 0; have hs1 := blk_cell BSn.out 1; clear BSn; have hf0 := blk_cell HO.out.fs 0; have hf1 := blk_cell HO.out.fs 1; have hf2 := blk_cell HO.out.fs 2))
     rw [rounds_succ]
     go_wp2_with (first | (go_at_call 84; refine (chk3.calls a0_0 A0_1 c0_1 l0_1 a0_2 A0_3 c0_3 l0_3 A0_4 c0_4 l0_4 A0_5 c0_5 l0_5 gb _ _ _ (Kd.C_below HR1.out HO.out.low) HC1.out (Kd.C_below HR3.out HO.out.low) HC3.out (Kd.C_below HR4.out HO.out.low) HC4.out (Kd.C_below HR5.out HO.out.low) HC5.out HW.out HL1.out HL5.out HO.out.obj H3.out).mono ?_; rintro e w3 ⟨rfl, hb⟩; replace HO := Aside0.mk (HO.out.below hb); clear hb; have hf0 := blk_cell HO.out.fs 0; have hf1 := blk_cell HO.out.fs 1; have hf2 := blk_cell HO.out.fs 2) | ((with_reducible refine gate_dst (N := 7) rfl ?_); refine box_event ?hg (N := 7) ?hd (cs := #[.int .i64 0, .int .i64 0]) (t := 121) ?hr ?_; (case hd => rfl); (case hg => rfl); (case hr => first | (go_simp; done) | (go_simp; rfl)); intro gs hgs w5 BK5 hb5; have LF := Aside0.mk (show gf < gs by rw [hgs]; exact blk_lt HO.out.fs); have LG := Aside0.mk (show gb < gs by rw [hgs]; exact blk_lt HO.out.obj); replace HO := Aside0.mk (HO.out.below hb5); have BS := Aside0.mk BK5; clear BK5 hb5 hgs; have hf0 := blk_cell HO.out.fs 0; have hf1 := blk_cell HO.out.fs 1; have hf2 := blk_cell HO.out.fs 2) | ((with_reducible refine gate_store (t := 121) rfl ?_); refine wpList_store_whole rfl rfl rfl gs _ #[.int .i64 s3, .int .i64 n3] _ rfl rfl BS.out (by kernel_rfl) rfl (two_one _ _) ?_; intro w6 hp; replace HO := Aside0.mk (HO.out.grown (put_grownN hp) (by have := LG.out; have := HO.out.g1; omega) (by have := LG.out; omega) (by have := LF.out; omega)); have BSn := Aside0.mk hp.blk; clear BS hp LF LG; have hs0 := blk_cell BSn.out 0; have hs1 := blk_cell BSn.out 1; clear BSn; have hf0 := blk_cell HO.out.fs 0; have hf1 := blk_cell HO.out.fs 1; have hf2 := blk_cell HO.out.fs 2))
     repeat (go_quiet (fail); try go_wp2)
     go_ret2
     exact ⟨rfl, by first | exact HO.out.low | exact pw_below_drewN HO.out.low _⟩
   ·
    rw [if_neg k2] at h
    injection h with e1 e2
    subst e1 e2
    have k2b : (s2 != 0) = true := bne_iff_ne.mpr k2
    clear k2
    go_enter Tryz.func25, Tryz.ntmps25
    go_wp2_with (first | ((with_reducible refine gate_dst (N := 1) rfl ?_); refine box_event ?hg (N := 1) ?hd (cs := #[.string a0_0, .slice A0_1 l0_1.length c0_1, .int .i64 a0_2, .slice A0_3 l0_3.length c0_3, .slice A0_4 l0_4.length c0_4, .slice A0_5 l0_5.length c0_5]) (t := 27) ?hr ?_; (case hd => rfl); (case hg => rfl); (case hr => first | (go_simp; done) | (go_simp; rfl)); intro gb hgb w1 BK1 hb1; have HB := Aside0.mk (below_then (Below.refl w.heap.size w) (Nat.le_refl _) hb1); have GB := Aside0.mk (show w.heap.size ≤ gb by rw [hgb]; exact Nat.le_refl _); have BO := Aside0.mk (show w1.heap[gb]? = some (objCell a0_0 A0_1 l0_1.length c0_1 a0_2 A0_3 l0_3.length c0_3 A0_4 l0_4.length c0_4 A0_5 l0_5.length c0_5) from BK1); clear BK1 hb1 hgb) | ((with_reducible refine gate_dst (N := 11) rfl ?_); refine lit_event ?hg (N := 11) ?hd (cs := #[(.func (.func 80) #[] #[.pointer (some ⟨gb, 0, none⟩)]), (.func (.func 82) #[] #[.pointer (some ⟨gb, 0, none⟩)]), (.func (.func 84) #[] #[.pointer (some ⟨gb, 0, none⟩)])]) (e := 123) (n := 3) ?hr ?_; (case hd => rfl); (case hg => rfl); (case hr => first | (go_simp; done) | (go_simp; rfl)); intro gf hgf w2 BK2 hb2; have HO := Aside0.mk (show OC w w2 gb (objCell a0_0 A0_1 l0_1.length c0_1 a0_2 A0_3 l0_3.length c0_3 A0_4 l0_4.length c0_4 A0_5 l0_5.length c0_5) gf from ⟨below_then HB.out HB.out.size hb2, blk_below BO.out hb2, BK2, GB.out, by rw [hgf]; exact HB.out.size⟩); clear HB BO BK2 hb2 hgf GB; have hf0 := blk_cell HO.out.fs 0; have hf1 := blk_cell HO.out.fs 1; have hf2 := blk_cell HO.out.fs 2))
    refine wp_loop_rounds 4 ?_
    rw [rounds_succ]
    go_wp2_with (first | (go_at_call 80; refine (chk1.calls a0_0 A0_1 c0_1 l0_1 a0_2 A0_3 c0_3 l0_3 A0_4 c0_4 l0_4 A0_5 c0_5 l0_5 gb _ _ _ (Kd.C_below HR1.out HO.out.low) HC1.out (Kd.C_below HR3.out HO.out.low) HC3.out (Kd.C_below HR4.out HO.out.low) HC4.out (Kd.C_below HR5.out HO.out.low) HC5.out HO.out.obj H1.out).mono ?_; rintro e w3 ⟨rfl, hb⟩; replace HO := Aside0.mk (HO.out.below hb); clear hb; have hf0 := blk_cell HO.out.fs 0; have hf1 := blk_cell HO.out.fs 1; have hf2 := blk_cell HO.out.fs 2) | ((with_reducible refine gate_dst (N := 7) rfl ?_); refine box_event ?hg (N := 7) ?hd (cs := #[.int .i64 0, .int .i64 0]) (t := 121) ?hr ?_; (case hd => rfl); (case hg => rfl); (case hr => first | (go_simp; done) | (go_simp; rfl)); intro gs hgs w5 BK5 hb5; have LF := Aside0.mk (show gf < gs by rw [hgs]; exact blk_lt HO.out.fs); have LG := Aside0.mk (show gb < gs by rw [hgs]; exact blk_lt HO.out.obj); replace HO := Aside0.mk (HO.out.below hb5); have BS := Aside0.mk BK5; clear BK5 hb5 hgs; have hf0 := blk_cell HO.out.fs 0; have hf1 := blk_cell HO.out.fs 1; have hf2 := blk_cell HO.out.fs 2) | ((with_reducible refine gate_store (t := 121) rfl ?_); refine wpList_store_whole rfl rfl rfl gs _ #[.int .i64 0, .int .i64 n1] _ rfl rfl BS.out (by kernel_rfl) rfl (two_one _ _) ?_; intro w6 hp; replace HO := Aside0.mk (HO.out.grown (put_grownN hp) (by have := LG.out; have := HO.out.g1; omega) (by have := LG.out; omega) (by have := LF.out; omega)); have BSn := Aside0.mk hp.blk; clear BS hp LF LG; have hs0 := blk_cell BSn.out 0; have hs1 := blk_cell BSn.out 1; clear BSn; have hf0 := blk_cell HO.out.fs 0; have hf1 := blk_cell HO.out.fs 1; have hf2 := blk_cell HO.out.fs 2))
    rw [rounds_succ]
    go_wp2_with (first | (go_at_call 82; refine (chk2.calls a0_0 A0_1 c0_1 l0_1 a0_2 A0_3 c0_3 l0_3 A0_4 c0_4 l0_4 A0_5 c0_5 l0_5 gb _ _ _ (Kd.C_below HR1.out HO.out.low) HC1.out (Kd.C_below HR3.out HO.out.low) HC3.out (Kd.C_below HR4.out HO.out.low) HC4.out (Kd.C_below HR5.out HO.out.low) HC5.out HL4.out HO.out.obj H2.out).mono ?_; rintro e w3 ⟨rfl, hb⟩; replace HO := Aside0.mk (HO.out.below hb); clear hb; have hf0 := blk_cell HO.out.fs 0; have hf1 := blk_cell HO.out.fs 1; have hf2 := blk_cell HO.out.fs 2) | ((with_reducible refine gate_dst (N := 7) rfl ?_); refine box_event ?hg (N := 7) ?hd (cs := #[.int .i64 0, .int .i64 0]) (t := 121) ?hr ?_; (case hd => rfl); (case hg => rfl); (case hr => first | (go_simp; done) | (go_simp; rfl)); intro gs hgs w5 BK5 hb5; have LF := Aside0.mk (show gf < gs by rw [hgs]; exact blk_lt HO.out.fs); have LG := Aside0.mk (show gb < gs by rw [hgs]; exact blk_lt HO.out.obj); replace HO := Aside0.mk (HO.out.below hb5); have BS := Aside0.mk BK5; clear BK5 hb5 hgs; have hf0 := blk_cell HO.out.fs 0; have hf1 := blk_cell HO.out.fs 1; have hf2 := blk_cell HO.out.fs 2) | ((with_reducible refine gate_store (t := 121) rfl ?_); refine wpList_store_whole rfl rfl rfl gs _ #[.int .i64 s2, .int .i64 n2] _ rfl rfl BS.out (by kernel_rfl) rfl (two_one _ _) ?_; intro w6 hp; replace HO := Aside0.mk (HO.out.grown (put_grownN hp) (by have := LG.out; have := HO.out.g1; omega) (by have := LG.out; omega) (by have := LF.out; omega)); have BSn := Aside0.mk hp.blk; clear BS hp LF LG; have hs0 := blk_cell BSn.out 0; have hs1 := blk_cell BSn.out 1; clear BSn; have hf0 := blk_cell HO.out.fs 0; have hf1 := blk_cell HO.out.fs 1; have hf2 := blk_cell HO.out.fs 2))
    repeat (go_quiet (fail); try go_wp2)
    go_ret2
    exact ⟨rfl, by first | exact HO.out.low | exact pw_below_drewN HO.out.low _⟩
  ·
   rw [if_neg k1] at h
   injection h with e1 e2
   subst e1 e2
   have k1b : (s1 != 0) = true := bne_iff_ne.mpr k1
   clear k1 hok
   go_enter Tryz.func25, Tryz.ntmps25
   go_wp2_with (first | ((with_reducible refine gate_dst (N := 1) rfl ?_); refine box_event ?hg (N := 1) ?hd (cs := #[.string a0_0, .slice A0_1 l0_1.length c0_1, .int .i64 a0_2, .slice A0_3 l0_3.length c0_3, .slice A0_4 l0_4.length c0_4, .slice A0_5 l0_5.length c0_5]) (t := 27) ?hr ?_; (case hd => rfl); (case hg => rfl); (case hr => first | (go_simp; done) | (go_simp; rfl)); intro gb hgb w1 BK1 hb1; have HB := Aside0.mk (below_then (Below.refl w.heap.size w) (Nat.le_refl _) hb1); have GB := Aside0.mk (show w.heap.size ≤ gb by rw [hgb]; exact Nat.le_refl _); have BO := Aside0.mk (show w1.heap[gb]? = some (objCell a0_0 A0_1 l0_1.length c0_1 a0_2 A0_3 l0_3.length c0_3 A0_4 l0_4.length c0_4 A0_5 l0_5.length c0_5) from BK1); clear BK1 hb1 hgb) | ((with_reducible refine gate_dst (N := 11) rfl ?_); refine lit_event ?hg (N := 11) ?hd (cs := #[(.func (.func 80) #[] #[.pointer (some ⟨gb, 0, none⟩)]), (.func (.func 82) #[] #[.pointer (some ⟨gb, 0, none⟩)]), (.func (.func 84) #[] #[.pointer (some ⟨gb, 0, none⟩)])]) (e := 123) (n := 3) ?hr ?_; (case hd => rfl); (case hg => rfl); (case hr => first | (go_simp; done) | (go_simp; rfl)); intro gf hgf w2 BK2 hb2; have HO := Aside0.mk (show OC w w2 gb (objCell a0_0 A0_1 l0_1.length c0_1 a0_2 A0_3 l0_3.length c0_3 A0_4 l0_4.length c0_4 A0_5 l0_5.length c0_5) gf from ⟨below_then HB.out HB.out.size hb2, blk_below BO.out hb2, BK2, GB.out, by rw [hgf]; exact HB.out.size⟩); clear HB BO BK2 hb2 hgf GB; have hf0 := blk_cell HO.out.fs 0; have hf1 := blk_cell HO.out.fs 1; have hf2 := blk_cell HO.out.fs 2))
   refine wp_loop_rounds 4 ?_
   rw [rounds_succ]
   go_wp2_with (first | (go_at_call 80; refine (chk1.calls a0_0 A0_1 c0_1 l0_1 a0_2 A0_3 c0_3 l0_3 A0_4 c0_4 l0_4 A0_5 c0_5 l0_5 gb _ _ _ (Kd.C_below HR1.out HO.out.low) HC1.out (Kd.C_below HR3.out HO.out.low) HC3.out (Kd.C_below HR4.out HO.out.low) HC4.out (Kd.C_below HR5.out HO.out.low) HC5.out HO.out.obj H1.out).mono ?_; rintro e w3 ⟨rfl, hb⟩; replace HO := Aside0.mk (HO.out.below hb); clear hb; have hf0 := blk_cell HO.out.fs 0; have hf1 := blk_cell HO.out.fs 1; have hf2 := blk_cell HO.out.fs 2) | ((with_reducible refine gate_dst (N := 7) rfl ?_); refine box_event ?hg (N := 7) ?hd (cs := #[.int .i64 0, .int .i64 0]) (t := 121) ?hr ?_; (case hd => rfl); (case hg => rfl); (case hr => first | (go_simp; done) | (go_simp; rfl)); intro gs hgs w5 BK5 hb5; have LF := Aside0.mk (show gf < gs by rw [hgs]; exact blk_lt HO.out.fs); have LG := Aside0.mk (show gb < gs by rw [hgs]; exact blk_lt HO.out.obj); replace HO := Aside0.mk (HO.out.below hb5); have BS := Aside0.mk BK5; clear BK5 hb5 hgs; have hf0 := blk_cell HO.out.fs 0; have hf1 := blk_cell HO.out.fs 1; have hf2 := blk_cell HO.out.fs 2) | ((with_reducible refine gate_store (t := 121) rfl ?_); refine wpList_store_whole rfl rfl rfl gs _ #[.int .i64 s1, .int .i64 n1] _ rfl rfl BS.out (by kernel_rfl) rfl (two_one _ _) ?_; intro w6 hp; replace HO := Aside0.mk (HO.out.grown (put_grownN hp) (by have := LG.out; have := HO.out.g1; omega) (by have := LG.out; omega) (by have := LF.out; omega)); have BSn := Aside0.mk hp.blk; clear BS hp LF LG; have hs0 := blk_cell BSn.out 0; have hs1 := blk_cell BSn.out 1; clear BSn; have hf0 := blk_cell HO.out.fs 0; have hf1 := blk_cell HO.out.fs 1; have hf2 := blk_cell HO.out.fs 2))
   repeat (go_quiet (fail); try go_wp2)
   go_ret2
   exact ⟨rfl, by first | exact HO.out.low | exact pw_below_drewN HO.out.low _⟩
 ·
  rw [if_neg hw] at h; cases h
end Go.Proofs.YtiaohbbafaaibabGreatDoor.P

/- OWN TEXT: what wire's reader calls for each part, walked. -/
namespace Go.Proofs.YtiaohbbafaaibabGreatDoor.P
open Go.RowKit Go.Maps Go.Proofs.YtiaohbbafaaibabGreatDoorW.PrintWords Go.Proofs.YtiaohbbafaaibabGreatDoorW.PrintLast Go.Proofs.YtiaohbbafaaibabGreatDoorW.PrintMore Go.Proofs.YtiaohbbafaaibabGreatDoor.Arr Go.Proofs.YtiaohbbafaaibabGreatDoor.MapB
set_option linter.unusedVariables false
set_option linter.unusedSimpArgs false
/-- what has been read of an object, and where the reader is. -/
structure RO where
  nm : ByteArray
  code : List Int
  dat : Int
  data : List Int
  syms : List Sym
  rels : List Rel
  rs : RS
structure OB4 (W : World) (base g : Nat) (a : RO) (v1 v3 v4 v5 : Value) : Prop where
  blk : W.heap[g]? = some (.cells #[.string a.nm, v1, .int .i64 a.dat, v3, v4, v5] 27 (0, 0))
  r1 : Kd.R (Kd.int .u32) 78 W base (fun _ => True) v1 a.code
  r3 : Kd.R (Kd.int .i64) 2 W base (fun _ => True) v3 a.data
  r4 : Kd.R k65 65 W base (fun _ => True) v4 a.syms
  r5 : Kd.R k82 82 W base (fun _ => True) v5 a.rels
def zObj : Array Value := #[.string ⟨#[]⟩, .slice none 0 0, .int .i64 0, .slice none 0 0, .slice none 0 0, .slice none 0 0]
structure RdO (w0 W : World) (r p g q : Nat) (A : Option Addr) (c : Nat) (l : List Int) (a : RO) : Prop where
  rd : Rd w0 W r A c l a.rs
  ptr : W.heap[p]? = some (.cells #[.pointer (some ⟨r, 0, none⟩)] 93 (0, 0))
  res : W.heap[q]? = some (.cells zObj 27 (0, 0)) ∧ q ≠ g
  obj : ∃ v1 v3 v4 v5, OB4 W w0.heap.size g a v1 v3 v4 v5
  gb : w0.heap.size ≤ g
theorem ne_types {W : World} {p q : Nat} {cs ds : Array Value} {e f : TypeId} {x y : Nat × Nat} (h : W.heap[p]? = some (.cells cs e x)) (k : W.heap[q]? = some (.cells ds f y)) (hne : e ≠ f) : p ≠ q := fun z => by
 subst z
 rw [h] at k
 injection k with k
 injection k with _ k _
 exact hne k
theorem OB4.grown {W W1 : World} {base g r : Nat} {a : RO} {v1 v3 v4 v5 : Value} {cs : Array Value} {s : RS} (h : OB4 W base g a v1 v3 v4 v5) (hb : W.heap[r]? = some (.cells cs 97 (0, 0))) (k : W.grownBy W1 (some r)) : OB4 W1 base g { a with rs := s } v1 v3 v4 v5 :=
 ⟨(k.block g (blk_lt h.blk) (fun z => ne_types h.blk hb (by decide) (Option.some.inj z))).trans h.blk, Kd.R_grown1 h.r1 rfl k (Kd.R_ne h.r1 hb (by decide)), Kd.R_grown1 h.r3 rfl k (Kd.R_ne h.r3 hb (by decide)), Kd.R_grown1 h.r4 rfl k (Kd.R_ne h.r4 hb (by decide)), Kd.R_grown1 h.r5 rfl k (Kd.R_ne h.r5 hb (by decide))⟩
theorem OB4.below {W W1 : World} {base g : Nat} {a : RO} {v1 v3 v4 v5 : Value} (h : OB4 W base g a v1 v3 v4 v5) (k : Below W.heap.size W W1) : OB4 W1 base g a v1 v3 v4 v5 :=
 ⟨blk_below h.blk k, Kd.R_below h.r1 k, Kd.R_below h.r3 k, Kd.R_below h.r4 k, Kd.R_below h.r5 k⟩
theorem RdO.below {w0 W W1 : World} {r p g q : Nat} {A : Option Addr} {c : Nat} {l : List Int} {a : RO} (h : RdO w0 W r p g q A c l a) (k : Below W.heap.size W W1) : RdO w0 W1 r p g q A c l a := by
 obtain ⟨v1, v3, v4, v5, ho⟩ := h.obj
 exact ⟨h.rd.below k, blk_below h.ptr k, ⟨blk_below h.res.1 k, h.res.2⟩, ⟨v1, v3, v4, v5, ho.below k⟩, h.gb⟩
/-- the reader has been turned. -/
theorem RdO.step {w0 W W1 : World} {r p g q : Nat} {A : Option Addr} {c : Nat} {l : List Int} {a : RO} {s : RS} (h : RdO w0 W r p g q A c l a) (hr : Rd w0 W1 r A c l s) (k : W.grownBy W1 (some r)) : RdO w0 W1 r p g q A c l { a with rs := s } := by
 obtain ⟨v, hb, _⟩ := h.rd.blk
 obtain ⟨v1, v3, v4, v5, ho⟩ := h.obj
 exact ⟨hr, (k.block p (blk_lt h.ptr) (fun z => ne_types h.ptr hb (by decide) (Option.some.inj z))).trans h.ptr, ⟨(k.block q (blk_lt h.res.1) (fun z => ne_types h.res.1 hb (by decide) (Option.some.inj z))).trans h.res.1, h.res.2⟩, ⟨v1, v3, v4, v5, ho.grown hb k⟩, h.gb⟩
/-- a row has been appended to: nothing of another type is turned. -/
theorem Rd.row {α : Type} {d : Kd α} {e : TypeId} {w0 W W1 : World} {r : Nat} {A : Option Addr} {c : Nat} {l : List Int} {s : RS} {v : Value} {xs : List α} {base : Nat} {ok : Nat → Prop} (h : Rd w0 W r A c l s) (hR : d.R e W base ok v xs) (h1 : e ≠ 97) (h2 : e ≠ 107) (low : Below w0.heap.size w0 W1) (k : W.grownBy W1 v.ownBlock) : Rd w0 W1 r A c l s := by
 obtain ⟨u, hr, he⟩ := h.blk
 refine ⟨low, ⟨u, (k.block r (blk_lt hr) (Kd.R_ne hR hr h1)).trans hr, ?_⟩, h.base, h.at0, h.at1, h.at2⟩
 cases hs : s.er with
 | none => rw [hs] at he; exact he
 | some p =>
  rw [hs] at he
  obtain ⟨q, e1, e2, e3⟩ := he
  exact ⟨q, e1, e2, (k.block q (blk_lt e3) (Kd.R_ne hR e3 h2)).trans e3⟩
theorem info_u32 : (Tryz.prog.info? 78).map (fun i => (i.zero, i.size, i.bytes)) = some (some (.int .u32 0), 1, 4) := by kernel_rfl
theorem info_i64 : (Tryz.prog.info? 2).map (fun i => (i.zero, i.size, i.bytes)) = some (some (.int .i64 0), 1, 8) := by kernel_rfl
/-- the first row appended to, the object's second cell written. -/
theorem RdO.app1 {w0 W W1 : World} {r p g q : Nat} {A : Option Addr} {c : Nat} {l : List Int} {a : RO} {v1 v3 v4 v5 u : Value} {x : Int} (h : RdO w0 W r p g q A c l a) (ho : OB4 W w0.heap.size g a v1 v3 v4 v5) (hu : Kd.R (Kd.int .u32) 78 W1 w0.heap.size (fun _ => True) u (a.code ++ [x])) (low : Below w0.heap.size w0 W1) (k : W.grownBy W1 v1.ownBlock) :
    W1.heap[g]? = some (.cells #[.string a.nm, v1, .int .i64 a.dat, v3, v4, v5] 27 (0, 0)) ∧ RdO w0 (W1.setCell ⟨g, 1, none⟩ u) r p g q A c l { a with code := a.code ++ [x] } := by
  have hb : W1.heap[g]? = some (.cells #[.string a.nm, v1, .int .i64 a.dat, v3, v4, v5] 27 (0, 0)) := (k.block g (blk_lt ho.blk) (Kd.R_ne ho.r1 ho.blk (by decide))).trans ho.blk
  have hp := put_set (j := 1) (x := u) hb
  have hrd := h.rd.row ho.r1 (by decide) (by decide) low k
  have hpt : W1.heap[p]? = _ := (k.block p (blk_lt h.ptr) (Kd.R_ne ho.r1 h.ptr (by decide))).trans h.ptr
  have hq : W1.heap[q]? = _ := (k.block q (blk_lt h.res.1) (Kd.R_ne ho.r1 h.res.1 (by decide))).trans h.res.1
  have t1 := Kd.R_typed ho.r1
  have k3 := Kd.R_over' ho.r3 t1 (by decide) k
  have k4 := Kd.R_over' ho.r4 t1 (by decide) k
  have k5 := Kd.R_over' ho.r5 t1 (by decide) k
  have G := put_grownN hp
  exact ⟨hb, hrd.other hb (by decide) (by decide) h.gb G, (G.block p (blk_lt hpt) (fun z => ne_types hpt hb (by decide) (Option.some.inj z))).trans hpt, ⟨(G.block q (blk_lt hq) (fun z => h.res.2 (Option.some.inj z))).trans hq, h.res.2⟩, ⟨u, v3, v4, v5, hp.blk, Kd.R_grown1 hu rfl G (Kd.R_ne hu hb (by decide)), Kd.R_grown1 k3 rfl G (Kd.R_ne k3 hb (by decide)), Kd.R_grown1 k4 rfl G (Kd.R_ne k4 hb (by decide)), Kd.R_grown1 k5 rfl G (Kd.R_ne k5 hb (by decide))⟩, h.gb⟩
theorem RdO.app3 {w0 W W1 : World} {r p g q : Nat} {A : Option Addr} {c : Nat} {l : List Int} {a : RO} {v1 v3 v4 v5 u : Value} {x : Int} (h : RdO w0 W r p g q A c l a) (ho : OB4 W w0.heap.size g a v1 v3 v4 v5) (hu : Kd.R (Kd.int .i64) 2 W1 w0.heap.size (fun _ => True) u (a.data ++ [x])) (low : Below w0.heap.size w0 W1) (k : W.grownBy W1 v3.ownBlock) :
    W1.heap[g]? = some (.cells #[.string a.nm, v1, .int .i64 a.dat, v3, v4, v5] 27 (0, 0)) ∧ RdO w0 (W1.setCell ⟨g, 3, none⟩ u) r p g q A c l { a with data := a.data ++ [x] } := by
  have hb : W1.heap[g]? = some (.cells #[.string a.nm, v1, .int .i64 a.dat, v3, v4, v5] 27 (0, 0)) := (k.block g (blk_lt ho.blk) (Kd.R_ne ho.r3 ho.blk (by decide))).trans ho.blk
  have hp := put_set (j := 3) (x := u) hb
  have hrd := h.rd.row ho.r3 (by decide) (by decide) low k
  have hpt : W1.heap[p]? = _ := (k.block p (blk_lt h.ptr) (Kd.R_ne ho.r3 h.ptr (by decide))).trans h.ptr
  have hq : W1.heap[q]? = _ := (k.block q (blk_lt h.res.1) (Kd.R_ne ho.r3 h.res.1 (by decide))).trans h.res.1
  have t1 := Kd.R_typed ho.r3
  have k1 := Kd.R_over' ho.r1 t1 (by decide) k
  have k4 := Kd.R_over' ho.r4 t1 (by decide) k
  have k5 := Kd.R_over' ho.r5 t1 (by decide) k
  have G := put_grownN hp
  exact ⟨hb, hrd.other hb (by decide) (by decide) h.gb G, (G.block p (blk_lt hpt) (fun z => ne_types hpt hb (by decide) (Option.some.inj z))).trans hpt, ⟨(G.block q (blk_lt hq) (fun z => h.res.2 (Option.some.inj z))).trans hq, h.res.2⟩, ⟨v1, u, v4, v5, hp.blk, Kd.R_grown1 k1 rfl G (Kd.R_ne k1 hb (by decide)), Kd.R_grown1 hu rfl G (Kd.R_ne hu hb (by decide)), Kd.R_grown1 k4 rfl G (Kd.R_ne k4 hb (by decide)), Kd.R_grown1 k5 rfl G (Kd.R_ne k5 hb (by decide))⟩, h.gb⟩
set_option maxHeartbeats 8000000 in
set_option maxRecDepth 100000 in
theorem read1.calls (w0 W : World) (r p g q : Nat) (A : Option Addr) (c : Nat) (l : List Int) (a : RO) (h : RdO w0 W r p g q A c l a) (hC : Kd.C (Kd.int .u8) w0 A l.length l) (hcc : l.length ≤ c) (hl : l.length ≤ 1099511627776) (hby : ∀ x ∈ l, 0 ≤ x ∧ x < 256) (hn : a.code.length ≤ 16384) :
  Calls Tryz.prog 61 #[.pointer (some ⟨g, 0, none⟩), .pointer (some ⟨p, 0, none⟩)] W fun e w' => e = .returned (.tuple #[]) ∧ RdO w0 w' r p g q A c l { a with code := a.code ++ [(numR l 4 a.rs).1], rs := (numR l 4 a.rs).2 } := by
 have hu1 := Tryz.underlying27
 have H := Aside0.mk (h.below (below_drew (Below.refl _ _)))
 have HC := Aside0.mk hC
 have HCC := Aside0.mk hcc
 have HL := Aside0.mk hl
 have HBY := Aside0.mk hby
 have HN := Aside0.mk hn
 obtain ⟨v1, v3, v4, v5, ho⟩ := h.obj
 have HO := Aside0.mk (ho.below (below_drew (Below.refl _ _)))
 have hc1 : W.drew.cell? ⟨g, 1, none⟩ = some v1 := (blk_cell HO.out.blk 1).trans rfl
 have hcp : W.drew.cell? ⟨p, 0, none⟩ = some (.pointer (some ⟨r, 0, none⟩)) := (blk_cell H.out.ptr 0).trans rfl
 clear h hC hcc hl hby ho hn
 go_enter Tryz.func61, Tryz.ntmps61
 refine start_ (n := 8) (S := fun w' => w'.cell? ⟨g, 1, none⟩ = some v1 ∧ w'.cell? ⟨p, 0, none⟩ = some (.pointer (some ⟨r, 0, none⟩))) (ds := [7]) #[false, false, false, false, false, false, false, false] (by kernel_rfl) rfl rfl ⟨hc1, hcp⟩ (fun hHeld => ?_)
 generalize W.drew = wd at H HO hc1 hcp hHeld ⊢
 refine pure_ (i := 0) (N := some 2) (v := ?_) (a' := ?_) #[true, false, false, false, false, false, false, false] rfl rfl (by kernel_rfl) (fun _ _ _ h => h) (Or.inl ⟨by rfl, ?_⟩) ?_ ?_
 rotate_left
 ·
  intro w'
  go_simp
  with_reducible rfl
 rotate_left
 ·
  simp only [Act.put, List.setIfInBounds_toArray, List.set_cons_zero, List.set_cons_succ, i64_w, i32_w]
  rfl
 refine take_ (i := 1) (N := some 3) (v := ?_) (a' := ?_) #[true, true, false, false, false, false, false, false] rfl rfl (by kernel_rfl) (fun _ _ _ h => h) (Or.inl ⟨by rfl, ?_⟩) hHeld ?_ ?_
 rotate_left
 ·
  rintro w' ⟨s0, s1⟩
  go_simp
  with_reducible rfl
 rotate_left
 ·
  simp only [Act.put, List.setIfInBounds_toArray, List.set_cons_zero, List.set_cons_succ, i64_w, i32_w]
  rfl
 refine take_ (i := 2) (N := some 4) (v := ?_) (a' := ?_) #[true, true, true, false, false, false, false, false] rfl rfl (by kernel_rfl) (fun _ _ _ h => h) (Or.inl ⟨by rfl, ?_⟩) hHeld ?_ ?_
 rotate_left
 ·
  rintro w' ⟨s0, s1⟩
  go_simp
  with_reducible rfl
 rotate_left
 ·
  simp only [Act.put, List.setIfInBounds_toArray, List.set_cons_zero, List.set_cons_succ, i64_w, i32_w]
  rfl
 refine one_ (i := 3) (N := some 5) #[true, true, true, true, false, false, false, false] rfl rfl (by kernel_rfl) (by decide) (fun K hK => ?_)
 refine call_ 62 #[.pointer (some ⟨r, 0, none⟩), .int .i64 4] rfl rfl (by first | rfl | (go_simp; done) | (go_simp; rfl)) ?_
 refine (num32.calls w0 _ r A c l a.rs H.out.rd HC.out HCC.out HL.out HBY.out).mono ?_
 rintro e_ w1 ⟨rfl, hr_, hg_⟩
 refine ⟨_, rfl, ?_⟩
 obtain ⟨v, hbr, _⟩ := H.out.rd.blk
 have H1 := Aside0.mk (H.out.step hr_ hg_)
 have HO1 := Aside0.mk (HO.out.grown (s := (numR l 4 a.rs).2) hbr hg_)
 have hd1 : w1.cell? ⟨g, 1, none⟩ = some v1 := (blk_cell HO1.out.blk 1).trans rfl
 have hdp : w1.cell? ⟨p, 0, none⟩ = some (.pointer (some ⟨r, 0, none⟩)) := (blk_cell H1.out.ptr 0).trans rfl
 refine hK.out _ _ ⟨hd1, hdp⟩ (fun hHeld => ?_)
 clear hr_ hg_ hbr H HO hc1 hcp
 clear hK K
 refine norm_ (a' := ?_) ?_ ?_
 rotate_left
 ·
  show Act.put _ (some 5) _ = _
  simp only [Act.put, List.setIfInBounds_toArray, List.set_cons_zero, List.set_cons_succ, i64_w, i32_w]
  rfl
 refine one_ (i := 4) (N := some 6) #[true, true, true, true, true, false, false, false] rfl rfl (by kernel_rfl) (by decide) (fun K hK => ?_)
 refine value_ (w1 := ?_) (v := ?_) (by rfl) rfl ?_ ?_
 rotate_left 2
 ·
  go_simp
  constructor
  ·
   rfl
  ·
   rfl
 refine hK.out _ _ ⟨(World.cell?_alloc_lt _ _ _ (World.block_lt_of_cell? _ _ hd1)).trans hd1, (World.cell?_alloc_lt _ _ _ (World.block_lt_of_cell? _ _ hdp)).trans hdp⟩ (fun hHeld => ?_)
 clear hK K
 refine norm_ (a' := ?_) ?_ ?_
 rotate_left
 ·
  show Act.put _ (some 6) _ = _
  simp only [Act.put, List.setIfInBounds_toArray, List.set_cons_zero, List.set_cons_succ, i64_w, i32_w]
  rfl
 refine one_ (i := 5) (N := some 7) #[true, true, true, true, true, true, false, false] rfl rfl (by kernel_rfl) (by decide) (fun K hK => ?_)
 refine Kd.R_append_step (Kd.int .u32) (w0 := w0) w0.heap.size rfl (.tmp 3) (.tmp 6) 22 78 (.int .u32 0) 4 rfl Tryz.underlying22 info_u32 rfl (by decide) (by decide) v1 a.code ((numR l 4 a.rs).1) [(.int .u32 ((numR l 4 a.rs).1))] (fun _ => True) (fun _ => False) rfl rfl rfl (fun _ hk => hk.elim) (fun _ _ => trivial) HO1.out.r1 H1.out.rd.low H1.out.rd.low.size (by have := HN.out; omega) ?_
 intro u w2 hu2 hlow hgr _
 obtain ⟨Ao, co, eo⟩ := Kd.R_slice hu2
 obtain ⟨nn, hnn⟩ : ∃ nn, nn = (a.code ++ [(numR l 4 a.rs).1]).length := ⟨_, rfl⟩
 rw [← hnn] at eo
 subst eo
 have hx := RdO.app1 H1.out HO1.out hu2 hlow hgr
 have HX := Aside0.mk hx.2
 have hz1 : w2.cell? ⟨g, 1, none⟩ = some v1 := (blk_cell hx.1 1).trans rfl
 have hzf := blk_frozen hx.1 1
 have hpt2 : w2.heap[p]? = _ := (hgr.block p (blk_lt H1.out.ptr) (Kd.R_ne HO1.out.r1 H1.out.ptr (by decide))).trans H1.out.ptr
 have hzp : w2.cell? ⟨p, 0, none⟩ = some (.pointer (some ⟨r, 0, none⟩)) := (blk_cell hpt2 0).trans rfl
 refine hK.out _ _ ⟨hz1, hzp⟩ (fun hHeld => ?_)
 clear hlow hgr hx hd1 hdp hpt2 hu2 hnn
 clear hK K
 refine norm_ (a' := ?_) ?_ ?_
 rotate_left
 ·
  show Act.put _ (some 7) _ = _
  simp only [Act.put, List.setIfInBounds_toArray, List.set_cons_zero, List.set_cons_succ, i64_w, i32_w]
  rfl
 refine pure_ (i := 6) (N := some 8) (v := ?_) (a' := ?_) #[true, true, true, true, true, true, true, false] rfl rfl (by kernel_rfl) (fun _ _ _ h => h) (Or.inl ⟨by rfl, ?_⟩) ?_ ?_
 rotate_left
 ·
  intro w'
  go_simp
  with_reducible rfl
 rotate_left
 ·
  simp only [Act.put, List.setIfInBounds_toArray, List.set_cons_zero, List.set_cons_succ, i64_w, i32_w]
  rfl
 refine last_ (i := 7) (N := none) #[true, true, true, true, true, true, true, true] rfl rfl (by kernel_rfl) (by decide) (fun K hK => ?_)
 refine skip_ (w1 := ?_) (by rfl) rfl ?_ ?_
 rotate_left
 ·
  go_simp
  rfl
 refine hK.out _ _ ?_
 clear hK K
 refine done_ (by kernel_rfl) ?_
 refine Go.Great.bodyPost_end0 rfl rfl ?_
 exact ⟨rfl, HX.out⟩
set_option maxHeartbeats 8000000 in
set_option maxRecDepth 100000 in
theorem read2.calls (w0 W : World) (r p g q : Nat) (A : Option Addr) (c : Nat) (l : List Int) (a : RO) (h : RdO w0 W r p g q A c l a) (hC : Kd.C (Kd.int .u8) w0 A l.length l) (hcc : l.length ≤ c) (hl : l.length ≤ 1099511627776) (hby : ∀ x ∈ l, 0 ≤ x ∧ x < 256) (hn : a.data.length ≤ 16384) :
  Calls Tryz.prog 63 #[.pointer (some ⟨g, 0, none⟩), .pointer (some ⟨p, 0, none⟩)] W fun e w' => e = .returned (.tuple #[]) ∧ RdO w0 w' r p g q A c l { a with data := a.data ++ [wrap64 (numR l 8 a.rs).1], rs := (numR l 8 a.rs).2 } := by
 have hu1 := Tryz.underlying27
 have H := Aside0.mk (h.below (below_drew (Below.refl _ _)))
 have HC := Aside0.mk hC
 have HCC := Aside0.mk hcc
 have HL := Aside0.mk hl
 have HBY := Aside0.mk hby
 have HN := Aside0.mk hn
 obtain ⟨v1, v3, v4, v5, ho⟩ := h.obj
 have HO := Aside0.mk (ho.below (below_drew (Below.refl _ _)))
 have hc1 : W.drew.cell? ⟨g, 3, none⟩ = some v3 := (blk_cell HO.out.blk 3).trans rfl
 have hcp : W.drew.cell? ⟨p, 0, none⟩ = some (.pointer (some ⟨r, 0, none⟩)) := (blk_cell H.out.ptr 0).trans rfl
 clear h hC hcc hl hby ho hn
 go_enter Tryz.func63, Tryz.ntmps63
 refine start_ (n := 8) (S := fun w' => w'.cell? ⟨g, 3, none⟩ = some v3 ∧ w'.cell? ⟨p, 0, none⟩ = some (.pointer (some ⟨r, 0, none⟩))) (ds := [7]) #[false, false, false, false, false, false, false, false] (by kernel_rfl) rfl rfl ⟨hc1, hcp⟩ (fun hHeld => ?_)
 generalize W.drew = wd at H HO hc1 hcp hHeld ⊢
 refine pure_ (i := 0) (N := some 2) (v := ?_) (a' := ?_) #[true, false, false, false, false, false, false, false] rfl rfl (by kernel_rfl) (fun _ _ _ h => h) (Or.inl ⟨by rfl, ?_⟩) ?_ ?_
 rotate_left
 ·
  intro w'
  go_simp
  with_reducible rfl
 rotate_left
 ·
  simp only [Act.put, List.setIfInBounds_toArray, List.set_cons_zero, List.set_cons_succ, i64_w, i32_w]
  rfl
 refine take_ (i := 1) (N := some 3) (v := ?_) (a' := ?_) #[true, true, false, false, false, false, false, false] rfl rfl (by kernel_rfl) (fun _ _ _ h => h) (Or.inl ⟨by rfl, ?_⟩) hHeld ?_ ?_
 rotate_left
 ·
  rintro w' ⟨s0, s1⟩
  go_simp
  with_reducible rfl
 rotate_left
 ·
  simp only [Act.put, List.setIfInBounds_toArray, List.set_cons_zero, List.set_cons_succ, i64_w, i32_w]
  rfl
 refine take_ (i := 2) (N := some 4) (v := ?_) (a' := ?_) #[true, true, true, false, false, false, false, false] rfl rfl (by kernel_rfl) (fun _ _ _ h => h) (Or.inl ⟨by rfl, ?_⟩) hHeld ?_ ?_
 rotate_left
 ·
  rintro w' ⟨s0, s1⟩
  go_simp
  with_reducible rfl
 rotate_left
 ·
  simp only [Act.put, List.setIfInBounds_toArray, List.set_cons_zero, List.set_cons_succ, i64_w, i32_w]
  rfl
 refine one_ (i := 3) (N := some 5) #[true, true, true, true, false, false, false, false] rfl rfl (by kernel_rfl) (by decide) (fun K hK => ?_)
 refine call_ 64 #[.pointer (some ⟨r, 0, none⟩), .int .i64 8] rfl rfl (by first | rfl | (go_simp; done) | (go_simp; rfl)) ?_
 refine (num64.calls w0 _ r A c l a.rs H.out.rd HC.out HCC.out HL.out HBY.out).mono ?_
 rintro e_ w1 ⟨rfl, hr_, hg_⟩
 refine ⟨_, rfl, ?_⟩
 obtain ⟨v, hbr, _⟩ := H.out.rd.blk
 have H1 := Aside0.mk (H.out.step hr_ hg_)
 have HO1 := Aside0.mk (HO.out.grown (s := (numR l 8 a.rs).2) hbr hg_)
 have hd1 : w1.cell? ⟨g, 3, none⟩ = some v3 := (blk_cell HO1.out.blk 3).trans rfl
 have hdp : w1.cell? ⟨p, 0, none⟩ = some (.pointer (some ⟨r, 0, none⟩)) := (blk_cell H1.out.ptr 0).trans rfl
 refine hK.out _ _ ⟨hd1, hdp⟩ (fun hHeld => ?_)
 clear hr_ hg_ hbr H HO hc1 hcp
 clear hK K
 refine norm_ (a' := ?_) ?_ ?_
 rotate_left
 ·
  show Act.put _ (some 5) _ = _
  simp only [Act.put, List.setIfInBounds_toArray, List.set_cons_zero, List.set_cons_succ, i64_w, i32_w]
  rfl
 refine one_ (i := 4) (N := some 6) #[true, true, true, true, true, false, false, false] rfl rfl (by kernel_rfl) (by decide) (fun K hK => ?_)
 refine value_ (w1 := ?_) (v := ?_) (by rfl) rfl ?_ ?_
 rotate_left 2
 ·
  go_simp
  constructor
  ·
   rfl
  ·
   rfl
 refine hK.out _ _ ⟨(World.cell?_alloc_lt _ _ _ (World.block_lt_of_cell? _ _ hd1)).trans hd1, (World.cell?_alloc_lt _ _ _ (World.block_lt_of_cell? _ _ hdp)).trans hdp⟩ (fun hHeld => ?_)
 clear hK K
 refine norm_ (a' := ?_) ?_ ?_
 rotate_left
 ·
  show Act.put _ (some 6) _ = _
  simp only [Act.put, List.setIfInBounds_toArray, List.set_cons_zero, List.set_cons_succ, i64_w, i32_w]
  rfl
 refine one_ (i := 5) (N := some 7) #[true, true, true, true, true, true, false, false] rfl rfl (by kernel_rfl) (by decide) (fun K hK => ?_)
 refine Kd.R_append_step (Kd.int .i64) (w0 := w0) w0.heap.size rfl (.tmp 3) (.tmp 6) 23 2 (.int .i64 0) 8 rfl Tryz.underlying23 info_i64 rfl (by decide) (by decide) v3 a.data (wrap64 (numR l 8 a.rs).1) [(.int .i64 (wrap64 (numR l 8 a.rs).1))] (fun _ => True) (fun _ => False) rfl rfl rfl (fun _ hk => hk.elim) (fun _ _ => trivial) HO1.out.r3 H1.out.rd.low H1.out.rd.low.size (by have := HN.out; omega) ?_
 intro u w2 hu2 hlow hgr _
 obtain ⟨Ao, co, eo⟩ := Kd.R_slice hu2
 obtain ⟨nn, hnn⟩ : ∃ nn, nn = (a.data ++ [wrap64 (numR l 8 a.rs).1]).length := ⟨_, rfl⟩
 rw [← hnn] at eo
 subst eo
 have hx := RdO.app3 H1.out HO1.out hu2 hlow hgr
 have HX := Aside0.mk hx.2
 have hz1 : w2.cell? ⟨g, 3, none⟩ = some v3 := (blk_cell hx.1 3).trans rfl
 have hzf := blk_frozen hx.1 3
 have hpt2 : w2.heap[p]? = _ := (hgr.block p (blk_lt H1.out.ptr) (Kd.R_ne HO1.out.r3 H1.out.ptr (by decide))).trans H1.out.ptr
 have hzp : w2.cell? ⟨p, 0, none⟩ = some (.pointer (some ⟨r, 0, none⟩)) := (blk_cell hpt2 0).trans rfl
 refine hK.out _ _ ⟨hz1, hzp⟩ (fun hHeld => ?_)
 clear hlow hgr hx hd1 hdp hpt2 hu2 hnn
 clear hK K
 refine norm_ (a' := ?_) ?_ ?_
 rotate_left
 ·
  show Act.put _ (some 7) _ = _
  simp only [Act.put, List.setIfInBounds_toArray, List.set_cons_zero, List.set_cons_succ, i64_w, i32_w]
  rfl
 refine pure_ (i := 6) (N := some 8) (v := ?_) (a' := ?_) #[true, true, true, true, true, true, true, false] rfl rfl (by kernel_rfl) (fun _ _ _ h => h) (Or.inl ⟨by rfl, ?_⟩) ?_ ?_
 rotate_left
 ·
  intro w'
  go_simp
  with_reducible rfl
 rotate_left
 ·
  simp only [Act.put, List.setIfInBounds_toArray, List.set_cons_zero, List.set_cons_succ, i64_w, i32_w]
  rfl
 refine last_ (i := 7) (N := none) #[true, true, true, true, true, true, true, true] rfl rfl (by kernel_rfl) (by decide) (fun K hK => ?_)
 refine skip_ (w1 := ?_) (by rfl) rfl ?_ ?_
 rotate_left
 ·
  go_simp
  rfl
 refine hK.out _ _ ?_
 clear hK K
 refine done_ (by kernel_rfl) ?_
 refine Go.Great.bodyPost_end0 rfl rfl ?_
 exact ⟨rfl, HX.out⟩
end Go.Proofs.YtiaohbbafaaibabGreatDoor.P
