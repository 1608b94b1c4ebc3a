/- OWN TEXT and printed parts of this claim, laid together: HObjR, P5, HObj. -/
import Derived.Test.YtiaohbbafaaibabZrM3
import Derived.Test.YtiaohbbafaaibabZrM0
import Derived.Test.YtiaohbbafaaibabZrM1
import Derived.Handy
/- OWN TEXT: what object.relocs comes to (it marks places in an array, which the print does not take). -/
namespace Go.Proofs.Ytiaohbbafaaibab.P
open Go.RowKit Go.Maps Go.Proofs.YtiaohbbafaaibabW.PrintWords Go.Proofs.YtiaohbbafaaibabW.PrintLast Go.Proofs.YtiaohbbafaaibabW.PrintMore Go.Proofs.Ytiaohbbafaaibab.Arr Go.Proofs.Ytiaohbbafaaibab.MapB
set_option linter.unusedVariables false
set_option linter.unusedSimpArgs false

def aggOf : Option Value → Array Value | some (.agg a) => a | _ => #[]
def isF : Value → Bool | .bool false => true | _ => false
def allF : List Value → Nat → Bool
 | [], 0 => true
 | [], _ + 1 => false
 | _ :: _, 0 => false
 | a :: l, n + 1 => isF a && allF l n
theorem allF_len : ∀ {l : List Value} {n : Nat}, allF l n = true → l.length = n ∧ ∀ k, k < n → l[k]? = some (.bool false)
  | [], 0, _ => ⟨rfl, fun k hk => by omega⟩
  | a :: l, n + 1, h => by
    unfold allF at h
    rw [Bool.and_eq_true] at h
    have IH := allF_len h.2
    refine ⟨by simp [IH.1], fun k hk => ?_⟩
    cases k with
    | zero =>
      have := h.1
      unfold isF at this
      split at this
      · rfl
      · cases this
    | succ k => simpa using IH.2 k (by omega)
theorem zMark_all : allF (aggOf Try.t91.zero).toList 16384 = true := by kernel_rfl
theorem run_mark (w : World) : (Instr.alloc 91 true (.tuple #[])).run Try.prog w = .ok (.pointer (some ⟨w.heap.size, 0, none⟩)) (w.alloc (.cells (aggOf Try.t91.zero) 91)) := by kernel_rfl
def Named (W : World) (g : Nat) (N : Nat → Bool) : Prop := ∃ Z : Array Value, W.heap[g]? = some (.cells Z 91 (0, 0)) ∧ Z.size = 16384 ∧ ∀ k, k < 16384 → Z[k]? = some (.bool (N k))
theorem mark_zero : ∃ Z : Array Value, allF Z.toList 16384 = true ∧ ∀ w : World, (Instr.alloc 91 true (.tuple #[])).run Try.prog w = .ok (.pointer (some ⟨w.heap.size, 0, none⟩)) (w.alloc (.cells Z 91)) := ⟨_, zMark_all, run_mark⟩
theorem exec_mark {Z : Array Value} (hrun : ∀ w : World, (Instr.alloc 91 true (.tuple #[])).run Try.prog w = .ok (.pointer (some ⟨w.heap.size, 0, none⟩)) (w.alloc (.cells Z 91))) {ev : Operand → Value} {o : Oper} (ho : o.op = .alloc 91) (W : World) :
  (execOp ev o).run Try.prog W = .ok (.value (.pointer (some ⟨W.heap.size, 0, none⟩))) (W.alloc (.cells Z 91)) := by
 unfold execOp
 rw [ho]
 simp only [Sem.run_bind, hrun, Result.andThen_ok, Sem.run_pure]
theorem Named.start {W : World} {g : Nat} {Z : Array Value} (hZ : allF Z.toList 16384 = true) (h : W.heap[g]? = some (.cells Z 91 (0, 0))) : Named W g (fun _ => false) := by
 obtain ⟨h1, h2⟩ := allF_len hZ
 exact ⟨_, h, by rw [← h1]; simp, fun k hk => by rw [← h2 k hk]; simp⟩
theorem Named.cell {W : World} {g : Nat} {N : Nat → Bool} (h : Named W g N) {k : Nat} (hk : k < 16384) : W.cell? ⟨g, k, none⟩ = some (.bool (N k)) := by
 obtain ⟨Z, h1, h2, h3⟩ := h
 rw [blk_cell h1 k, h3 k hk]
structure OR (w W : World) (gb : Nat) (oi : Obj) (gr gn : Nat) (N : Nat → Bool) : Prop where
  low : Below w.heap.size w W
  obj : W.heap[gb]? = some oi
  res : W.heap[gr]? = some (ansCell 0 0)
  nam : Named W gn N
  n1 : gb ≠ gn
  n2 : gr ≠ gn
  g1 : w.heap.size ≤ gr
  g2 : w.heap.size ≤ gn
theorem Named.grown {W W1 : World} {g : Nat} {N : Nat → Bool} {row : Option Nat} (h : Named W g N) (hg : W.grownBy W1 row) (hne : some g ≠ row) : Named W1 g N := by
 obtain ⟨Z, h1, h2, h3⟩ := h
 exact ⟨Z, blk_grown h1 hg hne, h2, h3⟩
theorem OR.below {w W W1 : World} {gb gr gn : Nat} {oi : Obj} {N : Nat → Bool} (h : OR w W gb oi gr gn N) (hb : Below W.heap.size W W1) : OR w W1 gb oi gr gn N :=
 ⟨below_then h.low h.low.size hb, blk_below h.obj hb, blk_below h.res hb, h.nam.grown (grown_of_below hb none) (by simp), h.n1, h.n2, h.g1, h.g2⟩
theorem OR.grown {w W W1 : World} {gb gr gn g : Nat} {oi : Obj} {N : Nat → Bool} (h : OR w W gb oi gr gn N) (hg : W.grownBy W1 (some g)) (hw : w.heap.size ≤ g) (h1 : gb ≠ g) (h2 : gr ≠ g) (h3 : gn ≠ g) : OR w W1 gb oi gr gn N :=
 ⟨pw_below_grown h.low (some g) h.low.size hg (fun k hk => by have := Option.some.inj hk; omega), blk_grown h.obj hg (fun e => h1 (Option.some.inj e)), blk_grown h.res hg (fun e => h2 (Option.some.inj e)), h.nam.grown hg (fun e => h3 (Option.some.inj e)), h.n1, h.n2, h.g1, h.g2⟩
theorem OR.mark {w W W1 : World} {gb gr gn : Nat} {oi : Obj} {N : Nat → Bool} (h : OR w W gb oi gr gn N) {Z : Array Value} {j : Nat} (hz : Z.size = 16384) (hN : ∀ k, k < 16384 → Z[k]? = some (.bool (N k))) (hj : j < 16384) (hp : Put W W1 gn (Z.setIfInBounds j (.bool true)) 91) : OR w W1 gb oi gr gn (fun k => decide (k = j) || N k) :=
  ⟨hp.below h.low h.g2, blk_grown h.obj (put_grownN hp) (fun e => h.n1 (Option.some.inj e)), blk_grown h.res (put_grownN hp) (fun e => h.n2 (Option.some.inj e)),
   ⟨_, hp.blk, by simp [hz], fun k hk => by
      by_cases e : k = j
      · subst e; simp [hz, hj]
      · rw [Array.getElem?_setIfInBounds_ne (by omega), hN k hk]; simp [e]⟩, h.n1, h.n2, h.g1, h.g2⟩
theorem rel_one (a b : Int) : ((#[.int .i64 a, .int .i64 b] : Array Value).all fun v => v.oneCell') = true := by kernel_rfl
theorem bool_one (W : World) : (sizeOf 4).run Try.prog W = .ok 1 W := by kernel_rfl
theorem relE_eq (code : List Int) (ns : Int) (l : List Rel) (i : Nat) : relE code ns l i = if (rl l i).f0 ≤ lastR l i then 24 else if (rl l i).f0 ≥ (code.length : Int) then 24 else if (rl l i).f1 < 0 then 24 else if (rl l i).f1 ≥ ns then 24 else if (tgtS (rd code (rl l i).f0)).2 = true then (if (tgtS (rd code (rl l i).f0)).1 = 0 then 0 else 24) else 24 := rfl
theorem scanE_eq (code : List Int) (named : Nat → Bool) (k : Nat) : scanE code named k = if (tgtS (rd code (k : Int))).2 = true then (if named k = true then 0 else if (tgtS (rd code (k : Int))).1 > (code.length : Int) then 22 else 0) else 0 := rfl
theorem firstS_at {g : Nat → Int} {n i : Nat} (hi : i < n) (hz : ∀ j, j < i → g j = 0) (hne : g i ≠ 0) : firstS g n n = (g i, (i : Int)) := by
  have : ∀ d j, j + d = i → firstS g n (n - j) = (g i, (i : Int)) := by
    intro d
    induction d with
    | zero => intro j hj; obtain rfl : j = i := by omega
              rw [firstS_step g hi, if_neg hne]
    | succ d ih => intro j hj; rw [firstS_step g (by omega), if_pos (hz j (by omega))]; exact ih (j + 1) (by omega)
  exact this i 0 (by omega)
theorem firstS_zero {g : Nat → Int} {n : Nat} (hz : ∀ j, j < n → g j = 0) : firstS g n n = (0, 0) := by
 have : ∀ d, d ≤ n → firstS g n d = (0, 0) := by
  intro d
  induction d with
  | zero => intro _; rfl
  | succ d ih => intro hd; unfold firstS; rw [if_pos (hz _ (by omega))]; exact ih (by omega)
 exact this n (Nat.le_refl _)
theorem scanS_at {g : Nat → Int} {n i : Nat} (hi : i < n) (hz : ∀ j, j < i → g j = 0) (hne : g i ≠ 0) : scanS g n n = (g i, -1 - (i : Int)) := by
  have : ∀ d j, j + d = i → scanS g n (n - j) = (g i, -1 - (i : Int)) := by
    intro d
    induction d with
    | zero => intro j hj; obtain rfl : j = i := by omega
              rw [scanS_step g hi, if_neg hne]
    | succ d ih => intro j hj; rw [scanS_step g (by omega), if_pos (hz j (by omega))]; exact ih (j + 1) (by omega)
  exact this i 0 (by omega)
theorem scanS_zero {g : Nat → Int} {n : Nat} (hz : ∀ j, j < n → g j = 0) : scanS g n n = (0, 0) := by
 have : ∀ d, d ≤ n → scanS g n d = (0, 0) := by
  intro d
  induction d with
  | zero => intro _; rfl
  | succ d ih => intro hd; unfold scanS; rw [if_pos (hz _ (by omega))]; exact ih (by omega)
 exact this n (Nat.le_refl _)
theorem relocs_first {code : List Int} {ns : Int} {l : List Rel} {i : Nat} (hz : ∀ j, j < i → relE code ns l j = 0) (hi : i < l.length) (hne : relE code ns l i ≠ 0) : relocsS code ns l = (relE code ns l i, (i : Int)) := by
 unfold relocsS
 rw [firstS_at hi hz hne, if_neg hne]
theorem relocs_scan {code : List Int} {ns : Int} {l : List Rel} (hz : ∀ j, j < l.length → relE code ns l j = 0) : relocsS code ns l = scanS (scanE code (markB l l.length)) code.length code.length := by
 unfold relocsS
 rw [firstS_zero hz, if_pos rfl]
theorem Named.cell' {W : World} {g : Nat} {N : Nat → Bool} (h : Named W g N) {k : Nat} (hk : k < 16384) {b : Bool} (e : N k = b) : W.cell? ⟨g, k, none⟩ = some (.bool b) := e ▸ h.cell hk
theorem lastR_lo (code : List Int) (ns : Int) (l : List Rel) : ∀ i, (∀ j, j < i → relE code ns l j = 0) → -1 ≤ lastR l i
  | 0, _ => Int.le_refl _
  | i + 1, h => by
    have h1 := h i (by omega)
    have IH := lastR_lo code ns l i (fun j hj => h j (by omega))
    show -1 ≤ (rl l i).f0
    rw [relE_eq] at h1
    split at h1
    · cases h1
    · omega

set_option maxHeartbeats 8000000 in
set_option maxRecDepth 100000 in
theorem object_relocs.calls (a0_0 : ByteArray) (A0_1 : Option Addr) (c0_1 : Nat) (l0_1 : List Int) (a0_2 : Int) (A0_3 : Option Addr) (c0_3 : Nat) (l0_3 : List Int) (A0_4 : Option Addr) (c0_4 : Nat) (l0_4 : List (S37)) (A0_5 : Option Addr) (c0_5 : Nat) (l0_5 : List (S41)) (r1 r2 : Int) (w : World) (hr0_1 : Kd.C (Kd.int .u32) w A0_1 l0_1.length l0_1) (hc0_1 : l0_1.length ≤ c0_1) (hr0_3 : Kd.C (Kd.int .i64) w A0_3 l0_3.length l0_3) (hc0_3 : l0_3.length ≤ c0_3) (hr0_4 : Kd.C k37 w A0_4 l0_4.length l0_4) (hc0_4 : l0_4.length ≤ c0_4) (hr0_5 : Kd.C k41 w A0_5 l0_5.length l0_5) (hc0_5 : l0_5.length ≤ c0_5) (hw : wordsO l0_1 = true) (hl : l0_1.length ≤ 16384) (hl5 : l0_5.length ≤ 1000000) (h : relocsS l0_1 (l0_4.length : Int) l0_5 = (r1, r2)) :
    Calls Try.prog 30 #[.agg #[.string a0_0, .slice A0_1 l0_1.length c0_1, .int .i64 a0_2, .slice A0_3 l0_3.length c0_3, .slice A0_4 l0_4.length c0_4, .slice A0_5 l0_5.length c0_5]] w fun e w' => e = .returned (.agg #[.int .i64 r1, .int .i64 r2]) ∧ Below w.heap.size w w' := by
  have hu1 := Try.underlying27
  have hu2 := Try.underlying67
  have hu3 := Try.underlying41
  have hu4 := Try.underlying91
  have HR := Aside0.mk hr0_5
  have HC := Aside0.mk hr0_1
  have HW := Aside0.mk hw
  clear hr0_1 hc0_1 hr0_3 hc0_3 hr0_4 hc0_4 hr0_5 hc0_5 hw
  have HH := Aside0.mk h
  obtain ⟨Z0, hZ0, hrz⟩ := mark_zero
  have HZ0 := Aside0.mk hZ0
  have HRZ := Aside0.mk hrz
  clear hZ0 hrz
  clear h
  go_enter Try.func30, Try.ntmps30
  go_wp2_with (first | ((with_reducible refine gate_dst (N := 1) rfl ?_); refine box_event ?hg (N := 1) ?hd (cs := #[.string a0_0, .slice A0_1 l0_1.length c0_1, .int .i64 a0_2, .slice A0_3 l0_3.length c0_3, .slice A0_4 l0_4.length c0_4, .slice A0_5 l0_5.length c0_5]) (t := 27) ?hr ?_; (case hd => rfl); (case hg => rfl); (case hr => first | (go_simp; done) | (go_simp; rfl)); intro gb hgb w1 BK1 hb1; have HB := Aside0.mk (below_then (Below.refl w.heap.size w) (Nat.le_refl _) hb1); have BO := Aside0.mk (show w1.heap[gb]? = some (objCell a0_0 A0_1 l0_1.length c0_1 a0_2 A0_3 l0_3.length c0_3 A0_4 l0_4.length c0_4 A0_5 l0_5.length c0_5) from BK1); clear BK1 hb1 hgb) | ((with_reducible refine gate_dst (N := 2) rfl ?_); refine box_event ?hg (N := 2) ?hd (cs := #[.int .i64 0, .int .i64 0]) (t := 67) ?hr ?_; (case hd => rfl); (case hg => rfl); (case hr => first | (go_simp; done) | (go_simp; rfl)); intro gr hgr w2 BK2 hb2; have G1 := Aside0.mk (show w.heap.size ≤ gr by rw [hgr]; exact HB.out.size); have L1 := Aside0.mk (show gb < gr by rw [hgr]; exact blk_lt BO.out); have HBn := Aside0.mk (below_then HB.out HB.out.size hb2); have BOn := Aside0.mk (blk_below BO.out hb2); have BR := Aside0.mk (show w2.heap[gr]? = some (ansCell 0 0) from BK2); clear HB BO BK2 hb2 hgr; have HB := HBn; have BO := BOn; clear HBn BOn) | ((with_reducible refine gate_dst (N := 3) rfl ?_); refine box_event ?hg (N := 3) ?hd (cs := Z0) (t := 91) ?hr ?_; (case hd => rfl); (case hg => rfl); (case hr => exact exec_mark HRZ.out rfl _); intro gn hgn w3 BK3 hb3; have HO := Aside0.mk (show OR w w3 gb (objCell a0_0 A0_1 l0_1.length c0_1 a0_2 A0_3 l0_3.length c0_3 A0_4 l0_4.length c0_4 A0_5 l0_5.length c0_5) gr gn (fun _ => false) from ⟨below_then HB.out HB.out.size hb3, blk_below BO.out hb3, blk_below BR.out hb3, Named.start HZ0.out BK3, by rw [hgn]; exact Nat.ne_of_lt (blk_lt BO.out), by rw [hgn]; exact Nat.ne_of_lt (blk_lt BR.out), G1.out, by rw [hgn]; exact HB.out.size⟩); clear HB BO BR hb3 BK3 hgn; have hco1 := blk_cell HO.out.obj 1; have hco4 := blk_cell HO.out.obj 4; have hco5 := blk_cell HO.out.obj 5))
  go_loopw [4, 16] (fun u4 u16 wr => ∃ i : Nat, u16 = .int .i64 (i : Int) ∧ u4 = .int .i64 (lastR l0_5 i) ∧ i ≤ l0_5.length ∧ Aside0 (∀ j, j < i → relE l0_1 (l0_4.length : Int) l0_5 j = 0) ∧ Aside0 (OR w wr gb (objCell a0_0 A0_1 l0_1.length c0_1 a0_2 A0_3 l0_3.length c0_3 A0_4 l0_4.length c0_4 A0_5 l0_5.length c0_5) gr gn (markB l0_5 i))) (fun _ u16 _ => l0_5.length - (intOf u16).toNat)
  case atStart => exact ⟨0, rfl, rfl, Nat.zero_le _, ⟨fun j hj => absurd hj (Nat.not_lt_zero _)⟩, HO⟩
  case round =>
    clear HO hco1 hco4 hco5
    obtain ⟨i, rfl, rfl, hile, HZ, HO⟩ := hrel
    have hco1 := blk_cell HO.out.obj 1; have hco4 := blk_cell HO.out.obj 4; have hco5 := blk_cell HO.out.obj 5
    by_cases hlt : i < l0_5.length
    · have hse := relE_eq l0_1 (l0_4.length : Int) l0_5 i
      have HFirst := Aside0.mk (fun (hne : relE l0_1 (l0_4.length : Int) l0_5 i ≠ 0) => relocs_first (code := l0_1) (ns := (l0_4.length : Int)) HZ.out hlt hne)
      have hmk : markB l0_5 (i + 1) = fun k => decide (k = (rl l0_5 i).f0.toNat) || markB l0_5 i k := rfl
      have hla : lastR l0_5 (i + 1) = (rl l0_5 i).f0 := rfl
      have hlo := lastR_lo _ _ _ i HZ.out
      have p0 : (0 : Int) ≤ (i : Int) := by omega
      have q0 : (i : Int) < (l0_5.length : Int) := by omega
      obtain ⟨ad, eA, hx0, hx1⟩ := at_T41 HR.out (i : Int) p0 q0
      subst eA
      rw [show ((i : Int)).toNat = i by omega] at hx0 hx1
      have hy0 := (HO.out.low.cell (World.block_lt_of_cell? w _ hx0)).trans hx0
      have hy1 := (HO.out.low.cell (World.block_lt_of_cell? w _ hx1)).trans hx1
      clear hx0 hx1
      rw [show rd_T41 l0_5 (i : Int) = rl l0_5 i from rfl] at hy0 hy1
      have hre : relE l0_1 (l0_4.length : Int) l0_5 i = relE l0_1 (l0_4.length : Int) l0_5 i := rfl
      generalize hge : relE l0_1 (l0_4.length : Int) l0_5 i = ge at hse HFirst
      have HGE := Aside0.mk hge
      clear hge hre
      generalize rl l0_5 i = s at hy0 hy1 hse hmk hla
      obtain ⟨sa, sm⟩ := s
      simp only at hy0 hy1 hse hmk hla
      have HMK := Aside0.mk hmk
      have HLA := Aside0.mk hla
      clear hmk hla
      generalize hlr : lastR l0_5 i = la at hse hlo
      clear hlr
      have hwr : wrap64 ((i : Int) + 1) = ((i + 1 : Nat) : Int) := by rw [wrap64_id (by omega) (by omega)]; rfl
      replace p0 := eq_true p0
      replace q0 := eq_true q0
      have hltb : decide ((i : Int) < (l0_5.length : Int)) = true := decide_eq_true (by omega)
      by_cases c1 : sa ≤ la
      · rw [if_pos c1] at hse
        have d1 : decide (sa ≤ la) = true := decide_eq_true c1
        clear c1 hlo
        subst hse
        have h := (HFirst.out (by decide)).symm.trans HH.out
        injection h with e1 e2
        subst e1 e2
        go_wp2_with (first | ((with_reducible refine gate_dst (N := 6) rfl ?_); refine box_event ?hg (N := 6) ?hd (cs := #[.int .i64 0, .int .i64 0]) (t := 41) ?hr ?_; (case hd => rfl); (case hg => rfl); (case hr => first | (go_simp; done) | (go_simp; rfl)); intro gs hgs w5 BK5 hb5; have LN := Aside0.mk (show gn < gs by rw [hgs]; obtain ⟨Z, hz, _⟩ := HO.out.nam; exact blk_lt hz); have LG := Aside0.mk (show gb < gs by rw [hgs]; exact blk_lt HO.out.obj); have LR := Aside0.mk (show gr < gs by rw [hgs]; exact blk_lt HO.out.res); have HOn := Aside0.mk (HO.out.below hb5); have BS := Aside0.mk BK5; clear HO BK5 hb5 hgs; have HO := HOn; clear HOn) | ((with_reducible refine gate_store (t := 41) rfl ?_); refine wpList_store_whole rfl rfl rfl gs _ #[.int .i64 sa, .int .i64 sm] _ rfl rfl BS.out (by kernel_rfl) rfl (rel_one _ _) ?_; intro w6 hp; have HOn := Aside0.mk (HO.out.grown (put_grownN hp) (by have := LG.out; have := LN.out; have := HO.out.g2; omega) (by have := LG.out; omega) (by have := LR.out; omega) (by have := LN.out; omega)); have BSn := Aside0.mk hp.blk; clear HO BS hp; have HO := HOn; have BS := BSn; clear HOn BSn; have hco1 := blk_cell HO.out.obj 1; have hco4 := blk_cell HO.out.obj 4; have hco5 := blk_cell HO.out.obj 5; have hs0 := blk_cell BS.out 0; have hs1 := blk_cell BS.out 1) | ((with_reducible refine gate_store (t := 67) rfl ?_); refine wpList_store_whole rfl rfl rfl gr _ #[.int .i64 24, .int .i64 (i : Int)] _ rfl rfl HO.out.res (by kernel_rfl) rfl (two_one _ _) ?_; intro w9 hp; have HE := Aside0.mk (hp.below HO.out.low HO.out.g1); have HP := Aside0.mk hp.blk; clear hp))
        refine bodyPost_ret (results_cell_row rfl _ _ gr 67 #[.int .i64 24, .int .i64 (i : Int)] (0, 0) _ rfl HP.out Try.underlying67 rfl (by kernel_rfl)) rfl ?_
        exact ⟨rfl, HE.out⟩
      rw [if_neg c1] at hse
      have d1 : decide (sa ≤ la) = false := decide_eq_false c1
      by_cases c2 : sa ≥ (l0_1.length : Int)
      · rw [if_pos c2] at hse
        have d2 : decide ((l0_1.length : Int) ≤ sa) = true := decide_eq_true c2
        clear c1 c2 hlo
        subst hse
        have h := (HFirst.out (by decide)).symm.trans HH.out
        injection h with e1 e2
        subst e1 e2
        go_wp2_with (first | ((with_reducible refine gate_dst (N := 6) rfl ?_); refine box_event ?hg (N := 6) ?hd (cs := #[.int .i64 0, .int .i64 0]) (t := 41) ?hr ?_; (case hd => rfl); (case hg => rfl); (case hr => first | (go_simp; done) | (go_simp; rfl)); intro gs hgs w5 BK5 hb5; have LN := Aside0.mk (show gn < gs by rw [hgs]; obtain ⟨Z, hz, _⟩ := HO.out.nam; exact blk_lt hz); have LG := Aside0.mk (show gb < gs by rw [hgs]; exact blk_lt HO.out.obj); have LR := Aside0.mk (show gr < gs by rw [hgs]; exact blk_lt HO.out.res); have HOn := Aside0.mk (HO.out.below hb5); have BS := Aside0.mk BK5; clear HO BK5 hb5 hgs; have HO := HOn; clear HOn) | ((with_reducible refine gate_store (t := 41) rfl ?_); refine wpList_store_whole rfl rfl rfl gs _ #[.int .i64 sa, .int .i64 sm] _ rfl rfl BS.out (by kernel_rfl) rfl (rel_one _ _) ?_; intro w6 hp; have HOn := Aside0.mk (HO.out.grown (put_grownN hp) (by have := LG.out; have := LN.out; have := HO.out.g2; omega) (by have := LG.out; omega) (by have := LR.out; omega) (by have := LN.out; omega)); have BSn := Aside0.mk hp.blk; clear HO BS hp; have HO := HOn; have BS := BSn; clear HOn BSn; have hco1 := blk_cell HO.out.obj 1; have hco4 := blk_cell HO.out.obj 4; have hco5 := blk_cell HO.out.obj 5; have hs0 := blk_cell BS.out 0; have hs1 := blk_cell BS.out 1) | ((with_reducible refine gate_store (t := 67) rfl ?_); refine wpList_store_whole rfl rfl rfl gr _ #[.int .i64 24, .int .i64 (i : Int)] _ rfl rfl HO.out.res (by kernel_rfl) rfl (two_one _ _) ?_; intro w9 hp; have HE := Aside0.mk (hp.below HO.out.low HO.out.g1); have HP := Aside0.mk hp.blk; clear hp))
        refine bodyPost_ret (results_cell_row rfl _ _ gr 67 #[.int .i64 24, .int .i64 (i : Int)] (0, 0) _ rfl HP.out Try.underlying67 rfl (by kernel_rfl)) rfl ?_
        exact ⟨rfl, HE.out⟩
      rw [if_neg c2] at hse
      have d2 : decide ((l0_1.length : Int) ≤ sa) = false := decide_eq_false (by omega)
      by_cases c3 : sm < 0
      · rw [if_pos c3] at hse
        have d3 : decide (sm < 0) = true := decide_eq_true c3
        clear c1 c2 c3 hlo
        subst hse
        have h := (HFirst.out (by decide)).symm.trans HH.out
        injection h with e1 e2
        subst e1 e2
        go_wp2_with (first | ((with_reducible refine gate_dst (N := 6) rfl ?_); refine box_event ?hg (N := 6) ?hd (cs := #[.int .i64 0, .int .i64 0]) (t := 41) ?hr ?_; (case hd => rfl); (case hg => rfl); (case hr => first | (go_simp; done) | (go_simp; rfl)); intro gs hgs w5 BK5 hb5; have LN := Aside0.mk (show gn < gs by rw [hgs]; obtain ⟨Z, hz, _⟩ := HO.out.nam; exact blk_lt hz); have LG := Aside0.mk (show gb < gs by rw [hgs]; exact blk_lt HO.out.obj); have LR := Aside0.mk (show gr < gs by rw [hgs]; exact blk_lt HO.out.res); have HOn := Aside0.mk (HO.out.below hb5); have BS := Aside0.mk BK5; clear HO BK5 hb5 hgs; have HO := HOn; clear HOn) | ((with_reducible refine gate_store (t := 41) rfl ?_); refine wpList_store_whole rfl rfl rfl gs _ #[.int .i64 sa, .int .i64 sm] _ rfl rfl BS.out (by kernel_rfl) rfl (rel_one _ _) ?_; intro w6 hp; have HOn := Aside0.mk (HO.out.grown (put_grownN hp) (by have := LG.out; have := LN.out; have := HO.out.g2; omega) (by have := LG.out; omega) (by have := LR.out; omega) (by have := LN.out; omega)); have BSn := Aside0.mk hp.blk; clear HO BS hp; have HO := HOn; have BS := BSn; clear HOn BSn; have hco1 := blk_cell HO.out.obj 1; have hco4 := blk_cell HO.out.obj 4; have hco5 := blk_cell HO.out.obj 5; have hs0 := blk_cell BS.out 0; have hs1 := blk_cell BS.out 1) | ((with_reducible refine gate_store (t := 67) rfl ?_); refine wpList_store_whole rfl rfl rfl gr _ #[.int .i64 24, .int .i64 (i : Int)] _ rfl rfl HO.out.res (by kernel_rfl) rfl (two_one _ _) ?_; intro w9 hp; have HE := Aside0.mk (hp.below HO.out.low HO.out.g1); have HP := Aside0.mk hp.blk; clear hp))
        refine bodyPost_ret (results_cell_row rfl _ _ gr 67 #[.int .i64 24, .int .i64 (i : Int)] (0, 0) _ rfl HP.out Try.underlying67 rfl (by kernel_rfl)) rfl ?_
        exact ⟨rfl, HE.out⟩
      rw [if_neg c3] at hse
      have d3 : decide (sm < 0) = false := decide_eq_false c3
      by_cases c4 : sm ≥ (l0_4.length : Int)
      · rw [if_pos c4] at hse
        have d4 : decide ((l0_4.length : Int) ≤ sm) = true := decide_eq_true c4
        clear c1 c2 c3 c4 hlo
        subst hse
        have h := (HFirst.out (by decide)).symm.trans HH.out
        injection h with e1 e2
        subst e1 e2
        go_wp2_with (first | ((with_reducible refine gate_dst (N := 6) rfl ?_); refine box_event ?hg (N := 6) ?hd (cs := #[.int .i64 0, .int .i64 0]) (t := 41) ?hr ?_; (case hd => rfl); (case hg => rfl); (case hr => first | (go_simp; done) | (go_simp; rfl)); intro gs hgs w5 BK5 hb5; have LN := Aside0.mk (show gn < gs by rw [hgs]; obtain ⟨Z, hz, _⟩ := HO.out.nam; exact blk_lt hz); have LG := Aside0.mk (show gb < gs by rw [hgs]; exact blk_lt HO.out.obj); have LR := Aside0.mk (show gr < gs by rw [hgs]; exact blk_lt HO.out.res); have HOn := Aside0.mk (HO.out.below hb5); have BS := Aside0.mk BK5; clear HO BK5 hb5 hgs; have HO := HOn; clear HOn) | ((with_reducible refine gate_store (t := 41) rfl ?_); refine wpList_store_whole rfl rfl rfl gs _ #[.int .i64 sa, .int .i64 sm] _ rfl rfl BS.out (by kernel_rfl) rfl (rel_one _ _) ?_; intro w6 hp; have HOn := Aside0.mk (HO.out.grown (put_grownN hp) (by have := LG.out; have := LN.out; have := HO.out.g2; omega) (by have := LG.out; omega) (by have := LR.out; omega) (by have := LN.out; omega)); have BSn := Aside0.mk hp.blk; clear HO BS hp; have HO := HOn; have BS := BSn; clear HOn BSn; have hco1 := blk_cell HO.out.obj 1; have hco4 := blk_cell HO.out.obj 4; have hco5 := blk_cell HO.out.obj 5; have hs0 := blk_cell BS.out 0; have hs1 := blk_cell BS.out 1) | ((with_reducible refine gate_store (t := 67) rfl ?_); refine wpList_store_whole rfl rfl rfl gr _ #[.int .i64 24, .int .i64 (i : Int)] _ rfl rfl HO.out.res (by kernel_rfl) rfl (two_one _ _) ?_; intro w9 hp; have HE := Aside0.mk (hp.below HO.out.low HO.out.g1); have HP := Aside0.mk hp.blk; clear hp))
        refine bodyPost_ret (results_cell_row rfl _ _ gr 67 #[.int .i64 24, .int .i64 (i : Int)] (0, 0) _ rfl HP.out Try.underlying67 rfl (by kernel_rfl)) rfl ?_
        exact ⟨rfl, HE.out⟩
      rw [if_neg c4] at hse
      have d4 : decide ((l0_4.length : Int) ≤ sm) = false := decide_eq_false (by omega)
      have a0 : (0 : Int) ≤ sa := by omega
      have a1 : sa < (l0_1.length : Int) := by omega
      have a2 : sa.toNat < 16384 := by omega
      have a3 : sa < 16384 := by omega
      obtain ⟨ac, eC, hxc⟩ := Kd.at_int HC.out sa a0 a1
      subst eC
      have hxr : 0 ≤ rd l0_1 sa ∧ rd l0_1 sa < 4294967296 := by
        rw [show sa = ((sa.toNat : Nat) : Int) by omega, rd_get (by omega)]
        exact wordsO_at HW.out (List.getElem_mem _)
      generalize rd l0_1 sa = x at hxc hse hxr
      obtain ⟨kT, HT0⟩ := Ev.rounds (tgt1 hxr.1 hxr.2)
      have HT := Aside0.mk HT0
      clear HT0 hxr
      generalize tgtS x = t at HT hse
      obtain ⟨t1, t2⟩ := t
      simp only at hse
      have HA2 := Aside0.mk a2
      clear c1 c2 c3 c4 hlo a2
      replace a0 := eq_true a0
      replace a1 := eq_true a1
      replace a3 := eq_true a3
      have HX := Aside0.mk hxc
      clear hxc
      by_cases b : t2 = true
      · rw [if_pos b] at hse
        subst b
        by_cases z : t1 = 0
        · rw [if_pos z] at hse
          subst z
          subst hse
          go_wp2_with (first | ((with_reducible refine gate_dst (N := 6) rfl ?_); refine box_event ?hg (N := 6) ?hd (cs := #[.int .i64 0, .int .i64 0]) (t := 41) ?hr ?_; (case hd => rfl); (case hg => rfl); (case hr => first | (go_simp; done) | (go_simp; rfl)); intro gs hgs w5 BK5 hb5; have LN := Aside0.mk (show gn < gs by rw [hgs]; obtain ⟨Z, hz, _⟩ := HO.out.nam; exact blk_lt hz); have LG := Aside0.mk (show gb < gs by rw [hgs]; exact blk_lt HO.out.obj); have LR := Aside0.mk (show gr < gs by rw [hgs]; exact blk_lt HO.out.res); have HOn := Aside0.mk (HO.out.below hb5); have BS := Aside0.mk BK5; clear HO BK5 hb5 hgs; have HO := HOn; clear HOn) | ((with_reducible refine gate_store (t := 41) rfl ?_); refine wpList_store_whole rfl rfl rfl gs _ #[.int .i64 sa, .int .i64 sm] _ rfl rfl BS.out (by kernel_rfl) rfl (rel_one _ _) ?_; intro w6 hp; have HOn := Aside0.mk (HO.out.grown (put_grownN hp) (by have := LG.out; have := LN.out; have := HO.out.g2; omega) (by have := LG.out; omega) (by have := LR.out; omega) (by have := LN.out; omega)); have BSn := Aside0.mk hp.blk; clear HO BS hp; have HO := HOn; have BS := BSn; clear HOn BSn; have hco1 := blk_cell HO.out.obj 1; have hco4 := blk_cell HO.out.obj 4; have hco5 := blk_cell HO.out.obj 5; have hs0 := blk_cell BS.out 0; have hs1 := blk_cell BS.out 1; have hyc := pw_cell_below HO.out.low HX.out) | (go_at_call 49; refine (isa_Target.calls kT x 0 _ _ HT.out).mono ?_; rintro e w7 ⟨rfl, hb⟩; have HOn := Aside0.mk (HO.out.below hb); have BSn := Aside0.mk (blk_below BS.out hb); clear HO BS hb; have HO := HOn; have BS := BSn; clear HOn BSn; have hco1 := blk_cell HO.out.obj 1; have hco4 := blk_cell HO.out.obj 4; have hco5 := blk_cell HO.out.obj 5; have hs0 := blk_cell BS.out 0; have hs1 := blk_cell BS.out 1; obtain ⟨Z, hz1, hz2, hz3⟩ := HO.out.nam; have HZ1 := Aside0.mk hz1; have HZ2 := Aside0.mk hz2; have HZ3 := Aside0.mk hz3; clear hz1 hz2 hz3) | ((with_reducible refine gate_store (t := 4) rfl ?_); refine wpList_store_arr rfl rfl rfl gn sa.toNat Z 91 (.bool true) rfl rfl rfl rfl (bool_one _) HZ1.out (by rw [HZ2.out]; exact HA2.out) ?_; intro w8 hp; have HOn := Aside0.mk (HO.out.mark HZ2.out HZ3.out HA2.out hp); have BSn := Aside0.mk (blk_grown BS.out (put_grownN hp) (fun e => by have := LN.out; have := Option.some.inj e; omega)); clear HO BS hp HZ1 HZ2 HZ3; have HO := HOn; have BS := BSn; clear HOn BSn; have hco1 := blk_cell HO.out.obj 1; have hco4 := blk_cell HO.out.obj 4; have hco5 := blk_cell HO.out.obj 5; have hs0 := blk_cell BS.out 0; have hs1 := blk_cell BS.out 1))
          go_roundw
          case measure => simp [intOf]; omega
          case rel => exact ⟨i + 1, by first | rfl | (simp; done) | (simp [*]; done), by rw [HLA.out], by omega, ⟨fun j hj => by
            by_cases e : j = i
            · rw [e]; exact HGE.out
            · exact HZ.out j (by omega)⟩, ⟨by rw [HMK.out]; exact HO.out⟩⟩
        · rw [if_neg z] at hse
          have zb : (t1 != 0) = true := bne_iff_ne.mpr z
          clear z
          subst hse
          have h := (HFirst.out (by decide)).symm.trans HH.out
          injection h with e1 e2
          subst e1 e2
          go_wp2_with (first | ((with_reducible refine gate_dst (N := 6) rfl ?_); refine box_event ?hg (N := 6) ?hd (cs := #[.int .i64 0, .int .i64 0]) (t := 41) ?hr ?_; (case hd => rfl); (case hg => rfl); (case hr => first | (go_simp; done) | (go_simp; rfl)); intro gs hgs w5 BK5 hb5; have LN := Aside0.mk (show gn < gs by rw [hgs]; obtain ⟨Z, hz, _⟩ := HO.out.nam; exact blk_lt hz); have LG := Aside0.mk (show gb < gs by rw [hgs]; exact blk_lt HO.out.obj); have LR := Aside0.mk (show gr < gs by rw [hgs]; exact blk_lt HO.out.res); have HOn := Aside0.mk (HO.out.below hb5); have BS := Aside0.mk BK5; clear HO BK5 hb5 hgs; have HO := HOn; clear HOn) | ((with_reducible refine gate_store (t := 41) rfl ?_); refine wpList_store_whole rfl rfl rfl gs _ #[.int .i64 sa, .int .i64 sm] _ rfl rfl BS.out (by kernel_rfl) rfl (rel_one _ _) ?_; intro w6 hp; have HOn := Aside0.mk (HO.out.grown (put_grownN hp) (by have := LG.out; have := LN.out; have := HO.out.g2; omega) (by have := LG.out; omega) (by have := LR.out; omega) (by have := LN.out; omega)); have BSn := Aside0.mk hp.blk; clear HO BS hp; have HO := HOn; have BS := BSn; clear HOn BSn; have hco1 := blk_cell HO.out.obj 1; have hco4 := blk_cell HO.out.obj 4; have hco5 := blk_cell HO.out.obj 5; have hs0 := blk_cell BS.out 0; have hs1 := blk_cell BS.out 1; have hyc := pw_cell_below HO.out.low HX.out) | (go_at_call 49; refine (isa_Target.calls kT x t1 _ _ HT.out).mono ?_; rintro e w7 ⟨rfl, hb⟩; have HOn := Aside0.mk (HO.out.below hb); have BSn := Aside0.mk (blk_below BS.out hb); clear HO BS hb; have HO := HOn; have BS := BSn; clear HOn BSn; have hco1 := blk_cell HO.out.obj 1; have hco4 := blk_cell HO.out.obj 4; have hco5 := blk_cell HO.out.obj 5; have hs0 := blk_cell BS.out 0; have hs1 := blk_cell BS.out 1; have hyc := pw_cell_below HO.out.low HX.out) | ((with_reducible refine gate_store (t := 67) rfl ?_); refine wpList_store_whole rfl rfl rfl gr _ #[.int .i64 24, .int .i64 (i : Int)] _ rfl rfl HO.out.res (by kernel_rfl) rfl (two_one _ _) ?_; intro w9 hp; have HE := Aside0.mk (hp.below HO.out.low HO.out.g1); have HP := Aside0.mk hp.blk; clear hp))
          refine bodyPost_ret (results_cell_row rfl _ _ gr 67 #[.int .i64 24, .int .i64 (i : Int)] (0, 0) _ rfl HP.out Try.underlying67 rfl (by kernel_rfl)) rfl ?_
          exact ⟨rfl, HE.out⟩
      · rw [if_neg b] at hse
        have b : t2 = false := by simpa using b
        subst b
        subst hse
        have h := (HFirst.out (by decide)).symm.trans HH.out
        injection h with e1 e2
        subst e1 e2
        go_wp2_with (first | ((with_reducible refine gate_dst (N := 6) rfl ?_); refine box_event ?hg (N := 6) ?hd (cs := #[.int .i64 0, .int .i64 0]) (t := 41) ?hr ?_; (case hd => rfl); (case hg => rfl); (case hr => first | (go_simp; done) | (go_simp; rfl)); intro gs hgs w5 BK5 hb5; have LN := Aside0.mk (show gn < gs by rw [hgs]; obtain ⟨Z, hz, _⟩ := HO.out.nam; exact blk_lt hz); have LG := Aside0.mk (show gb < gs by rw [hgs]; exact blk_lt HO.out.obj); have LR := Aside0.mk (show gr < gs by rw [hgs]; exact blk_lt HO.out.res); have HOn := Aside0.mk (HO.out.below hb5); have BS := Aside0.mk BK5; clear HO BK5 hb5 hgs; have HO := HOn; clear HOn) | ((with_reducible refine gate_store (t := 41) rfl ?_); refine wpList_store_whole rfl rfl rfl gs _ #[.int .i64 sa, .int .i64 sm] _ rfl rfl BS.out (by kernel_rfl) rfl (rel_one _ _) ?_; intro w6 hp; have HOn := Aside0.mk (HO.out.grown (put_grownN hp) (by have := LG.out; have := LN.out; have := HO.out.g2; omega) (by have := LG.out; omega) (by have := LR.out; omega) (by have := LN.out; omega)); have BSn := Aside0.mk hp.blk; clear HO BS hp; have HO := HOn; have BS := BSn; clear HOn BSn; have hco1 := blk_cell HO.out.obj 1; have hco4 := blk_cell HO.out.obj 4; have hco5 := blk_cell HO.out.obj 5; have hs0 := blk_cell BS.out 0; have hs1 := blk_cell BS.out 1; have hyc := pw_cell_below HO.out.low HX.out) | (go_at_call 49; refine (isa_Target.calls kT x t1 _ _ HT.out).mono ?_; rintro e w7 ⟨rfl, hb⟩; have HOn := Aside0.mk (HO.out.below hb); have BSn := Aside0.mk (blk_below BS.out hb); clear HO BS hb; have HO := HOn; have BS := BSn; clear HOn BSn; have hco1 := blk_cell HO.out.obj 1; have hco4 := blk_cell HO.out.obj 4; have hco5 := blk_cell HO.out.obj 5; have hs0 := blk_cell BS.out 0; have hs1 := blk_cell BS.out 1; have hyc := pw_cell_below HO.out.low HX.out) | ((with_reducible refine gate_store (t := 67) rfl ?_); refine wpList_store_whole rfl rfl rfl gr _ #[.int .i64 24, .int .i64 (i : Int)] _ rfl rfl HO.out.res (by kernel_rfl) rfl (two_one _ _) ?_; intro w9 hp; have HE := Aside0.mk (hp.below HO.out.low HO.out.g1); have HP := Aside0.mk hp.blk; clear hp))
        refine bodyPost_ret (results_cell_row rfl _ _ gr 67 #[.int .i64 24, .int .i64 (i : Int)] (0, 0) _ rfl HP.out Try.underlying67 rfl (by kernel_rfl)) rfl ?_
        exact ⟨rfl, HE.out⟩
    · have hi0 : i = l0_5.length := by omega
      subst hi0
      have hltb : decide ((l0_5.length : Int) < (l0_5.length : Int)) = false := by simp
      have HS := Aside0.mk ((relocs_scan HZ.out).symm.trans HH.out)
      clear hlt hile HZ
      generalize lastR l0_5 l0_5.length = la
      generalize markB l0_5 l0_5.length = N at HO HS
      go_wp2
      go_loopw [75] (fun u75 wr => ∃ k : Nat, u75 = .int .i64 (k : Int) ∧ k ≤ l0_1.length ∧ Aside0 (∀ j, j < k → scanE l0_1 N j = 0) ∧ Aside0 (OR w wr gb (objCell a0_0 A0_1 l0_1.length c0_1 a0_2 A0_3 l0_3.length c0_3 A0_4 l0_4.length c0_4 A0_5 l0_5.length c0_5) gr gn N)) (fun u75 _ => l0_1.length - (intOf u75).toNat)
      case atStart => exact ⟨0, rfl, Nat.zero_le _, ⟨fun j hj => absurd hj (Nat.not_lt_zero _)⟩, HO⟩
      case round =>
        clear HO hco1 hco4 hco5
        obtain ⟨k, rfl, hkle, HZ, HO⟩ := hrel
        have hco1 := blk_cell HO.out.obj 1; have hco4 := blk_cell HO.out.obj 4; have hco5 := blk_cell HO.out.obj 5
        by_cases hlt : k < l0_1.length
        · have hse := scanE_eq l0_1 N k
          have HFirst := Aside0.mk (fun (hne : scanE l0_1 N k ≠ 0) => scanS_at hlt HZ.out hne)
          have p0 : (0 : Int) ≤ (k : Int) := by omega
          have q0 : (k : Int) < (l0_1.length : Int) := by omega
          have q1 : (k : Int) < 16384 := by omega
          have HK := Aside0.mk (show k < 16384 by omega)
          obtain ⟨ac, eC, hxc⟩ := Kd.at_int HC.out (k : Int) p0 q0
          subst eC
          rw [show ((k : Int)).toNat = k by omega] at hxc
          have hxr : 0 ≤ rd l0_1 (k : Int) ∧ rd l0_1 (k : Int) < 4294967296 := by
            rw [rd_get hlt]
            exact wordsO_at HW.out (List.getElem_mem _)
          generalize rd l0_1 (k : Int) = x at hxc hse hxr
          have hyc := pw_cell_below HO.out.low hxc
          clear hxc
          obtain ⟨kT, HT0⟩ := Ev.rounds (tgt1 hxr.1 hxr.2)
          have HT := Aside0.mk HT0
          clear HT0 hxr
          generalize tgtS x = t at HT hse
          obtain ⟨t1, t2⟩ := t
          simp only at hse
          generalize hge : scanE l0_1 N k = ge at hse HFirst
          have HGE := Aside0.mk hge
          clear hge
          generalize hnk0 : N k = nk at hse
          have HNK := Aside0.mk hnk0
          clear hnk0
          have hnk := HO.out.nam.cell' HK.out HNK.out
          have hwr : wrap64 ((k : Int) + 1) = ((k + 1 : Nat) : Int) := by rw [wrap64_id (by omega) (by omega)]; rfl
          have hwm : wrap64 (-1 - (k : Int)) = -1 - (k : Int) := wrap64_id (by omega) (by omega)
          have hcn : ((k : Int)).toNat = k := by omega
          replace p0 := eq_true p0
          replace q0 := eq_true q0
          replace q1 := eq_true q1
          have hltb : decide ((k : Int) < (l0_1.length : Int)) = true := decide_eq_true (by omega)
          have HLT := Aside0.mk hlt
          clear hkle hlt
          cases t2
          · simp only [Bool.false_eq_true, if_false] at hse
            subst hse
            go_wp2_with (first | (go_at_call 49; refine (isa_Target.calls kT x t1 _ _ HT.out).mono ?_; rintro e w7 ⟨rfl, hb⟩; have HOn := Aside0.mk (HO.out.below hb); clear HO hb hnk; have HO := HOn; clear HOn; have hco1 := blk_cell HO.out.obj 1; have hco4 := blk_cell HO.out.obj 4; have hco5 := blk_cell HO.out.obj 5; have hnk := HO.out.nam.cell' HK.out HNK.out))
            go_roundw
            case measure => have hq := HLT.out; clear hl hl5; rw [hwr]; simp only [intOf, Int.toNat_natCast]; omega
            case rel => exact ⟨k + 1, by first | rfl | (simp; done) | (simp [*]; done), by have := HLT.out; omega, ⟨fun j hj => by
              by_cases e : j = k
              · rw [e]; exact HGE.out
              · exact HZ.out j (by omega)⟩, HO⟩
          · simp only [if_true] at hse
            cases nk
            · simp only [Bool.false_eq_true, if_false] at hse
              by_cases g : t1 > (l0_1.length : Int)
              · rw [if_pos g] at hse
                have gb1 : decide ((l0_1.length : Int) < t1) = true := decide_eq_true g
                subst hse
                clear g
                have h := (HFirst.out (by decide)).symm.trans HS.out
                injection h with e1 e2
                subst e1 e2
                go_wp2_with (first | (go_at_call 49; refine (isa_Target.calls kT x t1 _ _ HT.out).mono ?_; rintro e w7 ⟨rfl, hb⟩; have HOn := Aside0.mk (HO.out.below hb); clear HO hb hnk; have HO := HOn; clear HOn; have hco1 := blk_cell HO.out.obj 1; have hco4 := blk_cell HO.out.obj 4; have hco5 := blk_cell HO.out.obj 5; have hnk := HO.out.nam.cell' HK.out HNK.out) | ((with_reducible refine gate_store (t := 67) rfl ?_); refine wpList_store_whole rfl rfl rfl gr _ #[.int .i64 22, .int .i64 (-1 - (k : Int))] _ rfl rfl HO.out.res (by kernel_rfl) rfl (two_one _ _) ?_; intro w9 hp; have HE := Aside0.mk (hp.below HO.out.low HO.out.g1); have HP := Aside0.mk hp.blk; clear hp))
                refine bodyPost_ret (results_cell_row rfl _ _ gr 67 #[.int .i64 22, .int .i64 (-1 - (k : Int))] (0, 0) _ rfl HP.out Try.underlying67 rfl (by kernel_rfl)) rfl ?_
                exact ⟨rfl, HE.out⟩
              · rw [if_neg g] at hse
                have gb1 : decide ((l0_1.length : Int) < t1) = false := decide_eq_false g
                subst hse
                clear g
                go_wp2_with (first | (go_at_call 49; refine (isa_Target.calls kT x t1 _ _ HT.out).mono ?_; rintro e w7 ⟨rfl, hb⟩; have HOn := Aside0.mk (HO.out.below hb); clear HO hb hnk; have HO := HOn; clear HOn; have hco1 := blk_cell HO.out.obj 1; have hco4 := blk_cell HO.out.obj 4; have hco5 := blk_cell HO.out.obj 5; have hnk := HO.out.nam.cell' HK.out HNK.out))
                go_roundw
                case measure => have hq := HLT.out; clear hl hl5; rw [hwr]; simp only [intOf, Int.toNat_natCast]; omega
                case rel => exact ⟨k + 1, by first | rfl | (simp; done) | (simp [*]; done), by have := HLT.out; omega, ⟨fun j hj => by
                  by_cases e : j = k
                  · rw [e]; exact HGE.out
                  · exact HZ.out j (by omega)⟩, HO⟩
            · simp only [if_true] at hse
              subst hse
              go_wp2_with (first | (go_at_call 49; refine (isa_Target.calls kT x t1 _ _ HT.out).mono ?_; rintro e w7 ⟨rfl, hb⟩; have HOn := Aside0.mk (HO.out.below hb); clear HO hb hnk; have HO := HOn; clear HOn; have hco1 := blk_cell HO.out.obj 1; have hco4 := blk_cell HO.out.obj 4; have hco5 := blk_cell HO.out.obj 5; have hnk := HO.out.nam.cell' HK.out HNK.out))
              go_roundw
              case measure => have hq := HLT.out; clear hl hl5; rw [hwr]; simp only [intOf, Int.toNat_natCast]; omega
              case rel => exact ⟨k + 1, by first | rfl | (simp; done) | (simp [*]; done), by have := HLT.out; omega, ⟨fun j hj => by
                by_cases e : j = k
                · rw [e]; exact HGE.out
                · exact HZ.out j (by omega)⟩, HO⟩
        · have hk0 : k = l0_1.length := by omega
          subst hk0
          have hltb : decide ((l0_1.length : Int) < (l0_1.length : Int)) = false := by simp
          have h := (scanS_zero HZ.out).symm.trans HS.out
          injection h with e1 e2
          subst e1 e2
          clear hlt hkle
          go_wp2_with (first | ((with_reducible refine gate_store (t := 67) rfl ?_); refine wpList_store_whole rfl rfl rfl gr _ #[.int .i64 0, .int .i64 0] _ rfl rfl HO.out.res (by kernel_rfl) rfl (two_one _ _) ?_; intro w9 hp; have HE := Aside0.mk (hp.below HO.out.low HO.out.g1); have HP := Aside0.mk hp.blk; clear hp))
          refine bodyPost_ret (results_cell_row rfl _ _ gr 67 #[.int .i64 0, .int .i64 0] (0, 0) _ rfl HP.out Try.underlying67 rfl (by kernel_rfl)) rfl ?_
          exact ⟨rfl, HE.out⟩
  end Go.Proofs.Ytiaohbbafaaibab.P

/- What the Go functions named below come to, as plain functions, each with its proof; written by this session's prt.py over the kit's print. -/
namespace Go.Proofs.Ytiaohbbafaaibab.P
open Go.RowKit Go.Proofs.YtiaohbbafaaibabW.PrintWords Go.Proofs.YtiaohbbafaaibabW.PrintLast Go.Proofs.YtiaohbbafaaibabW.PrintMore
attribute [local go_sem] max2_int min2_int max_two min_two max_three min_three max_four min_four   -- for this text's walks alone
set_option linter.unusedVariables false
set_option linter.unusedSimpArgs false
/-! ### object_size: function 26 -/
def object_size.f (a0_0 : ByteArray) (l0_1 : List Int) (a0_2 : Int) (l0_3 : List Int) (l0_4 : List (S37)) (l0_5 : List (S41)) : Option (Int × Int) := (object_Name.f a0_0).bind fun t105 => (if t105 = true then (if (l0_1.length : Int) > 16384 then (some (21, (-1))) else (if (l0_4.length : Int) > 256 then (some (21, (-2))) else (if (l0_5.length : Int) > (l0_1.length : Int) then (some (21, (-3))) else (if a0_2 < 0 then (some (25, (-1))) else (if a0_2 > 4096 then (some (25, (-1))) else (if (l0_3.length : Int) > (wrap64 (4096 - a0_2)) then (some (25, (-1))) else (some (0, 0)))))))) else (some (20, (-1))))
set_option maxHeartbeats 8000000 in
set_option maxRecDepth 100000 in
theorem object_size.calls (a0_0 : ByteArray) (A0_1 : Option Addr) (c0_1 : Nat) (l0_1 : List Int) (a0_2 : Int) (A0_3 : Option Addr) (c0_3 : Nat) (l0_3 : List Int) (A0_4 : Option Addr) (c0_4 : Nat) (l0_4 : List (S37)) (A0_5 : Option Addr) (c0_5 : Nat) (l0_5 : List (S41)) (r1 : Int) (r2 : Int) (w : World) (hr0_1 : Kd.C (Kd.int .u32) w A0_1 l0_1.length l0_1) (hc0_1 : l0_1.length ≤ c0_1) (hr0_3 : Kd.C (Kd.int .i64) w A0_3 l0_3.length l0_3) (hc0_3 : l0_3.length ≤ c0_3) (hr0_4 : Kd.C k37 w A0_4 l0_4.length l0_4) (hc0_4 : l0_4.length ≤ c0_4) (hr0_5 : Kd.C k41 w A0_5 l0_5.length l0_5) (hc0_5 : l0_5.length ≤ c0_5) (h : object_size.f a0_0 l0_1 a0_2 l0_3 l0_4 l0_5 = some (r1, r2)) :
  Calls Try.prog 26 #[.agg #[.string a0_0, .slice A0_1 l0_1.length c0_1, .int .i64 a0_2, .slice A0_3 l0_3.length c0_3, .slice A0_4 l0_4.length c0_4, .slice A0_5 l0_5.length c0_5]] w fun e w' => e = .returned (.agg #[.int .i64 r1, .int .i64 r2]) ∧ Below w.heap.size w w' := by
 have hu27 := Try.underlying27
 have hu67 := Try.underlying67
 have HR0_1 := Aside0.mk hr0_1
 have HC0_1 := Aside0.mk hc0_1
 clear hr0_1 hc0_1
 have HR0_3 := Aside0.mk hr0_3
 have HC0_3 := Aside0.mk hc0_3
 clear hr0_3 hc0_3
 have HR0_4 := Aside0.mk hr0_4
 have HC0_4 := Aside0.mk hc0_4
 clear hr0_4 hc0_4
 have HR0_5 := Aside0.mk hr0_5
 have HC0_5 := Aside0.mk hc0_5
 clear hr0_5 hc0_5
 have HB := Aside0.mk (Below.refl w.heap.size w)
 have H : ((object_Name.f a0_0).bind fun t105 => (if t105 = true then (if (l0_1.length : Int) > 16384 then (some (21, (-1))) else (if (l0_4.length : Int) > 256 then (some (21, (-2))) else (if (l0_5.length : Int) > (l0_1.length : Int) then (some (21, (-3))) else (if a0_2 < 0 then (some (25, (-1))) else (if a0_2 > 4096 then (some (25, (-1))) else (if (l0_3.length : Int) > (wrap64 (4096 - a0_2)) then (some (25, (-1))) else (some (0, 0)))))))) else (some (20, (-1))))) = some (r1, r2) := h
 clear h
 replace H := Option.bind_eq_some_iff.mp H
 obtain ⟨t105, A20, H⟩ := H
 try dsimp only at H
 have A2 := Aside0.mk A20
 clear A20
 by_cases c3 : t105 = true
 ·
  subst c3
  rw [if_pos rfl] at H
  by_cases c4 : (l0_1.length : Int) > 16384
  ·
   rw [if_pos c4] at H
   have c4b0 : decide (16384 < (l0_1.length : Int)) = true := decide_eq_true c4
   have c4b1 : decide (16384 < l0_1.length) = true := decide_eq_true (by omega)
   clear c4
   simp only [Option.some.injEq, Prod.mk.injEq] at H
   obtain ⟨rfl, rfl⟩ := H
   go_enter Try.func26, Try.ntmps26
   go_wp2_with (first | ((with_reducible refine gate_dst (N := 1) rfl ?_); (try (refine gate_guard (by rfl) ?_; dsimp only)); refine box_event ?hg (N := 1) ?hd (cs := #[.string a0_0, .slice A0_1 l0_1.length c0_1, .int .i64 a0_2, .slice A0_3 l0_3.length c0_3, .slice A0_4 l0_4.length c0_4, .slice A0_5 l0_5.length c0_5]) (t := 27) ?hr ?_; (case hd => rfl); (case hg => rfl); (case hr => go_simp; try rfl); intro gb103 hg w5 hbox hb; have BK103 := Aside0.mk (hbox); have GW103 := Aside0.mk (gwQ hg HB.out); have GE103 := Aside0.mk (gwQ hg HB.out); replace HB := Aside0.mk (bsQ hb HB.out); clear hb hbox hg) | ((with_reducible refine gate_dst (N := 2) rfl ?_); (try (refine gate_guard (by rfl) ?_; dsimp only)); refine box_event ?hg (N := 2) ?hd (cs := #[.int .i64 0, .int .i64 0]) (t := 67) ?hr ?_; (case hd => rfl); (case hg => rfl); (case hr => go_simp; try rfl); intro gb104 hg w6 hbox hb; have n0_ := Aside0.mk (bbQ hb BK103.out); have n1_ := Aside0.mk (bs1Q hb (by repeat with_reducible first | exact HB.out | apply pw_below_drewN | apply below_drew1 | refine below_set ?_ GE103.out)); have n2_ := Aside0.mk (hbox); have n3_ := Aside0.mk (gw1Q hg (by repeat with_reducible first | exact HB.out | apply pw_below_drewN | apply below_drew1 | refine below_set ?_ GE103.out)); have n4_ := Aside0.mk (gw1Q hg (by repeat with_reducible first | exact HB.out | apply pw_below_drewN | apply below_drew1 | refine below_set ?_ GE103.out)); have n5_ := Aside0.mk ((by rw [hg]; exact Nat.ne_of_lt (blk_lt (g := gb103) (o := .cells #[.string a0_0, .slice A0_1 l0_1.length c0_1, .int .i64 a0_2, .slice A0_3 l0_3.length c0_3, .slice A0_4 l0_4.length c0_4, .slice A0_5 l0_5.length c0_5] 27 (0, 0)) (by exact BK103.out)) : gb103 ≠ gb104)); have n6_ := Aside0.mk ((by rw [hg]; exact Nat.ne_of_gt (blk_lt (g := gb103) (o := .cells #[.string a0_0, .slice A0_1 l0_1.length c0_1, .int .i64 a0_2, .slice A0_3 l0_3.length c0_3, .slice A0_4 l0_4.length c0_4, .slice A0_5 l0_5.length c0_5] 27 (0, 0)) (by exact BK103.out)) : gb104 ≠ gb103)); clear BK103; clear HB; have BK103 := n0_; have HB := n1_; have BK104 := n2_; have GW104 := n3_; have GE104 := n4_; have NB103_104 := n5_; have NB104_103 := n6_; clear n0_ n1_ n2_ n3_ n4_ n5_ n6_; clear hb hbox hg; have hnb7 := NB103_104.out; have hnc7 := NB104_103.out; obtain ⟨hcz8_0, hcz8_1, hcz8_2, hcz8_3, hcz8_4, hcz8_5⟩ := bcQ6 BK103.out; obtain ⟨hfz8_0, hfz8_1, hfz8_2, hfz8_3, hfz8_4, hfz8_5⟩ := fzQ6 BK103.out) | ((with_reducible refine gate_callee (f := 11) rfl ?_); refine goesL_ (some 6) rfl rfl Try.func11 (by kernel_rfl) rfl #[.string a0_0] rfl (by (try simp only [List.map_toArray, List.map_cons, List.map_nil]); try rfl) ?_; (with_reducible refine (object_Name.calls a0_0 true _ A2.out).mono ?_); rintro e w9 ⟨rfl, hb⟩; refine ⟨_, rfl, ?_⟩; replace BK103 := Aside0.mk (bbQ hb BK103.out); replace BK104 := Aside0.mk (bbQ hb BK104.out); replace HB := Aside0.mk (bs1Q hb (by repeat with_reducible first | exact HB.out | apply pw_below_drewN | apply below_drew1 | refine below_set ?_ GE103.out | refine below_set ?_ GE104.out)); (try clear hb); (try clear hb2); (try clear hk); (try clear hi); obtain ⟨hcz10_0, hcz10_1, hcz10_2, hcz10_3, hcz10_4, hcz10_5⟩ := bcQ6 BK103.out; obtain ⟨hfz10_0, hfz10_1, hfz10_2, hfz10_3, hfz10_4, hfz10_5⟩ := fzQ6 BK103.out; obtain ⟨hcz11_0, hcz11_1⟩ := bcQ2 BK104.out; obtain ⟨hfz11_0, hfz11_1⟩ := fzQ2 BK104.out))
   refine bodyPost_ret (results_cell_row rfl _ _ gb104 67 #[.int .i64 21, .int .i64 (-1)] (0, 0) _ rfl (by refine blk_put (cs := #[.int .i64 21, .int .i64 0]) ?_ 1 _ rfl; refine blk_put (cs := #[.int .i64 0, .int .i64 0]) ?_ 0 _ rfl; exact BK104.out) Try.underlying67 rfl (by kernel_rfl)) rfl ?_
   exact ⟨by first | rfl | (simp [errW_none, errW_some] <;> rfl) | (simp [*, errW_none, errW_some] <;> rfl), by repeat with_reducible first | exact HB.out | apply pw_below_drewN | apply below_drew1 | refine below_set ?_ GE103.out | refine below_set ?_ GE104.out⟩
  ·
   rw [if_neg c4] at H
   have c4b0 : decide (16384 < (l0_1.length : Int)) = false := decide_eq_false c4
   have c4b1 : decide (16384 < l0_1.length) = false := decide_eq_false (by omega)
   clear c4
   by_cases c12 : (l0_4.length : Int) > 256
   ·
    rw [if_pos c12] at H
    have c12b0 : decide (256 < (l0_4.length : Int)) = true := decide_eq_true c12
    have c12b1 : decide (256 < l0_4.length) = true := decide_eq_true (by omega)
    clear c12
    simp only [Option.some.injEq, Prod.mk.injEq] at H
    obtain ⟨rfl, rfl⟩ := H
    go_enter Try.func26, Try.ntmps26
    go_wp2_with (first | ((with_reducible refine gate_dst (N := 1) rfl ?_); (try (refine gate_guard (by rfl) ?_; dsimp only)); refine box_event ?hg (N := 1) ?hd (cs := #[.string a0_0, .slice A0_1 l0_1.length c0_1, .int .i64 a0_2, .slice A0_3 l0_3.length c0_3, .slice A0_4 l0_4.length c0_4, .slice A0_5 l0_5.length c0_5]) (t := 27) ?hr ?_; (case hd => rfl); (case hg => rfl); (case hr => go_simp; try rfl); intro gb103 hg w13 hbox hb; have BK103 := Aside0.mk (hbox); have GW103 := Aside0.mk (gwQ hg HB.out); have GE103 := Aside0.mk (gwQ hg HB.out); replace HB := Aside0.mk (bsQ hb HB.out); clear hb hbox hg) | ((with_reducible refine gate_dst (N := 2) rfl ?_); (try (refine gate_guard (by rfl) ?_; dsimp only)); refine box_event ?hg (N := 2) ?hd (cs := #[.int .i64 0, .int .i64 0]) (t := 67) ?hr ?_; (case hd => rfl); (case hg => rfl); (case hr => go_simp; try rfl); intro gb104 hg w14 hbox hb; have n0_ := Aside0.mk (bbQ hb BK103.out); have n1_ := Aside0.mk (bs1Q hb (by repeat with_reducible first | exact HB.out | apply pw_below_drewN | apply below_drew1 | refine below_set ?_ GE103.out)); have n2_ := Aside0.mk (hbox); have n3_ := Aside0.mk (gw1Q hg (by repeat with_reducible first | exact HB.out | apply pw_below_drewN | apply below_drew1 | refine below_set ?_ GE103.out)); have n4_ := Aside0.mk (gw1Q hg (by repeat with_reducible first | exact HB.out | apply pw_below_drewN | apply below_drew1 | refine below_set ?_ GE103.out)); have n5_ := Aside0.mk ((by rw [hg]; exact Nat.ne_of_lt (blk_lt (g := gb103) (o := .cells #[.string a0_0, .slice A0_1 l0_1.length c0_1, .int .i64 a0_2, .slice A0_3 l0_3.length c0_3, .slice A0_4 l0_4.length c0_4, .slice A0_5 l0_5.length c0_5] 27 (0, 0)) (by exact BK103.out)) : gb103 ≠ gb104)); have n6_ := Aside0.mk ((by rw [hg]; exact Nat.ne_of_gt (blk_lt (g := gb103) (o := .cells #[.string a0_0, .slice A0_1 l0_1.length c0_1, .int .i64 a0_2, .slice A0_3 l0_3.length c0_3, .slice A0_4 l0_4.length c0_4, .slice A0_5 l0_5.length c0_5] 27 (0, 0)) (by exact BK103.out)) : gb104 ≠ gb103)); clear BK103; clear HB; have BK103 := n0_; have HB := n1_; have BK104 := n2_; have GW104 := n3_; have GE104 := n4_; have NB103_104 := n5_; have NB104_103 := n6_; clear n0_ n1_ n2_ n3_ n4_ n5_ n6_; clear hb hbox hg; have hnb15 := NB103_104.out; have hnc15 := NB104_103.out; obtain ⟨hcz16_0, hcz16_1, hcz16_2, hcz16_3, hcz16_4, hcz16_5⟩ := bcQ6 BK103.out; obtain ⟨hfz16_0, hfz16_1, hfz16_2, hfz16_3, hfz16_4, hfz16_5⟩ := fzQ6 BK103.out) | ((with_reducible refine gate_callee (f := 11) rfl ?_); refine goesL_ (some 6) rfl rfl Try.func11 (by kernel_rfl) rfl #[.string a0_0] rfl (by (try simp only [List.map_toArray, List.map_cons, List.map_nil]); try rfl) ?_; (with_reducible refine (object_Name.calls a0_0 true _ A2.out).mono ?_); rintro e w17 ⟨rfl, hb⟩; refine ⟨_, rfl, ?_⟩; replace BK103 := Aside0.mk (bbQ hb BK103.out); replace BK104 := Aside0.mk (bbQ hb BK104.out); replace HB := Aside0.mk (bs1Q hb (by repeat with_reducible first | exact HB.out | apply pw_below_drewN | apply below_drew1 | refine below_set ?_ GE103.out | refine below_set ?_ GE104.out)); (try clear hb); (try clear hb2); (try clear hk); (try clear hi); obtain ⟨hcz18_0, hcz18_1, hcz18_2, hcz18_3, hcz18_4, hcz18_5⟩ := bcQ6 BK103.out; obtain ⟨hfz18_0, hfz18_1, hfz18_2, hfz18_3, hfz18_4, hfz18_5⟩ := fzQ6 BK103.out; obtain ⟨hcz19_0, hcz19_1⟩ := bcQ2 BK104.out; obtain ⟨hfz19_0, hfz19_1⟩ := fzQ2 BK104.out))
    refine bodyPost_ret (results_cell_row rfl _ _ gb104 67 #[.int .i64 21, .int .i64 (-2)] (0, 0) _ rfl (by refine blk_put (cs := #[.int .i64 21, .int .i64 0]) ?_ 1 _ rfl; refine blk_put (cs := #[.int .i64 0, .int .i64 0]) ?_ 0 _ rfl; exact BK104.out) Try.underlying67 rfl (by kernel_rfl)) rfl ?_
    exact ⟨by first | rfl | (simp [errW_none, errW_some] <;> rfl) | (simp [*, errW_none, errW_some] <;> rfl), by repeat with_reducible first | exact HB.out | apply pw_below_drewN | apply below_drew1 | refine below_set ?_ GE103.out | refine below_set ?_ GE104.out⟩
   ·
    rw [if_neg c12] at H
    have c12b0 : decide (256 < (l0_4.length : Int)) = false := decide_eq_false c12
    have c12b1 : decide (256 < l0_4.length) = false := decide_eq_false (by omega)
    clear c12
    by_cases c20 : (l0_5.length : Int) > (l0_1.length : Int)
    ·
     rw [if_pos c20] at H
     have c20b0 : decide ((l0_1.length : Int) < (l0_5.length : Int)) = true := decide_eq_true c20
     have c20b1 : decide (l0_1.length < l0_5.length) = true := decide_eq_true (Int.ofNat_lt.mp c20)
     clear c20
     simp only [Option.some.injEq, Prod.mk.injEq] at H
     obtain ⟨rfl, rfl⟩ := H
     go_enter Try.func26, Try.ntmps26
     go_wp2_with (first | ((with_reducible refine gate_dst (N := 1) rfl ?_); (try (refine gate_guard (by rfl) ?_; dsimp only)); refine box_event ?hg (N := 1) ?hd (cs := #[.string a0_0, .slice A0_1 l0_1.length c0_1, .int .i64 a0_2, .slice A0_3 l0_3.length c0_3, .slice A0_4 l0_4.length c0_4, .slice A0_5 l0_5.length c0_5]) (t := 27) ?hr ?_; (case hd => rfl); (case hg => rfl); (case hr => go_simp; try rfl); intro gb103 hg w21 hbox hb; have BK103 := Aside0.mk (hbox); have GW103 := Aside0.mk (gwQ hg HB.out); have GE103 := Aside0.mk (gwQ hg HB.out); replace HB := Aside0.mk (bsQ hb HB.out); clear hb hbox hg) | ((with_reducible refine gate_dst (N := 2) rfl ?_); (try (refine gate_guard (by rfl) ?_; dsimp only)); refine box_event ?hg (N := 2) ?hd (cs := #[.int .i64 0, .int .i64 0]) (t := 67) ?hr ?_; (case hd => rfl); (case hg => rfl); (case hr => go_simp; try rfl); intro gb104 hg w22 hbox hb; have n0_ := Aside0.mk (bbQ hb BK103.out); have n1_ := Aside0.mk (bs1Q hb (by repeat with_reducible first | exact HB.out | apply pw_below_drewN | apply below_drew1 | refine below_set ?_ GE103.out)); have n2_ := Aside0.mk (hbox); have n3_ := Aside0.mk (gw1Q hg (by repeat with_reducible first | exact HB.out | apply pw_below_drewN | apply below_drew1 | refine below_set ?_ GE103.out)); have n4_ := Aside0.mk (gw1Q hg (by repeat with_reducible first | exact HB.out | apply pw_below_drewN | apply below_drew1 | refine below_set ?_ GE103.out)); have n5_ := Aside0.mk ((by rw [hg]; exact Nat.ne_of_lt (blk_lt (g := gb103) (o := .cells #[.string a0_0, .slice A0_1 l0_1.length c0_1, .int .i64 a0_2, .slice A0_3 l0_3.length c0_3, .slice A0_4 l0_4.length c0_4, .slice A0_5 l0_5.length c0_5] 27 (0, 0)) (by exact BK103.out)) : gb103 ≠ gb104)); have n6_ := Aside0.mk ((by rw [hg]; exact Nat.ne_of_gt (blk_lt (g := gb103) (o := .cells #[.string a0_0, .slice A0_1 l0_1.length c0_1, .int .i64 a0_2, .slice A0_3 l0_3.length c0_3, .slice A0_4 l0_4.length c0_4, .slice A0_5 l0_5.length c0_5] 27 (0, 0)) (by exact BK103.out)) : gb104 ≠ gb103)); clear BK103; clear HB; have BK103 := n0_; have HB := n1_; have BK104 := n2_; have GW104 := n3_; have GE104 := n4_; have NB103_104 := n5_; have NB104_103 := n6_; clear n0_ n1_ n2_ n3_ n4_ n5_ n6_; clear hb hbox hg; have hnb23 := NB103_104.out; have hnc23 := NB104_103.out; obtain ⟨hcz24_0, hcz24_1, hcz24_2, hcz24_3, hcz24_4, hcz24_5⟩ := bcQ6 BK103.out; obtain ⟨hfz24_0, hfz24_1, hfz24_2, hfz24_3, hfz24_4, hfz24_5⟩ := fzQ6 BK103.out) | ((with_reducible refine gate_callee (f := 11) rfl ?_); refine goesL_ (some 6) rfl rfl Try.func11 (by kernel_rfl) rfl #[.string a0_0] rfl (by (try simp only [List.map_toArray, List.map_cons, List.map_nil]); try rfl) ?_; (with_reducible refine (object_Name.calls a0_0 true _ A2.out).mono ?_); rintro e w25 ⟨rfl, hb⟩; refine ⟨_, rfl, ?_⟩; replace BK103 := Aside0.mk (bbQ hb BK103.out); replace BK104 := Aside0.mk (bbQ hb BK104.out); replace HB := Aside0.mk (bs1Q hb (by repeat with_reducible first | exact HB.out | apply pw_below_drewN | apply below_drew1 | refine below_set ?_ GE103.out | refine below_set ?_ GE104.out)); (try clear hb); (try clear hb2); (try clear hk); (try clear hi); obtain ⟨hcz26_0, hcz26_1, hcz26_2, hcz26_3, hcz26_4, hcz26_5⟩ := bcQ6 BK103.out; obtain ⟨hfz26_0, hfz26_1, hfz26_2, hfz26_3, hfz26_4, hfz26_5⟩ := fzQ6 BK103.out; obtain ⟨hcz27_0, hcz27_1⟩ := bcQ2 BK104.out; obtain ⟨hfz27_0, hfz27_1⟩ := fzQ2 BK104.out))
     refine bodyPost_ret (results_cell_row rfl _ _ gb104 67 #[.int .i64 21, .int .i64 (-3)] (0, 0) _ rfl (by refine blk_put (cs := #[.int .i64 21, .int .i64 0]) ?_ 1 _ rfl; refine blk_put (cs := #[.int .i64 0, .int .i64 0]) ?_ 0 _ rfl; exact BK104.out) Try.underlying67 rfl (by kernel_rfl)) rfl ?_
     exact ⟨by first | rfl | (simp [errW_none, errW_some] <;> rfl) | (simp [*, errW_none, errW_some] <;> rfl), by repeat with_reducible first | exact HB.out | apply pw_below_drewN | apply below_drew1 | refine below_set ?_ GE103.out | refine below_set ?_ GE104.out⟩
    ·
     rw [if_neg c20] at H
     have c20b0 : decide ((l0_1.length : Int) < (l0_5.length : Int)) = false := decide_eq_false c20
     have c20b1 : decide (l0_1.length < l0_5.length) = false := decide_eq_false (fun h => c20 (Int.ofNat_lt.mpr h))
     clear c20
     by_cases c28 : a0_2 < 0
     ·
      rw [if_pos c28] at H
      have c28b0 : decide (a0_2 < 0) = true := decide_eq_true c28
      clear c28
      simp only [Option.some.injEq, Prod.mk.injEq] at H
      obtain ⟨rfl, rfl⟩ := H
      go_enter Try.func26, Try.ntmps26
      go_wp2_with (first | ((with_reducible refine gate_dst (N := 1) rfl ?_); (try (refine gate_guard (by rfl) ?_; dsimp only)); refine box_event ?hg (N := 1) ?hd (cs := #[.string a0_0, .slice A0_1 l0_1.length c0_1, .int .i64 a0_2, .slice A0_3 l0_3.length c0_3, .slice A0_4 l0_4.length c0_4, .slice A0_5 l0_5.length c0_5]) (t := 27) ?hr ?_; (case hd => rfl); (case hg => rfl); (case hr => go_simp; try rfl); intro gb103 hg w29 hbox hb; have BK103 := Aside0.mk (hbox); have GW103 := Aside0.mk (gwQ hg HB.out); have GE103 := Aside0.mk (gwQ hg HB.out); replace HB := Aside0.mk (bsQ hb HB.out); clear hb hbox hg) | ((with_reducible refine gate_dst (N := 2) rfl ?_); (try (refine gate_guard (by rfl) ?_; dsimp only)); refine box_event ?hg (N := 2) ?hd (cs := #[.int .i64 0, .int .i64 0]) (t := 67) ?hr ?_; (case hd => rfl); (case hg => rfl); (case hr => go_simp; try rfl); intro gb104 hg w30 hbox hb; have n0_ := Aside0.mk (bbQ hb BK103.out); have n1_ := Aside0.mk (bs1Q hb (by repeat with_reducible first | exact HB.out | apply pw_below_drewN | apply below_drew1 | refine below_set ?_ GE103.out)); have n2_ := Aside0.mk (hbox); have n3_ := Aside0.mk (gw1Q hg (by repeat with_reducible first | exact HB.out | apply pw_below_drewN | apply below_drew1 | refine below_set ?_ GE103.out)); have n4_ := Aside0.mk (gw1Q hg (by repeat with_reducible first | exact HB.out | apply pw_below_drewN | apply below_drew1 | refine below_set ?_ GE103.out)); have n5_ := Aside0.mk ((by rw [hg]; exact Nat.ne_of_lt (blk_lt (g := gb103) (o := .cells #[.string a0_0, .slice A0_1 l0_1.length c0_1, .int .i64 a0_2, .slice A0_3 l0_3.length c0_3, .slice A0_4 l0_4.length c0_4, .slice A0_5 l0_5.length c0_5] 27 (0, 0)) (by exact BK103.out)) : gb103 ≠ gb104)); have n6_ := Aside0.mk ((by rw [hg]; exact Nat.ne_of_gt (blk_lt (g := gb103) (o := .cells #[.string a0_0, .slice A0_1 l0_1.length c0_1, .int .i64 a0_2, .slice A0_3 l0_3.length c0_3, .slice A0_4 l0_4.length c0_4, .slice A0_5 l0_5.length c0_5] 27 (0, 0)) (by exact BK103.out)) : gb104 ≠ gb103)); clear BK103; clear HB; have BK103 := n0_; have HB := n1_; have BK104 := n2_; have GW104 := n3_; have GE104 := n4_; have NB103_104 := n5_; have NB104_103 := n6_; clear n0_ n1_ n2_ n3_ n4_ n5_ n6_; clear hb hbox hg; have hnb31 := NB103_104.out; have hnc31 := NB104_103.out; obtain ⟨hcz32_0, hcz32_1, hcz32_2, hcz32_3, hcz32_4, hcz32_5⟩ := bcQ6 BK103.out; obtain ⟨hfz32_0, hfz32_1, hfz32_2, hfz32_3, hfz32_4, hfz32_5⟩ := fzQ6 BK103.out) | ((with_reducible refine gate_callee (f := 11) rfl ?_); refine goesL_ (some 6) rfl rfl Try.func11 (by kernel_rfl) rfl #[.string a0_0] rfl (by (try simp only [List.map_toArray, List.map_cons, List.map_nil]); try rfl) ?_; (with_reducible refine (object_Name.calls a0_0 true _ A2.out).mono ?_); rintro e w33 ⟨rfl, hb⟩; refine ⟨_, rfl, ?_⟩; replace BK103 := Aside0.mk (bbQ hb BK103.out); replace BK104 := Aside0.mk (bbQ hb BK104.out); replace HB := Aside0.mk (bs1Q hb (by repeat with_reducible first | exact HB.out | apply pw_below_drewN | apply below_drew1 | refine below_set ?_ GE103.out | refine below_set ?_ GE104.out)); (try clear hb); (try clear hb2); (try clear hk); (try clear hi); obtain ⟨hcz34_0, hcz34_1, hcz34_2, hcz34_3, hcz34_4, hcz34_5⟩ := bcQ6 BK103.out; obtain ⟨hfz34_0, hfz34_1, hfz34_2, hfz34_3, hfz34_4, hfz34_5⟩ := fzQ6 BK103.out; obtain ⟨hcz35_0, hcz35_1⟩ := bcQ2 BK104.out; obtain ⟨hfz35_0, hfz35_1⟩ := fzQ2 BK104.out))
      refine bodyPost_ret (results_cell_row rfl _ _ gb104 67 #[.int .i64 25, .int .i64 (-1)] (0, 0) _ rfl (by refine blk_put (cs := #[.int .i64 25, .int .i64 0]) ?_ 1 _ rfl; refine blk_put (cs := #[.int .i64 0, .int .i64 0]) ?_ 0 _ rfl; exact BK104.out) Try.underlying67 rfl (by kernel_rfl)) rfl ?_
      exact ⟨by first | rfl | (simp [errW_none, errW_some] <;> rfl) | (simp [*, errW_none, errW_some] <;> rfl), by repeat with_reducible first | exact HB.out | apply pw_below_drewN | apply below_drew1 | refine below_set ?_ GE103.out | refine below_set ?_ GE104.out⟩
     ·
      rw [if_neg c28] at H
      have c28b0 : decide (a0_2 < 0) = false := decide_eq_false c28
      clear c28
      by_cases c36 : a0_2 > 4096
      ·
       rw [if_pos c36] at H
       have c36b0 : decide (4096 < a0_2) = true := decide_eq_true c36
       clear c36
       simp only [Option.some.injEq, Prod.mk.injEq] at H
       obtain ⟨rfl, rfl⟩ := H
       go_enter Try.func26, Try.ntmps26
       go_wp2_with (first | ((with_reducible refine gate_dst (N := 1) rfl ?_); (try (refine gate_guard (by rfl) ?_; dsimp only)); refine box_event ?hg (N := 1) ?hd (cs := #[.string a0_0, .slice A0_1 l0_1.length c0_1, .int .i64 a0_2, .slice A0_3 l0_3.length c0_3, .slice A0_4 l0_4.length c0_4, .slice A0_5 l0_5.length c0_5]) (t := 27) ?hr ?_; (case hd => rfl); (case hg => rfl); (case hr => go_simp; try rfl); intro gb103 hg w37 hbox hb; have BK103 := Aside0.mk (hbox); have GW103 := Aside0.mk (gwQ hg HB.out); have GE103 := Aside0.mk (gwQ hg HB.out); replace HB := Aside0.mk (bsQ hb HB.out); clear hb hbox hg) | ((with_reducible refine gate_dst (N := 2) rfl ?_); (try (refine gate_guard (by rfl) ?_; dsimp only)); refine box_event ?hg (N := 2) ?hd (cs := #[.int .i64 0, .int .i64 0]) (t := 67) ?hr ?_; (case hd => rfl); (case hg => rfl); (case hr => go_simp; try rfl); intro gb104 hg w38 hbox hb; have n0_ := Aside0.mk (bbQ hb BK103.out); have n1_ := Aside0.mk (bs1Q hb (by repeat with_reducible first | exact HB.out | apply pw_below_drewN | apply below_drew1 | refine below_set ?_ GE103.out)); have n2_ := Aside0.mk (hbox); have n3_ := Aside0.mk (gw1Q hg (by repeat with_reducible first | exact HB.out | apply pw_below_drewN | apply below_drew1 | refine below_set ?_ GE103.out)); have n4_ := Aside0.mk (gw1Q hg (by repeat with_reducible first | exact HB.out | apply pw_below_drewN | apply below_drew1 | refine below_set ?_ GE103.out)); have n5_ := Aside0.mk ((by rw [hg]; exact Nat.ne_of_lt (blk_lt (g := gb103) (o := .cells #[.string a0_0, .slice A0_1 l0_1.length c0_1, .int .i64 a0_2, .slice A0_3 l0_3.length c0_3, .slice A0_4 l0_4.length c0_4, .slice A0_5 l0_5.length c0_5] 27 (0, 0)) (by exact BK103.out)) : gb103 ≠ gb104)); have n6_ := Aside0.mk ((by rw [hg]; exact Nat.ne_of_gt (blk_lt (g := gb103) (o := .cells #[.string a0_0, .slice A0_1 l0_1.length c0_1, .int .i64 a0_2, .slice A0_3 l0_3.length c0_3, .slice A0_4 l0_4.length c0_4, .slice A0_5 l0_5.length c0_5] 27 (0, 0)) (by exact BK103.out)) : gb104 ≠ gb103)); clear BK103; clear HB; have BK103 := n0_; have HB := n1_; have BK104 := n2_; have GW104 := n3_; have GE104 := n4_; have NB103_104 := n5_; have NB104_103 := n6_; clear n0_ n1_ n2_ n3_ n4_ n5_ n6_; clear hb hbox hg; have hnb39 := NB103_104.out; have hnc39 := NB104_103.out; obtain ⟨hcz40_0, hcz40_1, hcz40_2, hcz40_3, hcz40_4, hcz40_5⟩ := bcQ6 BK103.out; obtain ⟨hfz40_0, hfz40_1, hfz40_2, hfz40_3, hfz40_4, hfz40_5⟩ := fzQ6 BK103.out) | ((with_reducible refine gate_callee (f := 11) rfl ?_); refine goesL_ (some 6) rfl rfl Try.func11 (by kernel_rfl) rfl #[.string a0_0] rfl (by (try simp only [List.map_toArray, List.map_cons, List.map_nil]); try rfl) ?_; (with_reducible refine (object_Name.calls a0_0 true _ A2.out).mono ?_); rintro e w41 ⟨rfl, hb⟩; refine ⟨_, rfl, ?_⟩; replace BK103 := Aside0.mk (bbQ hb BK103.out); replace BK104 := Aside0.mk (bbQ hb BK104.out); replace HB := Aside0.mk (bs1Q hb (by repeat with_reducible first | exact HB.out | apply pw_below_drewN | apply below_drew1 | refine below_set ?_ GE103.out | refine below_set ?_ GE104.out)); (try clear hb); (try clear hb2); (try clear hk); (try clear hi); obtain ⟨hcz42_0, hcz42_1, hcz42_2, hcz42_3, hcz42_4, hcz42_5⟩ := bcQ6 BK103.out; obtain ⟨hfz42_0, hfz42_1, hfz42_2, hfz42_3, hfz42_4, hfz42_5⟩ := fzQ6 BK103.out; obtain ⟨hcz43_0, hcz43_1⟩ := bcQ2 BK104.out; obtain ⟨hfz43_0, hfz43_1⟩ := fzQ2 BK104.out))
       refine bodyPost_ret (results_cell_row rfl _ _ gb104 67 #[.int .i64 25, .int .i64 (-1)] (0, 0) _ rfl (by refine blk_put (cs := #[.int .i64 25, .int .i64 0]) ?_ 1 _ rfl; refine blk_put (cs := #[.int .i64 0, .int .i64 0]) ?_ 0 _ rfl; exact BK104.out) Try.underlying67 rfl (by kernel_rfl)) rfl ?_
       exact ⟨by first | rfl | (simp [errW_none, errW_some] <;> rfl) | (simp [*, errW_none, errW_some] <;> rfl), by repeat with_reducible first | exact HB.out | apply pw_below_drewN | apply below_drew1 | refine below_set ?_ GE103.out | refine below_set ?_ GE104.out⟩
      ·
       rw [if_neg c36] at H
       have c36b0 : decide (4096 < a0_2) = false := decide_eq_false c36
       clear c36
       by_cases c44 : (l0_3.length : Int) > (wrap64 (4096 - a0_2))
       ·
        rw [if_pos c44] at H
        have c44b0 : decide ((wrap64 (4096 - a0_2)) < (l0_3.length : Int)) = true := decide_eq_true c44
        clear c44
        simp only [Option.some.injEq, Prod.mk.injEq] at H
        obtain ⟨rfl, rfl⟩ := H
        go_enter Try.func26, Try.ntmps26
        go_wp2_with (first | ((with_reducible refine gate_dst (N := 1) rfl ?_); (try (refine gate_guard (by rfl) ?_; dsimp only)); refine box_event ?hg (N := 1) ?hd (cs := #[.string a0_0, .slice A0_1 l0_1.length c0_1, .int .i64 a0_2, .slice A0_3 l0_3.length c0_3, .slice A0_4 l0_4.length c0_4, .slice A0_5 l0_5.length c0_5]) (t := 27) ?hr ?_; (case hd => rfl); (case hg => rfl); (case hr => go_simp; try rfl); intro gb103 hg w45 hbox hb; have BK103 := Aside0.mk (hbox); have GW103 := Aside0.mk (gwQ hg HB.out); have GE103 := Aside0.mk (gwQ hg HB.out); replace HB := Aside0.mk (bsQ hb HB.out); clear hb hbox hg) | ((with_reducible refine gate_dst (N := 2) rfl ?_); (try (refine gate_guard (by rfl) ?_; dsimp only)); refine box_event ?hg (N := 2) ?hd (cs := #[.int .i64 0, .int .i64 0]) (t := 67) ?hr ?_; (case hd => rfl); (case hg => rfl); (case hr => go_simp; try rfl); intro gb104 hg w46 hbox hb; have n0_ := Aside0.mk (bbQ hb BK103.out); have n1_ := Aside0.mk (bs1Q hb (by repeat with_reducible first | exact HB.out | apply pw_below_drewN | apply below_drew1 | refine below_set ?_ GE103.out)); have n2_ := Aside0.mk (hbox); have n3_ := Aside0.mk (gw1Q hg (by repeat with_reducible first | exact HB.out | apply pw_below_drewN | apply below_drew1 | refine below_set ?_ GE103.out)); have n4_ := Aside0.mk (gw1Q hg (by repeat with_reducible first | exact HB.out | apply pw_below_drewN | apply below_drew1 | refine below_set ?_ GE103.out)); have n5_ := Aside0.mk ((by rw [hg]; exact Nat.ne_of_lt (blk_lt (g := gb103) (o := .cells #[.string a0_0, .slice A0_1 l0_1.length c0_1, .int .i64 a0_2, .slice A0_3 l0_3.length c0_3, .slice A0_4 l0_4.length c0_4, .slice A0_5 l0_5.length c0_5] 27 (0, 0)) (by exact BK103.out)) : gb103 ≠ gb104)); have n6_ := Aside0.mk ((by rw [hg]; exact Nat.ne_of_gt (blk_lt (g := gb103) (o := .cells #[.string a0_0, .slice A0_1 l0_1.length c0_1, .int .i64 a0_2, .slice A0_3 l0_3.length c0_3, .slice A0_4 l0_4.length c0_4, .slice A0_5 l0_5.length c0_5] 27 (0, 0)) (by exact BK103.out)) : gb104 ≠ gb103)); clear BK103; clear HB; have BK103 := n0_; have HB := n1_; have BK104 := n2_; have GW104 := n3_; have GE104 := n4_; have NB103_104 := n5_; have NB104_103 := n6_; clear n0_ n1_ n2_ n3_ n4_ n5_ n6_; clear hb hbox hg; have hnb47 := NB103_104.out; have hnc47 := NB104_103.out; obtain ⟨hcz48_0, hcz48_1, hcz48_2, hcz48_3, hcz48_4, hcz48_5⟩ := bcQ6 BK103.out; obtain ⟨hfz48_0, hfz48_1, hfz48_2, hfz48_3, hfz48_4, hfz48_5⟩ := fzQ6 BK103.out) | ((with_reducible refine gate_callee (f := 11) rfl ?_); refine goesL_ (some 6) rfl rfl Try.func11 (by kernel_rfl) rfl #[.string a0_0] rfl (by (try simp only [List.map_toArray, List.map_cons, List.map_nil]); try rfl) ?_; (with_reducible refine (object_Name.calls a0_0 true _ A2.out).mono ?_); rintro e w49 ⟨rfl, hb⟩; refine ⟨_, rfl, ?_⟩; replace BK103 := Aside0.mk (bbQ hb BK103.out); replace BK104 := Aside0.mk (bbQ hb BK104.out); replace HB := Aside0.mk (bs1Q hb (by repeat with_reducible first | exact HB.out | apply pw_below_drewN | apply below_drew1 | refine below_set ?_ GE103.out | refine below_set ?_ GE104.out)); (try clear hb); (try clear hb2); (try clear hk); (try clear hi); obtain ⟨hcz50_0, hcz50_1, hcz50_2, hcz50_3, hcz50_4, hcz50_5⟩ := bcQ6 BK103.out; obtain ⟨hfz50_0, hfz50_1, hfz50_2, hfz50_3, hfz50_4, hfz50_5⟩ := fzQ6 BK103.out; obtain ⟨hcz51_0, hcz51_1⟩ := bcQ2 BK104.out; obtain ⟨hfz51_0, hfz51_1⟩ := fzQ2 BK104.out))
        refine bodyPost_ret (results_cell_row rfl _ _ gb104 67 #[.int .i64 25, .int .i64 (-1)] (0, 0) _ rfl (by refine blk_put (cs := #[.int .i64 25, .int .i64 0]) ?_ 1 _ rfl; refine blk_put (cs := #[.int .i64 0, .int .i64 0]) ?_ 0 _ rfl; exact BK104.out) Try.underlying67 rfl (by kernel_rfl)) rfl ?_
        exact ⟨by first | rfl | (simp [errW_none, errW_some] <;> rfl) | (simp [*, errW_none, errW_some] <;> rfl), by repeat with_reducible first | exact HB.out | apply pw_below_drewN | apply below_drew1 | refine below_set ?_ GE103.out | refine below_set ?_ GE104.out⟩
       ·
        rw [if_neg c44] at H
        have c44b0 : decide ((wrap64 (4096 - a0_2)) < (l0_3.length : Int)) = false := decide_eq_false c44
        clear c44
        simp only [Option.some.injEq, Prod.mk.injEq] at H
        obtain ⟨rfl, rfl⟩ := H
        go_enter Try.func26, Try.ntmps26
        go_wp2_with (first | ((with_reducible refine gate_dst (N := 1) rfl ?_); (try (refine gate_guard (by rfl) ?_; dsimp only)); refine box_event ?hg (N := 1) ?hd (cs := #[.string a0_0, .slice A0_1 l0_1.length c0_1, .int .i64 a0_2, .slice A0_3 l0_3.length c0_3, .slice A0_4 l0_4.length c0_4, .slice A0_5 l0_5.length c0_5]) (t := 27) ?hr ?_; (case hd => rfl); (case hg => rfl); (case hr => go_simp; try rfl); intro gb103 hg w52 hbox hb; have BK103 := Aside0.mk (hbox); have GW103 := Aside0.mk (gwQ hg HB.out); have GE103 := Aside0.mk (gwQ hg HB.out); replace HB := Aside0.mk (bsQ hb HB.out); clear hb hbox hg) | ((with_reducible refine gate_dst (N := 2) rfl ?_); (try (refine gate_guard (by rfl) ?_; dsimp only)); refine box_event ?hg (N := 2) ?hd (cs := #[.int .i64 0, .int .i64 0]) (t := 67) ?hr ?_; (case hd => rfl); (case hg => rfl); (case hr => go_simp; try rfl); intro gb104 hg w53 hbox hb; have n0_ := Aside0.mk (bbQ hb BK103.out); have n1_ := Aside0.mk (bs1Q hb (by repeat with_reducible first | exact HB.out | apply pw_below_drewN | apply below_drew1 | refine below_set ?_ GE103.out)); have n2_ := Aside0.mk (hbox); have n3_ := Aside0.mk (gw1Q hg (by repeat with_reducible first | exact HB.out | apply pw_below_drewN | apply below_drew1 | refine below_set ?_ GE103.out)); have n4_ := Aside0.mk (gw1Q hg (by repeat with_reducible first | exact HB.out | apply pw_below_drewN | apply below_drew1 | refine below_set ?_ GE103.out)); have n5_ := Aside0.mk ((by rw [hg]; exact Nat.ne_of_lt (blk_lt (g := gb103) (o := .cells #[.string a0_0, .slice A0_1 l0_1.length c0_1, .int .i64 a0_2, .slice A0_3 l0_3.length c0_3, .slice A0_4 l0_4.length c0_4, .slice A0_5 l0_5.length c0_5] 27 (0, 0)) (by exact BK103.out)) : gb103 ≠ gb104)); have n6_ := Aside0.mk ((by rw [hg]; exact Nat.ne_of_gt (blk_lt (g := gb103) (o := .cells #[.string a0_0, .slice A0_1 l0_1.length c0_1, .int .i64 a0_2, .slice A0_3 l0_3.length c0_3, .slice A0_4 l0_4.length c0_4, .slice A0_5 l0_5.length c0_5] 27 (0, 0)) (by exact BK103.out)) : gb104 ≠ gb103)); clear BK103; clear HB; have BK103 := n0_; have HB := n1_; have BK104 := n2_; have GW104 := n3_; have GE104 := n4_; have NB103_104 := n5_; have NB104_103 := n6_; clear n0_ n1_ n2_ n3_ n4_ n5_ n6_; clear hb hbox hg; have hnb54 := NB103_104.out; have hnc54 := NB104_103.out; obtain ⟨hcz55_0, hcz55_1, hcz55_2, hcz55_3, hcz55_4, hcz55_5⟩ := bcQ6 BK103.out; obtain ⟨hfz55_0, hfz55_1, hfz55_2, hfz55_3, hfz55_4, hfz55_5⟩ := fzQ6 BK103.out) | ((with_reducible refine gate_callee (f := 11) rfl ?_); refine goesL_ (some 6) rfl rfl Try.func11 (by kernel_rfl) rfl #[.string a0_0] rfl (by (try simp only [List.map_toArray, List.map_cons, List.map_nil]); try rfl) ?_; (with_reducible refine (object_Name.calls a0_0 true _ A2.out).mono ?_); rintro e w56 ⟨rfl, hb⟩; refine ⟨_, rfl, ?_⟩; replace BK103 := Aside0.mk (bbQ hb BK103.out); replace BK104 := Aside0.mk (bbQ hb BK104.out); replace HB := Aside0.mk (bs1Q hb (by repeat with_reducible first | exact HB.out | apply pw_below_drewN | apply below_drew1 | refine below_set ?_ GE103.out | refine below_set ?_ GE104.out)); (try clear hb); (try clear hb2); (try clear hk); (try clear hi); obtain ⟨hcz57_0, hcz57_1, hcz57_2, hcz57_3, hcz57_4, hcz57_5⟩ := bcQ6 BK103.out; obtain ⟨hfz57_0, hfz57_1, hfz57_2, hfz57_3, hfz57_4, hfz57_5⟩ := fzQ6 BK103.out; obtain ⟨hcz58_0, hcz58_1⟩ := bcQ2 BK104.out; obtain ⟨hfz58_0, hfz58_1⟩ := fzQ2 BK104.out))
        refine bodyPost_ret (results_cell_row rfl _ _ gb104 67 #[.int .i64 0, .int .i64 0] (0, 0) _ rfl (by refine blk_put (cs := #[.int .i64 0, .int .i64 0]) ?_ 1 _ rfl; refine blk_put (cs := #[.int .i64 0, .int .i64 0]) ?_ 0 _ rfl; exact BK104.out) Try.underlying67 rfl (by kernel_rfl)) rfl ?_
        exact ⟨by first | rfl | (simp [errW_none, errW_some] <;> rfl) | (simp [*, errW_none, errW_some] <;> rfl), by repeat with_reducible first | exact HB.out | apply pw_below_drewN | apply below_drew1 | refine below_set ?_ GE103.out | refine below_set ?_ GE104.out⟩
 ·
  replace c3 := Bool.eq_false_iff.mpr c3
  subst c3
  rw [if_neg Bool.false_ne_true] at H
  simp only [Option.some.injEq, Prod.mk.injEq] at H
  obtain ⟨rfl, rfl⟩ := H
  go_enter Try.func26, Try.ntmps26
  go_wp2_with (first | ((with_reducible refine gate_dst (N := 1) rfl ?_); (try (refine gate_guard (by rfl) ?_; dsimp only)); refine box_event ?hg (N := 1) ?hd (cs := #[.string a0_0, .slice A0_1 l0_1.length c0_1, .int .i64 a0_2, .slice A0_3 l0_3.length c0_3, .slice A0_4 l0_4.length c0_4, .slice A0_5 l0_5.length c0_5]) (t := 27) ?hr ?_; (case hd => rfl); (case hg => rfl); (case hr => go_simp; try rfl); intro gb103 hg w59 hbox hb; have BK103 := Aside0.mk (hbox); have GW103 := Aside0.mk (gwQ hg HB.out); have GE103 := Aside0.mk (gwQ hg HB.out); replace HB := Aside0.mk (bsQ hb HB.out); clear hb hbox hg) | ((with_reducible refine gate_dst (N := 2) rfl ?_); (try (refine gate_guard (by rfl) ?_; dsimp only)); refine box_event ?hg (N := 2) ?hd (cs := #[.int .i64 0, .int .i64 0]) (t := 67) ?hr ?_; (case hd => rfl); (case hg => rfl); (case hr => go_simp; try rfl); intro gb104 hg w60 hbox hb; have n0_ := Aside0.mk (bbQ hb BK103.out); have n1_ := Aside0.mk (bs1Q hb (by repeat with_reducible first | exact HB.out | apply pw_below_drewN | apply below_drew1 | refine below_set ?_ GE103.out)); have n2_ := Aside0.mk (hbox); have n3_ := Aside0.mk (gw1Q hg (by repeat with_reducible first | exact HB.out | apply pw_below_drewN | apply below_drew1 | refine below_set ?_ GE103.out)); have n4_ := Aside0.mk (gw1Q hg (by repeat with_reducible first | exact HB.out | apply pw_below_drewN | apply below_drew1 | refine below_set ?_ GE103.out)); have n5_ := Aside0.mk ((by rw [hg]; exact Nat.ne_of_lt (blk_lt (g := gb103) (o := .cells #[.string a0_0, .slice A0_1 l0_1.length c0_1, .int .i64 a0_2, .slice A0_3 l0_3.length c0_3, .slice A0_4 l0_4.length c0_4, .slice A0_5 l0_5.length c0_5] 27 (0, 0)) (by exact BK103.out)) : gb103 ≠ gb104)); have n6_ := Aside0.mk ((by rw [hg]; exact Nat.ne_of_gt (blk_lt (g := gb103) (o := .cells #[.string a0_0, .slice A0_1 l0_1.length c0_1, .int .i64 a0_2, .slice A0_3 l0_3.length c0_3, .slice A0_4 l0_4.length c0_4, .slice A0_5 l0_5.length c0_5] 27 (0, 0)) (by exact BK103.out)) : gb104 ≠ gb103)); clear BK103; clear HB; have BK103 := n0_; have HB := n1_; have BK104 := n2_; have GW104 := n3_; have GE104 := n4_; have NB103_104 := n5_; have NB104_103 := n6_; clear n0_ n1_ n2_ n3_ n4_ n5_ n6_; clear hb hbox hg; have hnb61 := NB103_104.out; have hnc61 := NB104_103.out; obtain ⟨hcz62_0, hcz62_1, hcz62_2, hcz62_3, hcz62_4, hcz62_5⟩ := bcQ6 BK103.out; obtain ⟨hfz62_0, hfz62_1, hfz62_2, hfz62_3, hfz62_4, hfz62_5⟩ := fzQ6 BK103.out) | ((with_reducible refine gate_callee (f := 11) rfl ?_); refine goesL_ (some 6) rfl rfl Try.func11 (by kernel_rfl) rfl #[.string a0_0] rfl (by (try simp only [List.map_toArray, List.map_cons, List.map_nil]); try rfl) ?_; (with_reducible refine (object_Name.calls a0_0 false _ A2.out).mono ?_); rintro e w63 ⟨rfl, hb⟩; refine ⟨_, rfl, ?_⟩; replace BK103 := Aside0.mk (bbQ hb BK103.out); replace BK104 := Aside0.mk (bbQ hb BK104.out); replace HB := Aside0.mk (bs1Q hb (by repeat with_reducible first | exact HB.out | apply pw_below_drewN | apply below_drew1 | refine below_set ?_ GE103.out | refine below_set ?_ GE104.out)); (try clear hb); (try clear hb2); (try clear hk); (try clear hi); obtain ⟨hcz64_0, hcz64_1⟩ := bcQ2 BK104.out; obtain ⟨hfz64_0, hfz64_1⟩ := fzQ2 BK104.out))
  refine bodyPost_ret (results_cell_row rfl _ _ gb104 67 #[.int .i64 20, .int .i64 (-1)] (0, 0) _ rfl (by refine blk_put (cs := #[.int .i64 20, .int .i64 0]) ?_ 1 _ rfl; refine blk_put (cs := #[.int .i64 0, .int .i64 0]) ?_ 0 _ rfl; exact BK104.out) Try.underlying67 rfl (by kernel_rfl)) rfl ?_
  exact ⟨by first | rfl | (simp [errW_none, errW_some] <;> rfl) | (simp [*, errW_none, errW_some] <;> rfl), by repeat with_reducible first | exact HB.out | apply pw_below_drewN | apply below_drew1 | refine below_set ?_ GE103.out | refine below_set ?_ GE104.out⟩
end Go.Proofs.Ytiaohbbafaaibab.P

/- OWN TEXT: what object.Check comes to (it calls closures out of a list, which the print does not take), in the print's own form. -/
namespace Go.Proofs.Ytiaohbbafaaibab.P
open Go.RowKit Go.Maps Go.Proofs.YtiaohbbafaaibabW.PrintWords Go.Proofs.YtiaohbbafaaibabW.PrintLast Go.Proofs.YtiaohbbafaaibabW.PrintMore Go.Proofs.Ytiaohbbafaaibab.Arr Go.Proofs.Ytiaohbbafaaibab.MapB
set_option linter.unusedVariables false
set_option linter.unusedSimpArgs false

theorem size_eq (name : ByteArray) (code : List Int) (dat : Int) (data : List Int) (syms : List Sym) (rels : List Rel) : object_size.f name code dat data syms rels = some (sizeS name code dat data syms.length rels.length) := by
 unfold object_size.f sizeS object_Name.f
 simp only [Option.bind_some]
 by_cases c0 : nameS name = true
 ·
  rw [if_pos c0, if_pos c0]
  by_cases c1 : (code.length : Int) > 16384
  ·
   rw [if_pos c1, if_pos c1]
  rw [if_neg c1, if_neg c1]
  by_cases c2 : (syms.length : Int) > 256
  ·
   rw [if_pos c2, if_pos c2]
  rw [if_neg c2, if_neg c2]
  by_cases c3 : (rels.length : Int) > (code.length : Int)
  ·
   rw [if_pos c3, if_pos c3]
  rw [if_neg c3, if_neg c3]
  by_cases c4 : dat < 0
  ·
   rw [if_pos c4, if_pos c4]
  rw [if_neg c4, if_neg c4]
  by_cases c5 : dat > 4096
  ·
   rw [if_pos c5, if_pos c5]
  rw [if_neg c5, if_neg c5]
  rw [show wrap64 (4096 - dat) = 4096 - dat from wrap64_id (by omega) (by omega)]
  split <;> rfl
 ·
  rw [if_neg c0, if_neg c0]
theorem sizeS_ok {name : ByteArray} {code : List Int} {dat : Int} {data : List Int} {ns nr : Nat} (h : (sizeS name code dat data ns nr).1 = 0) : nameS name = true ∧ code.length ≤ 16384 ∧ ns ≤ 256 ∧ nr ≤ code.length ∧ 0 ≤ dat ∧ dat + (data.length : Int) ≤ 4096 := by
 unfold sizeS at h
 split at h
 ·
  rename_i h0
  refine ⟨h0, ?_⟩
  split at h
  ·
   exact absurd h (by decide)
  split at h
  ·
   exact absurd h (by decide)
  split at h
  ·
   exact absurd h (by decide)
  split at h
  ·
   exact absurd h (by decide)
  split at h
  ·
   exact absurd h (by decide)
  split at h
  ·
   exact absurd h (by decide)
  omega
 ·
  exact absurd h (by decide)
section
variable {P : Program} {ops : Array Oper} {rest : List Oper} {o : Oper} {a : Act} {Q : Exit → Act → World → Prop}
theorem lit_event {W : World} (hgd : o.guard = none) {N : Tmp} (_hd : o.dst = some N) {cs : Array Value} {e : TypeId} {n : Nat}
  (hrun : (execOp a.eval o).run P W = .ok (.value (.slice (some ⟨W.heap.size, 0, none⟩) n n)) (W.alloc (.cells cs e (0, 0))))
  (h : ∀ g, g = W.heap.size → ∀ w1, w1.heap[g]? = some (.cells cs e (0, 0)) → Below W.heap.size W w1 → wpList P ops Q rest (a.put o.dst (.slice (some ⟨g, 0, none⟩) n n)) w1) : wpList P ops Q (o :: rest) a W :=
 Kd.event_run hgd hrun (h _ rfl _ (blk_new W _) (below_alloc (Below.refl _ _) _))
end

set_option maxHeartbeats 4000000 in
set_option maxRecDepth 100000 in
theorem chk1.calls (a0_0 : ByteArray) (A0_1 : Option Addr) (c0_1 : Nat) (l0_1 : List Int) (a0_2 : Int) (A0_3 : Option Addr) (c0_3 : Nat) (l0_3 : List Int) (A0_4 : Option Addr) (c0_4 : Nat) (l0_4 : List (S37)) (A0_5 : Option Addr) (c0_5 : Nat) (l0_5 : List (S41)) (gb : Nat) (r1 r2 : Int) (w : World) (hr0_1 : Kd.C (Kd.int .u32) w A0_1 l0_1.length l0_1) (hc0_1 : l0_1.length ≤ c0_1) (hr0_3 : Kd.C (Kd.int .i64) w A0_3 l0_3.length l0_3) (hc0_3 : l0_3.length ≤ c0_3) (hr0_4 : Kd.C k37 w A0_4 l0_4.length l0_4) (hc0_4 : l0_4.length ≤ c0_4) (hr0_5 : Kd.C k41 w A0_5 l0_5.length l0_5) (hc0_5 : l0_5.length ≤ c0_5) (hob : w.heap[gb]? = some (objCell a0_0 A0_1 l0_1.length c0_1 a0_2 A0_3 l0_3.length c0_3 A0_4 l0_4.length c0_4 A0_5 l0_5.length c0_5)) (h : sizeS a0_0 l0_1 a0_2 l0_3 l0_4.length l0_5.length = (r1, r2)) :
  Calls Try.prog 25 #[.pointer (some ⟨gb, 0, none⟩)] w fun e w' => e = .returned (.agg #[.int .i64 r1, .int .i64 r2]) ∧ Below w.heap.size w w' := by
 have hu1 := Try.underlying27
 have hu2 := Try.underlying67
 have HR1 := Aside0.mk hr0_1
 have HC1 := Aside0.mk hc0_1
 have HR3 := Aside0.mk hr0_3
 have HC3 := Aside0.mk hc0_3
 have HR4 := Aside0.mk hr0_4
 have HC4 := Aside0.mk hc0_4
 have HR5 := Aside0.mk hr0_5
 have HC5 := Aside0.mk hc0_5
 have HH := Aside0.mk h
 have BO := Aside0.mk hob
 clear hr0_1 hc0_1 hr0_3 hc0_3 hr0_4 hc0_4 hr0_5 hc0_5 h hob
 go_enter Try.func25, Try.ntmps25
 go_wp2_with (first | ((with_reducible refine gate_dst (N := 1) rfl ?_); refine box_event ?hg (N := 1) ?hd (cs := #[.int .i64 0, .int .i64 0]) (t := 67) ?hr ?_; (case hd => rfl); (case hg => rfl); (case hr => first | (go_simp; done) | (go_simp; rfl)); intro gr hgr w2 BK2 hb2; have G1 := Aside0.mk (show w.heap.size ≤ gr by rw [hgr]; exact Nat.le_refl _); have HB := Aside0.mk (below_then (Below.refl w.heap.size w) (Nat.le_refl _) hb2); have BOn := Aside0.mk (blk_below BO.out hb2); have BR := Aside0.mk (show w2.heap[gr]? = some (ansCell 0 0) from BK2); clear BO BK2 hb2 hgr; have BO := BOn; clear BOn; have hco0 := blk_cell BO.out 0; have hco1 := blk_cell BO.out 1; have hco2 := blk_cell BO.out 2; have hco3 := blk_cell BO.out 3; have hco4 := blk_cell BO.out 4; have hco5 := blk_cell BO.out 5) | (go_at_call 26; refine (object_size.calls a0_0 A0_1 c0_1 l0_1 a0_2 A0_3 c0_3 l0_3 A0_4 c0_4 l0_4 A0_5 c0_5 l0_5 _ _ _ (Kd.C_below HR1.out HB.out) HC1.out (Kd.C_below HR3.out HB.out) HC3.out (Kd.C_below HR4.out HB.out) HC4.out (Kd.C_below HR5.out HB.out) HC5.out (by rw [size_eq, HH.out])).mono ?_; rintro e w3 ⟨rfl, hb⟩; have HBn := Aside0.mk (below_then HB.out HB.out.size hb); have BRn := Aside0.mk (blk_below BR.out hb); clear HB BR BO hb; have HB := HBn; have BR := BRn; clear HBn BRn) | ((with_reducible refine gate_store (t := 67) rfl ?_); refine wpList_store_whole rfl rfl rfl gr _ #[.int .i64 r1, .int .i64 r2] _ rfl rfl BR.out (by kernel_rfl) rfl (two_one _ _) ?_; intro w9 hp; have HE := Aside0.mk (hp.below HB.out G1.out); have HP := Aside0.mk hp.blk; clear hp))
 refine bodyPost_ret (results_cell_row rfl _ _ gr 67 #[.int .i64 r1, .int .i64 r2] (0, 0) _ rfl HP.out Try.underlying67 rfl (by kernel_rfl)) rfl ?_
 exact ⟨rfl, HE.out⟩

set_option maxHeartbeats 4000000 in
set_option maxRecDepth 100000 in
theorem chk2.calls (a0_0 : ByteArray) (A0_1 : Option Addr) (c0_1 : Nat) (l0_1 : List Int) (a0_2 : Int) (A0_3 : Option Addr) (c0_3 : Nat) (l0_3 : List Int) (A0_4 : Option Addr) (c0_4 : Nat) (l0_4 : List (S37)) (A0_5 : Option Addr) (c0_5 : Nat) (l0_5 : List (S41)) (gb : Nat) (r1 r2 : Int) (w : World) (hr0_1 : Kd.C (Kd.int .u32) w A0_1 l0_1.length l0_1) (hc0_1 : l0_1.length ≤ c0_1) (hr0_3 : Kd.C (Kd.int .i64) w A0_3 l0_3.length l0_3) (hc0_3 : l0_3.length ≤ c0_3) (hr0_4 : Kd.C k37 w A0_4 l0_4.length l0_4) (hc0_4 : l0_4.length ≤ c0_4) (hr0_5 : Kd.C k41 w A0_5 l0_5.length l0_5) (hc0_5 : l0_5.length ≤ c0_5) (hl : l0_4.length ≤ 1000000) (hob : w.heap[gb]? = some (objCell a0_0 A0_1 l0_1.length c0_1 a0_2 A0_3 l0_3.length c0_3 A0_4 l0_4.length c0_4 A0_5 l0_5.length c0_5)) (h : symsS l0_4 (l0_1.length : Int) = (r1, r2)) :
  Calls Try.prog 27 #[.pointer (some ⟨gb, 0, none⟩)] w fun e w' => e = .returned (.agg #[.int .i64 r1, .int .i64 r2]) ∧ Below w.heap.size w w' := by
 have hu1 := Try.underlying27
 have hu2 := Try.underlying67
 have HR1 := Aside0.mk hr0_1
 have HC1 := Aside0.mk hc0_1
 have HR3 := Aside0.mk hr0_3
 have HC3 := Aside0.mk hc0_3
 have HR4 := Aside0.mk hr0_4
 have HC4 := Aside0.mk hc0_4
 have HR5 := Aside0.mk hr0_5
 have HC5 := Aside0.mk hc0_5
 have HH := Aside0.mk h
 have BO := Aside0.mk hob
 have HL := Aside0.mk hl
 clear hl
 clear hr0_1 hc0_1 hr0_3 hc0_3 hr0_4 hc0_4 hr0_5 hc0_5 h hob
 go_enter Try.func27, Try.ntmps27
 go_wp2_with (first | ((with_reducible refine gate_dst (N := 1) rfl ?_); refine box_event ?hg (N := 1) ?hd (cs := #[.int .i64 0, .int .i64 0]) (t := 67) ?hr ?_; (case hd => rfl); (case hg => rfl); (case hr => first | (go_simp; done) | (go_simp; rfl)); intro gr hgr w2 BK2 hb2; have G1 := Aside0.mk (show w.heap.size ≤ gr by rw [hgr]; exact Nat.le_refl _); have HB := Aside0.mk (below_then (Below.refl w.heap.size w) (Nat.le_refl _) hb2); have BOn := Aside0.mk (blk_below BO.out hb2); have BR := Aside0.mk (show w2.heap[gr]? = some (ansCell 0 0) from BK2); clear BO BK2 hb2 hgr; have BO := BOn; clear BOn; have hco0 := blk_cell BO.out 0; have hco1 := blk_cell BO.out 1; have hco2 := blk_cell BO.out 2; have hco3 := blk_cell BO.out 3; have hco4 := blk_cell BO.out 4; have hco5 := blk_cell BO.out 5) | (go_at_call 28; refine (object_symbols.calls a0_0 A0_1 c0_1 l0_1 a0_2 A0_3 c0_3 l0_3 A0_4 c0_4 l0_4 A0_5 c0_5 l0_5 _ _ _ (Kd.C_below HR1.out HB.out) HC1.out (Kd.C_below HR3.out HB.out) HC3.out (Kd.C_below HR4.out HB.out) HC4.out (Kd.C_below HR5.out HB.out) HC5.out HL.out HH.out).mono ?_; rintro e w3 ⟨rfl, hb⟩; have HBn := Aside0.mk (below_then HB.out HB.out.size hb); have BRn := Aside0.mk (blk_below BR.out hb); clear HB BR BO hb; have HB := HBn; have BR := BRn; clear HBn BRn) | ((with_reducible refine gate_store (t := 67) rfl ?_); refine wpList_store_whole rfl rfl rfl gr _ #[.int .i64 r1, .int .i64 r2] _ rfl rfl BR.out (by kernel_rfl) rfl (two_one _ _) ?_; intro w9 hp; have HE := Aside0.mk (hp.below HB.out G1.out); have HP := Aside0.mk hp.blk; clear hp))
 refine bodyPost_ret (results_cell_row rfl _ _ gr 67 #[.int .i64 r1, .int .i64 r2] (0, 0) _ rfl HP.out Try.underlying67 rfl (by kernel_rfl)) rfl ?_
 exact ⟨rfl, HE.out⟩

set_option maxHeartbeats 4000000 in
set_option maxRecDepth 100000 in
theorem chk3.calls (a0_0 : ByteArray) (A0_1 : Option Addr) (c0_1 : Nat) (l0_1 : List Int) (a0_2 : Int) (A0_3 : Option Addr) (c0_3 : Nat) (l0_3 : List Int) (A0_4 : Option Addr) (c0_4 : Nat) (l0_4 : List (S37)) (A0_5 : Option Addr) (c0_5 : Nat) (l0_5 : List (S41)) (gb : Nat) (r1 r2 : Int) (w : World) (hr0_1 : Kd.C (Kd.int .u32) w A0_1 l0_1.length l0_1) (hc0_1 : l0_1.length ≤ c0_1) (hr0_3 : Kd.C (Kd.int .i64) w A0_3 l0_3.length l0_3) (hc0_3 : l0_3.length ≤ c0_3) (hr0_4 : Kd.C k37 w A0_4 l0_4.length l0_4) (hc0_4 : l0_4.length ≤ c0_4) (hr0_5 : Kd.C k41 w A0_5 l0_5.length l0_5) (hc0_5 : l0_5.length ≤ c0_5) (hw : wordsO l0_1 = true) (hl : l0_1.length ≤ 16384) (hl5 : l0_5.length ≤ 1000000) (hob : w.heap[gb]? = some (objCell a0_0 A0_1 l0_1.length c0_1 a0_2 A0_3 l0_3.length c0_3 A0_4 l0_4.length c0_4 A0_5 l0_5.length c0_5)) (h : relocsS l0_1 (l0_4.length : Int) l0_5 = (r1, r2)) :
  Calls Try.prog 29 #[.pointer (some ⟨gb, 0, none⟩)] w fun e w' => e = .returned (.agg #[.int .i64 r1, .int .i64 r2]) ∧ Below w.heap.size w w' := by
 have hu1 := Try.underlying27
 have hu2 := Try.underlying67
 have HR1 := Aside0.mk hr0_1
 have HC1 := Aside0.mk hc0_1
 have HR3 := Aside0.mk hr0_3
 have HC3 := Aside0.mk hc0_3
 have HR4 := Aside0.mk hr0_4
 have HC4 := Aside0.mk hc0_4
 have HR5 := Aside0.mk hr0_5
 have HC5 := Aside0.mk hc0_5
 have HH := Aside0.mk h
 have BO := Aside0.mk hob
 have HL := Aside0.mk hl
 have HL5 := Aside0.mk hl5
 have HW := Aside0.mk hw
 clear hl hl5 hw
 clear hr0_1 hc0_1 hr0_3 hc0_3 hr0_4 hc0_4 hr0_5 hc0_5 h hob
 go_enter Try.func29, Try.ntmps29
 go_wp2_with (first | ((with_reducible refine gate_dst (N := 1) rfl ?_); refine box_event ?hg (N := 1) ?hd (cs := #[.int .i64 0, .int .i64 0]) (t := 67) ?hr ?_; (case hd => rfl); (case hg => rfl); (case hr => first | (go_simp; done) | (go_simp; rfl)); intro gr hgr w2 BK2 hb2; have G1 := Aside0.mk (show w.heap.size ≤ gr by rw [hgr]; exact Nat.le_refl _); have HB := Aside0.mk (below_then (Below.refl w.heap.size w) (Nat.le_refl _) hb2); have BOn := Aside0.mk (blk_below BO.out hb2); have BR := Aside0.mk (show w2.heap[gr]? = some (ansCell 0 0) from BK2); clear BO BK2 hb2 hgr; have BO := BOn; clear BOn; have hco0 := blk_cell BO.out 0; have hco1 := blk_cell BO.out 1; have hco2 := blk_cell BO.out 2; have hco3 := blk_cell BO.out 3; have hco4 := blk_cell BO.out 4; have hco5 := blk_cell BO.out 5) | (go_at_call 30; refine (object_relocs.calls a0_0 A0_1 c0_1 l0_1 a0_2 A0_3 c0_3 l0_3 A0_4 c0_4 l0_4 A0_5 c0_5 l0_5 _ _ _ (Kd.C_below HR1.out HB.out) HC1.out (Kd.C_below HR3.out HB.out) HC3.out (Kd.C_below HR4.out HB.out) HC4.out (Kd.C_below HR5.out HB.out) HC5.out HW.out HL.out HL5.out HH.out).mono ?_; rintro e w3 ⟨rfl, hb⟩; have HBn := Aside0.mk (below_then HB.out HB.out.size hb); have BRn := Aside0.mk (blk_below BR.out hb); clear HB BR BO hb; have HB := HBn; have BR := BRn; clear HBn BRn) | ((with_reducible refine gate_store (t := 67) rfl ?_); refine wpList_store_whole rfl rfl rfl gr _ #[.int .i64 r1, .int .i64 r2] _ rfl rfl BR.out (by kernel_rfl) rfl (two_one _ _) ?_; intro w9 hp; have HE := Aside0.mk (hp.below HB.out G1.out); have HP := Aside0.mk hp.blk; clear hp))
 refine bodyPost_ret (results_cell_row rfl _ _ gr 67 #[.int .i64 r1, .int .i64 r2] (0, 0) _ rfl HP.out Try.underlying67 rfl (by kernel_rfl)) rfl ?_
 exact ⟨rfl, HE.out⟩

def fsCell (gb : Nat) : Obj := .cells #[(.func (.func 25) #[] #[.pointer (some ⟨gb, 0, none⟩)]), (.func (.func 27) #[] #[.pointer (some ⟨gb, 0, none⟩)]), (.func (.func 29) #[] #[.pointer (some ⟨gb, 0, none⟩)])] 69 (0, 0)
structure OC (w W : World) (gb : Nat) (oi : Obj) (gf : Nat) : Prop where
  low : Below w.heap.size w W
  obj : W.heap[gb]? = some oi
  fs : W.heap[gf]? = some (fsCell gb)
  g1 : w.heap.size ≤ gb
  g2 : w.heap.size ≤ gf
theorem OC.below {w W W1 : World} {gb gf : Nat} {oi : Obj} (h : OC w W gb oi gf) (hb : Below W.heap.size W W1) : OC w W1 gb oi gf :=
 ⟨below_then h.low h.low.size hb, blk_below h.obj hb, blk_below h.fs hb, h.g1, h.g2⟩
theorem OC.grown {w W W1 : World} {gb gf g : Nat} {oi : Obj} (h : OC w W gb oi gf) (hg : W.grownBy W1 (some g)) (hw : w.heap.size ≤ g) (h1 : gb ≠ g) (h2 : gf ≠ g) : OC w W1 gb oi gf :=
 ⟨pw_below_grown h.low (some g) h.low.size hg (fun k hk => by have := Option.some.inj hk; omega), blk_grown h.obj hg (fun e => h1 (Option.some.inj e)), blk_grown h.fs hg (fun e => h2 (Option.some.inj e)), h.g1, h.g2⟩
set_option maxHeartbeats 8000000 in
set_option maxRecDepth 100000 in
theorem object_Check.calls (a0_0 : ByteArray) (A0_1 : Option Addr) (c0_1 : Nat) (l0_1 : List Int) (a0_2 : Int) (A0_3 : Option Addr) (c0_3 : Nat) (l0_3 : List Int) (A0_4 : Option Addr) (c0_4 : Nat) (l0_4 : List (S37)) (A0_5 : Option Addr) (c0_5 : Nat) (l0_5 : List (S41)) (r1 r2 : Int) (w : World) (hr0_1 : Kd.C (Kd.int .u32) w A0_1 l0_1.length l0_1) (hc0_1 : l0_1.length ≤ c0_1) (hr0_3 : Kd.C (Kd.int .i64) w A0_3 l0_3.length l0_3) (hc0_3 : l0_3.length ≤ c0_3) (hr0_4 : Kd.C k37 w A0_4 l0_4.length l0_4) (hc0_4 : l0_4.length ≤ c0_4) (hr0_5 : Kd.C k41 w A0_5 l0_5.length l0_5) (hc0_5 : l0_5.length ≤ c0_5) (h : object_Check.f a0_0 l0_1 a0_2 l0_3 l0_4 l0_5 = some (r1, r2)) :
  Calls Try.prog 8 #[.agg #[.string a0_0, .slice A0_1 l0_1.length c0_1, .int .i64 a0_2, .slice A0_3 l0_3.length c0_3, .slice A0_4 l0_4.length c0_4, .slice A0_5 l0_5.length c0_5]] w fun e w' => e = .returned (.tuple #[.int .i64 r1, .int .i64 r2]) ∧ Below w.heap.size w w' := by
 have hu1 := Try.underlying27
 have hu2 := Try.underlying67
 unfold object_Check.f at h
 by_cases hw : wordsO l0_1 = true
 ·
  rw [if_pos hw] at h
  have h := Option.some.inj h
  have HR1 := Aside0.mk hr0_1
  have HC1 := Aside0.mk hc0_1
  have HR3 := Aside0.mk hr0_3
  have HC3 := Aside0.mk hc0_3
  have HR4 := Aside0.mk hr0_4
  have HC4 := Aside0.mk hc0_4
  have HR5 := Aside0.mk hr0_5
  have HC5 := Aside0.mk hc0_5
  have HW := Aside0.mk hw
  clear hr0_1 hc0_1 hr0_3 hc0_3 hr0_4 hc0_4 hr0_5 hc0_5 hw
  unfold chkO at h
  have hok : (sizeS a0_0 l0_1 a0_2 l0_3 l0_4.length l0_5.length).1 = 0 → _ := fun h => sizeS_ok h
  generalize hz1 : sizeS a0_0 l0_1 a0_2 l0_3 l0_4.length l0_5.length = z1 at h hok
  have H1 := Aside0.mk hz1
  clear hz1
  obtain ⟨s1, n1⟩ := z1
  simp only at h hok
  by_cases k1 : s1 = 0
  ·
   rw [if_pos k1] at h
   obtain ⟨_, hl1, hl4, hl5, _, _⟩ := hok k1
   subst k1
   have HL1 := Aside0.mk hl1
   have HL4 := Aside0.mk (show l0_4.length ≤ 1000000 by omega)
   have HL5 := Aside0.mk (show l0_5.length ≤ 1000000 by omega)
   clear hok hl1 hl4 hl5
   generalize hz2 : symsS l0_4 (l0_1.length : Int) = z2 at h
   have H2 := Aside0.mk hz2
   clear hz2
   obtain ⟨s2, n2⟩ := z2
   simp only at h
   by_cases k2 : s2 = 0
   ·
    rw [if_pos k2] at h
    subst k2
    generalize hz3 : relocsS l0_1 (l0_4.length : Int) l0_5 = z3 at h
    have H3 := Aside0.mk hz3
    clear hz3
    obtain ⟨s3, n3⟩ := z3
    simp only at h
    by_cases k3 : s3 = 0
    ·
     rw [if_pos k3] at h
     subst k3
     injection h with e1 e2
     subst e1 e2
     go_enter Try.func8, Try.ntmps8
     go_wp2_with (first | ((with_reducible refine gate_dst (N := 1) rfl ?_); refine box_event ?hg (N := 1) ?hd (cs := #[.string a0_0, .slice A0_1 l0_1.length c0_1, .int .i64 a0_2, .slice A0_3 l0_3.length c0_3, .slice A0_4 l0_4.length c0_4, .slice A0_5 l0_5.length c0_5]) (t := 27) ?hr ?_; (case hd => rfl); (case hg => rfl); (case hr => first | (go_simp; done) | (go_simp; rfl)); intro gb hgb w1 BK1 hb1; have HB := Aside0.mk (below_then (Below.refl w.heap.size w) (Nat.le_refl _) hb1); have GB := Aside0.mk (show w.heap.size ≤ gb by rw [hgb]; exact Nat.le_refl _); have BO := Aside0.mk (show w1.heap[gb]? = some (objCell a0_0 A0_1 l0_1.length c0_1 a0_2 A0_3 l0_3.length c0_3 A0_4 l0_4.length c0_4 A0_5 l0_5.length c0_5) from BK1); clear BK1 hb1 hgb) | ((with_reducible refine gate_dst (N := 11) rfl ?_); refine lit_event ?hg (N := 11) ?hd (cs := #[(.func (.func 25) #[] #[.pointer (some ⟨gb, 0, none⟩)]), (.func (.func 27) #[] #[.pointer (some ⟨gb, 0, none⟩)]), (.func (.func 29) #[] #[.pointer (some ⟨gb, 0, none⟩)])]) (e := 69) (n := 3) ?hr ?_; (case hd => rfl); (case hg => rfl); (case hr => first | (go_simp; done) | (go_simp; rfl)); intro gf hgf w2 BK2 hb2; have HO := Aside0.mk (show OC w w2 gb (objCell a0_0 A0_1 l0_1.length c0_1 a0_2 A0_3 l0_3.length c0_3 A0_4 l0_4.length c0_4 A0_5 l0_5.length c0_5) gf from ⟨below_then HB.out HB.out.size hb2, blk_below BO.out hb2, BK2, GB.out, by rw [hgf]; exact HB.out.size⟩); clear HB BO BK2 hb2 hgf GB; have hf0 := blk_cell HO.out.fs 0; have hf1 := blk_cell HO.out.fs 1; have hf2 := blk_cell HO.out.fs 2))
     refine wp_loop_rounds 4 ?_
     rw [rounds_succ]
     go_wp2_with (first | (go_at_call 25; refine (chk1.calls a0_0 A0_1 c0_1 l0_1 a0_2 A0_3 c0_3 l0_3 A0_4 c0_4 l0_4 A0_5 c0_5 l0_5 gb _ _ _ (Kd.C_below HR1.out HO.out.low) HC1.out (Kd.C_below HR3.out HO.out.low) HC3.out (Kd.C_below HR4.out HO.out.low) HC4.out (Kd.C_below HR5.out HO.out.low) HC5.out HO.out.obj H1.out).mono ?_; rintro e w3 ⟨rfl, hb⟩; have HOn := Aside0.mk (HO.out.below hb); clear HO hb; have HO := HOn; clear HOn; have hf0 := blk_cell HO.out.fs 0; have hf1 := blk_cell HO.out.fs 1; have hf2 := blk_cell HO.out.fs 2) | ((with_reducible refine gate_dst (N := 7) rfl ?_); refine box_event ?hg (N := 7) ?hd (cs := #[.int .i64 0, .int .i64 0]) (t := 67) ?hr ?_; (case hd => rfl); (case hg => rfl); (case hr => first | (go_simp; done) | (go_simp; rfl)); intro gs hgs w5 BK5 hb5; have LF := Aside0.mk (show gf < gs by rw [hgs]; exact blk_lt HO.out.fs); have LG := Aside0.mk (show gb < gs by rw [hgs]; exact blk_lt HO.out.obj); have HOn := Aside0.mk (HO.out.below hb5); have BS := Aside0.mk BK5; clear HO BK5 hb5 hgs; have HO := HOn; clear HOn; have hf0 := blk_cell HO.out.fs 0; have hf1 := blk_cell HO.out.fs 1; have hf2 := blk_cell HO.out.fs 2) | ((with_reducible refine gate_store (t := 67) rfl ?_); refine wpList_store_whole rfl rfl rfl gs _ #[.int .i64 0, .int .i64 n1] _ rfl rfl BS.out (by kernel_rfl) rfl (two_one _ _) ?_; intro w6 hp; have HOn := Aside0.mk (HO.out.grown (put_grownN hp) (by have := LG.out; have := HO.out.g1; omega) (by have := LG.out; omega) (by have := LF.out; omega)); have BSn := Aside0.mk hp.blk; clear HO BS hp LF LG; have HO := HOn; clear HOn; have hs0 := blk_cell BSn.out 0; have hs1 := blk_cell BSn.out 1; clear BSn; have hf0 := blk_cell HO.out.fs 0; have hf1 := blk_cell HO.out.fs 1; have hf2 := blk_cell HO.out.fs 2))
     rw [rounds_succ]
     go_wp2_with (first | (go_at_call 27; refine (chk2.calls a0_0 A0_1 c0_1 l0_1 a0_2 A0_3 c0_3 l0_3 A0_4 c0_4 l0_4 A0_5 c0_5 l0_5 gb _ _ _ (Kd.C_below HR1.out HO.out.low) HC1.out (Kd.C_below HR3.out HO.out.low) HC3.out (Kd.C_below HR4.out HO.out.low) HC4.out (Kd.C_below HR5.out HO.out.low) HC5.out HL4.out HO.out.obj H2.out).mono ?_; rintro e w3 ⟨rfl, hb⟩; have HOn := Aside0.mk (HO.out.below hb); clear HO hb; have HO := HOn; clear HOn; have hf0 := blk_cell HO.out.fs 0; have hf1 := blk_cell HO.out.fs 1; have hf2 := blk_cell HO.out.fs 2) | ((with_reducible refine gate_dst (N := 7) rfl ?_); refine box_event ?hg (N := 7) ?hd (cs := #[.int .i64 0, .int .i64 0]) (t := 67) ?hr ?_; (case hd => rfl); (case hg => rfl); (case hr => first | (go_simp; done) | (go_simp; rfl)); intro gs hgs w5 BK5 hb5; have LF := Aside0.mk (show gf < gs by rw [hgs]; exact blk_lt HO.out.fs); have LG := Aside0.mk (show gb < gs by rw [hgs]; exact blk_lt HO.out.obj); have HOn := Aside0.mk (HO.out.below hb5); have BS := Aside0.mk BK5; clear HO BK5 hb5 hgs; have HO := HOn; clear HOn; have hf0 := blk_cell HO.out.fs 0; have hf1 := blk_cell HO.out.fs 1; have hf2 := blk_cell HO.out.fs 2) | ((with_reducible refine gate_store (t := 67) rfl ?_); refine wpList_store_whole rfl rfl rfl gs _ #[.int .i64 0, .int .i64 n2] _ rfl rfl BS.out (by kernel_rfl) rfl (two_one _ _) ?_; intro w6 hp; have HOn := Aside0.mk (HO.out.grown (put_grownN hp) (by have := LG.out; have := HO.out.g1; omega) (by have := LG.out; omega) (by have := LF.out; omega)); have BSn := Aside0.mk hp.blk; clear HO BS hp LF LG; have HO := HOn; clear HOn; have hs0 := blk_cell BSn.out 0; have hs1 := blk_cell BSn.out 1; clear BSn; have hf0 := blk_cell HO.out.fs 0; have hf1 := blk_cell HO.out.fs 1; have hf2 := blk_cell HO.out.fs 2))
     rw [rounds_succ]
     go_wp2_with (first | (go_at_call 29; refine (chk3.calls a0_0 A0_1 c0_1 l0_1 a0_2 A0_3 c0_3 l0_3 A0_4 c0_4 l0_4 A0_5 c0_5 l0_5 gb _ _ _ (Kd.C_below HR1.out HO.out.low) HC1.out (Kd.C_below HR3.out HO.out.low) HC3.out (Kd.C_below HR4.out HO.out.low) HC4.out (Kd.C_below HR5.out HO.out.low) HC5.out HW.out HL1.out HL5.out HO.out.obj H3.out).mono ?_; rintro e w3 ⟨rfl, hb⟩; have HOn := Aside0.mk (HO.out.below hb); clear HO hb; have HO := HOn; clear HOn; have hf0 := blk_cell HO.out.fs 0; have hf1 := blk_cell HO.out.fs 1; have hf2 := blk_cell HO.out.fs 2) | ((with_reducible refine gate_dst (N := 7) rfl ?_); refine box_event ?hg (N := 7) ?hd (cs := #[.int .i64 0, .int .i64 0]) (t := 67) ?hr ?_; (case hd => rfl); (case hg => rfl); (case hr => first | (go_simp; done) | (go_simp; rfl)); intro gs hgs w5 BK5 hb5; have LF := Aside0.mk (show gf < gs by rw [hgs]; exact blk_lt HO.out.fs); have LG := Aside0.mk (show gb < gs by rw [hgs]; exact blk_lt HO.out.obj); have HOn := Aside0.mk (HO.out.below hb5); have BS := Aside0.mk BK5; clear HO BK5 hb5 hgs; have HO := HOn; clear HOn; have hf0 := blk_cell HO.out.fs 0; have hf1 := blk_cell HO.out.fs 1; have hf2 := blk_cell HO.out.fs 2) | ((with_reducible refine gate_store (t := 67) rfl ?_); refine wpList_store_whole rfl rfl rfl gs _ #[.int .i64 0, .int .i64 n3] _ rfl rfl BS.out (by kernel_rfl) rfl (two_one _ _) ?_; intro w6 hp; have HOn := Aside0.mk (HO.out.grown (put_grownN hp) (by have := LG.out; have := HO.out.g1; omega) (by have := LG.out; omega) (by have := LF.out; omega)); have BSn := Aside0.mk hp.blk; clear HO BS hp LF LG; have HO := HOn; clear HOn; have hs0 := blk_cell BSn.out 0; have hs1 := blk_cell BSn.out 1; clear BSn; have hf0 := blk_cell HO.out.fs 0; have hf1 := blk_cell HO.out.fs 1; have hf2 := blk_cell HO.out.fs 2))
     rw [rounds_succ]
     go_wp2
     go_ret2
     exact ⟨rfl, HO.out.low⟩
    ·
     rw [if_neg k3] at h
     injection h with e1 e2
     subst e1 e2
     have k3b : (s3 != 0) = true := bne_iff_ne.mpr k3
     clear k3
     go_enter Try.func8, Try.ntmps8
     go_wp2_with (first | ((with_reducible refine gate_dst (N := 1) rfl ?_); refine box_event ?hg (N := 1) ?hd (cs := #[.string a0_0, .slice A0_1 l0_1.length c0_1, .int .i64 a0_2, .slice A0_3 l0_3.length c0_3, .slice A0_4 l0_4.length c0_4, .slice A0_5 l0_5.length c0_5]) (t := 27) ?hr ?_; (case hd => rfl); (case hg => rfl); (case hr => first | (go_simp; done) | (go_simp; rfl)); intro gb hgb w1 BK1 hb1; have HB := Aside0.mk (below_then (Below.refl w.heap.size w) (Nat.le_refl _) hb1); have GB := Aside0.mk (show w.heap.size ≤ gb by rw [hgb]; exact Nat.le_refl _); have BO := Aside0.mk (show w1.heap[gb]? = some (objCell a0_0 A0_1 l0_1.length c0_1 a0_2 A0_3 l0_3.length c0_3 A0_4 l0_4.length c0_4 A0_5 l0_5.length c0_5) from BK1); clear BK1 hb1 hgb) | ((with_reducible refine gate_dst (N := 11) rfl ?_); refine lit_event ?hg (N := 11) ?hd (cs := #[(.func (.func 25) #[] #[.pointer (some ⟨gb, 0, none⟩)]), (.func (.func 27) #[] #[.pointer (some ⟨gb, 0, none⟩)]), (.func (.func 29) #[] #[.pointer (some ⟨gb, 0, none⟩)])]) (e := 69) (n := 3) ?hr ?_; (case hd => rfl); (case hg => rfl); (case hr => first | (go_simp; done) | (go_simp; rfl)); intro gf hgf w2 BK2 hb2; have HO := Aside0.mk (show OC w w2 gb (objCell a0_0 A0_1 l0_1.length c0_1 a0_2 A0_3 l0_3.length c0_3 A0_4 l0_4.length c0_4 A0_5 l0_5.length c0_5) gf from ⟨below_then HB.out HB.out.size hb2, blk_below BO.out hb2, BK2, GB.out, by rw [hgf]; exact HB.out.size⟩); clear HB BO BK2 hb2 hgf GB; have hf0 := blk_cell HO.out.fs 0; have hf1 := blk_cell HO.out.fs 1; have hf2 := blk_cell HO.out.fs 2))
     refine wp_loop_rounds 4 ?_
     rw [rounds_succ]
     go_wp2_with (first | (go_at_call 25; refine (chk1.calls a0_0 A0_1 c0_1 l0_1 a0_2 A0_3 c0_3 l0_3 A0_4 c0_4 l0_4 A0_5 c0_5 l0_5 gb _ _ _ (Kd.C_below HR1.out HO.out.low) HC1.out (Kd.C_below HR3.out HO.out.low) HC3.out (Kd.C_below HR4.out HO.out.low) HC4.out (Kd.C_below HR5.out HO.out.low) HC5.out HO.out.obj H1.out).mono ?_; rintro e w3 ⟨rfl, hb⟩; have HOn := Aside0.mk (HO.out.below hb); clear HO hb; have HO := HOn; clear HOn; have hf0 := blk_cell HO.out.fs 0; have hf1 := blk_cell HO.out.fs 1; have hf2 := blk_cell HO.out.fs 2) | ((with_reducible refine gate_dst (N := 7) rfl ?_); refine box_event ?hg (N := 7) ?hd (cs := #[.int .i64 0, .int .i64 0]) (t := 67) ?hr ?_; (case hd => rfl); (case hg => rfl); (case hr => first | (go_simp; done) | (go_simp; rfl)); intro gs hgs w5 BK5 hb5; have LF := Aside0.mk (show gf < gs by rw [hgs]; exact blk_lt HO.out.fs); have LG := Aside0.mk (show gb < gs by rw [hgs]; exact blk_lt HO.out.obj); have HOn := Aside0.mk (HO.out.below hb5); have BS := Aside0.mk BK5; clear HO BK5 hb5 hgs; have HO := HOn; clear HOn; have hf0 := blk_cell HO.out.fs 0; have hf1 := blk_cell HO.out.fs 1; have hf2 := blk_cell HO.out.fs 2) | ((with_reducible refine gate_store (t := 67) rfl ?_); refine wpList_store_whole rfl rfl rfl gs _ #[.int .i64 0, .int .i64 n1] _ rfl rfl BS.out (by kernel_rfl) rfl (two_one _ _) ?_; intro w6 hp; have HOn := Aside0.mk (HO.out.grown (put_grownN hp) (by have := LG.out; have := HO.out.g1; omega) (by have := LG.out; omega) (by have := LF.out; omega)); have BSn := Aside0.mk hp.blk; clear HO BS hp LF LG; have HO := HOn; clear HOn; have hs0 := blk_cell BSn.out 0; have hs1 := blk_cell BSn.out 1; clear BSn; have hf0 := blk_cell HO.out.fs 0; have hf1 := blk_cell HO.out.fs 1; have hf2 := blk_cell HO.out.fs 2))
     rw [rounds_succ]
     go_wp2_with (first | (go_at_call 27; refine (chk2.calls a0_0 A0_1 c0_1 l0_1 a0_2 A0_3 c0_3 l0_3 A0_4 c0_4 l0_4 A0_5 c0_5 l0_5 gb _ _ _ (Kd.C_below HR1.out HO.out.low) HC1.out (Kd.C_below HR3.out HO.out.low) HC3.out (Kd.C_below HR4.out HO.out.low) HC4.out (Kd.C_below HR5.out HO.out.low) HC5.out HL4.out HO.out.obj H2.out).mono ?_; rintro e w3 ⟨rfl, hb⟩; have HOn := Aside0.mk (HO.out.below hb); clear HO hb; have HO := HOn; clear HOn; have hf0 := blk_cell HO.out.fs 0; have hf1 := blk_cell HO.out.fs 1; have hf2 := blk_cell HO.out.fs 2) | ((with_reducible refine gate_dst (N := 7) rfl ?_); refine box_event ?hg (N := 7) ?hd (cs := #[.int .i64 0, .int .i64 0]) (t := 67) ?hr ?_; (case hd => rfl); (case hg => rfl); (case hr => first | (go_simp; done) | (go_simp; rfl)); intro gs hgs w5 BK5 hb5; have LF := Aside0.mk (show gf < gs by rw [hgs]; exact blk_lt HO.out.fs); have LG := Aside0.mk (show gb < gs by rw [hgs]; exact blk_lt HO.out.obj); have HOn := Aside0.mk (HO.out.below hb5); have BS := Aside0.mk BK5; clear HO BK5 hb5 hgs; have HO := HOn; clear HOn; have hf0 := blk_cell HO.out.fs 0; have hf1 := blk_cell HO.out.fs 1; have hf2 := blk_cell HO.out.fs 2) | ((with_reducible refine gate_store (t := 67) rfl ?_); refine wpList_store_whole rfl rfl rfl gs _ #[.int .i64 0, .int .i64 n2] _ rfl rfl BS.out (by kernel_rfl) rfl (two_one _ _) ?_; intro w6 hp; have HOn := Aside0.mk (HO.out.grown (put_grownN hp) (by have := LG.out; have := HO.out.g1; omega) (by have := LG.out; omega) (by have := LF.out; omega)); have BSn := Aside0.mk hp.blk; clear HO BS hp LF LG; have HO := HOn; clear HOn; have hs0 := blk_cell BSn.out 0; have hs1 := blk_cell BSn.out 1; clear BSn; have hf0 := blk_cell HO.out.fs 0; have hf1 := blk_cell HO.out.fs 1; have hf2 := blk_cell HO.out.fs 2))
     rw [rounds_succ]
     go_wp2_with (first | (go_at_call 29; refine (chk3.calls a0_0 A0_1 c0_1 l0_1 a0_2 A0_3 c0_3 l0_3 A0_4 c0_4 l0_4 A0_5 c0_5 l0_5 gb _ _ _ (Kd.C_below HR1.out HO.out.low) HC1.out (Kd.C_below HR3.out HO.out.low) HC3.out (Kd.C_below HR4.out HO.out.low) HC4.out (Kd.C_below HR5.out HO.out.low) HC5.out HW.out HL1.out HL5.out HO.out.obj H3.out).mono ?_; rintro e w3 ⟨rfl, hb⟩; have HOn := Aside0.mk (HO.out.below hb); clear HO hb; have HO := HOn; clear HOn; have hf0 := blk_cell HO.out.fs 0; have hf1 := blk_cell HO.out.fs 1; have hf2 := blk_cell HO.out.fs 2) | ((with_reducible refine gate_dst (N := 7) rfl ?_); refine box_event ?hg (N := 7) ?hd (cs := #[.int .i64 0, .int .i64 0]) (t := 67) ?hr ?_; (case hd => rfl); (case hg => rfl); (case hr => first | (go_simp; done) | (go_simp; rfl)); intro gs hgs w5 BK5 hb5; have LF := Aside0.mk (show gf < gs by rw [hgs]; exact blk_lt HO.out.fs); have LG := Aside0.mk (show gb < gs by rw [hgs]; exact blk_lt HO.out.obj); have HOn := Aside0.mk (HO.out.below hb5); have BS := Aside0.mk BK5; clear HO BK5 hb5 hgs; have HO := HOn; clear HOn; have hf0 := blk_cell HO.out.fs 0; have hf1 := blk_cell HO.out.fs 1; have hf2 := blk_cell HO.out.fs 2) | ((with_reducible refine gate_store (t := 67) rfl ?_); refine wpList_store_whole rfl rfl rfl gs _ #[.int .i64 s3, .int .i64 n3] _ rfl rfl BS.out (by kernel_rfl) rfl (two_one _ _) ?_; intro w6 hp; have HOn := Aside0.mk (HO.out.grown (put_grownN hp) (by have := LG.out; have := HO.out.g1; omega) (by have := LG.out; omega) (by have := LF.out; omega)); have BSn := Aside0.mk hp.blk; clear HO BS hp LF LG; have HO := HOn; clear HOn; have hs0 := blk_cell BSn.out 0; have hs1 := blk_cell BSn.out 1; clear BSn; have hf0 := blk_cell HO.out.fs 0; have hf1 := blk_cell HO.out.fs 1; have hf2 := blk_cell HO.out.fs 2))
     repeat (go_quiet (fail); try go_wp2)
     go_ret2
     exact ⟨rfl, by first | exact HO.out.low | exact pw_below_drewN HO.out.low _⟩
   ·
    rw [if_neg k2] at h
    injection h with e1 e2
    subst e1 e2
    have k2b : (s2 != 0) = true := bne_iff_ne.mpr k2
    clear k2
    go_enter Try.func8, Try.ntmps8
    go_wp2_with (first | ((with_reducible refine gate_dst (N := 1) rfl ?_); refine box_event ?hg (N := 1) ?hd (cs := #[.string a0_0, .slice A0_1 l0_1.length c0_1, .int .i64 a0_2, .slice A0_3 l0_3.length c0_3, .slice A0_4 l0_4.length c0_4, .slice A0_5 l0_5.length c0_5]) (t := 27) ?hr ?_; (case hd => rfl); (case hg => rfl); (case hr => first | (go_simp; done) | (go_simp; rfl)); intro gb hgb w1 BK1 hb1; have HB := Aside0.mk (below_then (Below.refl w.heap.size w) (Nat.le_refl _) hb1); have GB := Aside0.mk (show w.heap.size ≤ gb by rw [hgb]; exact Nat.le_refl _); have BO := Aside0.mk (show w1.heap[gb]? = some (objCell a0_0 A0_1 l0_1.length c0_1 a0_2 A0_3 l0_3.length c0_3 A0_4 l0_4.length c0_4 A0_5 l0_5.length c0_5) from BK1); clear BK1 hb1 hgb) | ((with_reducible refine gate_dst (N := 11) rfl ?_); refine lit_event ?hg (N := 11) ?hd (cs := #[(.func (.func 25) #[] #[.pointer (some ⟨gb, 0, none⟩)]), (.func (.func 27) #[] #[.pointer (some ⟨gb, 0, none⟩)]), (.func (.func 29) #[] #[.pointer (some ⟨gb, 0, none⟩)])]) (e := 69) (n := 3) ?hr ?_; (case hd => rfl); (case hg => rfl); (case hr => first | (go_simp; done) | (go_simp; rfl)); intro gf hgf w2 BK2 hb2; have HO := Aside0.mk (show OC w w2 gb (objCell a0_0 A0_1 l0_1.length c0_1 a0_2 A0_3 l0_3.length c0_3 A0_4 l0_4.length c0_4 A0_5 l0_5.length c0_5) gf from ⟨below_then HB.out HB.out.size hb2, blk_below BO.out hb2, BK2, GB.out, by rw [hgf]; exact HB.out.size⟩); clear HB BO BK2 hb2 hgf GB; have hf0 := blk_cell HO.out.fs 0; have hf1 := blk_cell HO.out.fs 1; have hf2 := blk_cell HO.out.fs 2))
    refine wp_loop_rounds 4 ?_
    rw [rounds_succ]
    go_wp2_with (first | (go_at_call 25; refine (chk1.calls a0_0 A0_1 c0_1 l0_1 a0_2 A0_3 c0_3 l0_3 A0_4 c0_4 l0_4 A0_5 c0_5 l0_5 gb _ _ _ (Kd.C_below HR1.out HO.out.low) HC1.out (Kd.C_below HR3.out HO.out.low) HC3.out (Kd.C_below HR4.out HO.out.low) HC4.out (Kd.C_below HR5.out HO.out.low) HC5.out HO.out.obj H1.out).mono ?_; rintro e w3 ⟨rfl, hb⟩; have HOn := Aside0.mk (HO.out.below hb); clear HO hb; have HO := HOn; clear HOn; have hf0 := blk_cell HO.out.fs 0; have hf1 := blk_cell HO.out.fs 1; have hf2 := blk_cell HO.out.fs 2) | ((with_reducible refine gate_dst (N := 7) rfl ?_); refine box_event ?hg (N := 7) ?hd (cs := #[.int .i64 0, .int .i64 0]) (t := 67) ?hr ?_; (case hd => rfl); (case hg => rfl); (case hr => first | (go_simp; done) | (go_simp; rfl)); intro gs hgs w5 BK5 hb5; have LF := Aside0.mk (show gf < gs by rw [hgs]; exact blk_lt HO.out.fs); have LG := Aside0.mk (show gb < gs by rw [hgs]; exact blk_lt HO.out.obj); have HOn := Aside0.mk (HO.out.below hb5); have BS := Aside0.mk BK5; clear HO BK5 hb5 hgs; have HO := HOn; clear HOn; have hf0 := blk_cell HO.out.fs 0; have hf1 := blk_cell HO.out.fs 1; have hf2 := blk_cell HO.out.fs 2) | ((with_reducible refine gate_store (t := 67) rfl ?_); refine wpList_store_whole rfl rfl rfl gs _ #[.int .i64 0, .int .i64 n1] _ rfl rfl BS.out (by kernel_rfl) rfl (two_one _ _) ?_; intro w6 hp; have HOn := Aside0.mk (HO.out.grown (put_grownN hp) (by have := LG.out; have := HO.out.g1; omega) (by have := LG.out; omega) (by have := LF.out; omega)); have BSn := Aside0.mk hp.blk; clear HO BS hp LF LG; have HO := HOn; clear HOn; have hs0 := blk_cell BSn.out 0; have hs1 := blk_cell BSn.out 1; clear BSn; have hf0 := blk_cell HO.out.fs 0; have hf1 := blk_cell HO.out.fs 1; have hf2 := blk_cell HO.out.fs 2))
    rw [rounds_succ]
    go_wp2_with (first | (go_at_call 27; refine (chk2.calls a0_0 A0_1 c0_1 l0_1 a0_2 A0_3 c0_3 l0_3 A0_4 c0_4 l0_4 A0_5 c0_5 l0_5 gb _ _ _ (Kd.C_below HR1.out HO.out.low) HC1.out (Kd.C_below HR3.out HO.out.low) HC3.out (Kd.C_below HR4.out HO.out.low) HC4.out (Kd.C_below HR5.out HO.out.low) HC5.out HL4.out HO.out.obj H2.out).mono ?_; rintro e w3 ⟨rfl, hb⟩; have HOn := Aside0.mk (HO.out.below hb); clear HO hb; have HO := HOn; clear HOn; have hf0 := blk_cell HO.out.fs 0; have hf1 := blk_cell HO.out.fs 1; have hf2 := blk_cell HO.out.fs 2) | ((with_reducible refine gate_dst (N := 7) rfl ?_); refine box_event ?hg (N := 7) ?hd (cs := #[.int .i64 0, .int .i64 0]) (t := 67) ?hr ?_; (case hd => rfl); (case hg => rfl); (case hr => first | (go_simp; done) | (go_simp; rfl)); intro gs hgs w5 BK5 hb5; have LF := Aside0.mk (show gf < gs by rw [hgs]; exact blk_lt HO.out.fs); have LG := Aside0.mk (show gb < gs by rw [hgs]; exact blk_lt HO.out.obj); have HOn := Aside0.mk (HO.out.below hb5); have BS := Aside0.mk BK5; clear HO BK5 hb5 hgs; have HO := HOn; clear HOn; have hf0 := blk_cell HO.out.fs 0; have hf1 := blk_cell HO.out.fs 1; have hf2 := blk_cell HO.out.fs 2) | ((with_reducible refine gate_store (t := 67) rfl ?_); refine wpList_store_whole rfl rfl rfl gs _ #[.int .i64 s2, .int .i64 n2] _ rfl rfl BS.out (by kernel_rfl) rfl (two_one _ _) ?_; intro w6 hp; have HOn := Aside0.mk (HO.out.grown (put_grownN hp) (by have := LG.out; have := HO.out.g1; omega) (by have := LG.out; omega) (by have := LF.out; omega)); have BSn := Aside0.mk hp.blk; clear HO BS hp LF LG; have HO := HOn; clear HOn; have hs0 := blk_cell BSn.out 0; have hs1 := blk_cell BSn.out 1; clear BSn; have hf0 := blk_cell HO.out.fs 0; have hf1 := blk_cell HO.out.fs 1; have hf2 := blk_cell HO.out.fs 2))
    repeat (go_quiet (fail); try go_wp2)
    go_ret2
    exact ⟨rfl, by first | exact HO.out.low | exact pw_below_drewN HO.out.low _⟩
  ·
   rw [if_neg k1] at h
   injection h with e1 e2
   subst e1 e2
   have k1b : (s1 != 0) = true := bne_iff_ne.mpr k1
   clear k1 hok
   go_enter Try.func8, Try.ntmps8
   go_wp2_with (first | ((with_reducible refine gate_dst (N := 1) rfl ?_); refine box_event ?hg (N := 1) ?hd (cs := #[.string a0_0, .slice A0_1 l0_1.length c0_1, .int .i64 a0_2, .slice A0_3 l0_3.length c0_3, .slice A0_4 l0_4.length c0_4, .slice A0_5 l0_5.length c0_5]) (t := 27) ?hr ?_; (case hd => rfl); (case hg => rfl); (case hr => first | (go_simp; done) | (go_simp; rfl)); intro gb hgb w1 BK1 hb1; have HB := Aside0.mk (below_then (Below.refl w.heap.size w) (Nat.le_refl _) hb1); have GB := Aside0.mk (show w.heap.size ≤ gb by rw [hgb]; exact Nat.le_refl _); have BO := Aside0.mk (show w1.heap[gb]? = some (objCell a0_0 A0_1 l0_1.length c0_1 a0_2 A0_3 l0_3.length c0_3 A0_4 l0_4.length c0_4 A0_5 l0_5.length c0_5) from BK1); clear BK1 hb1 hgb) | ((with_reducible refine gate_dst (N := 11) rfl ?_); refine lit_event ?hg (N := 11) ?hd (cs := #[(.func (.func 25) #[] #[.pointer (some ⟨gb, 0, none⟩)]), (.func (.func 27) #[] #[.pointer (some ⟨gb, 0, none⟩)]), (.func (.func 29) #[] #[.pointer (some ⟨gb, 0, none⟩)])]) (e := 69) (n := 3) ?hr ?_; (case hd => rfl); (case hg => rfl); (case hr => first | (go_simp; done) | (go_simp; rfl)); intro gf hgf w2 BK2 hb2; have HO := Aside0.mk (show OC w w2 gb (objCell a0_0 A0_1 l0_1.length c0_1 a0_2 A0_3 l0_3.length c0_3 A0_4 l0_4.length c0_4 A0_5 l0_5.length c0_5) gf from ⟨below_then HB.out HB.out.size hb2, blk_below BO.out hb2, BK2, GB.out, by rw [hgf]; exact HB.out.size⟩); clear HB BO BK2 hb2 hgf GB; have hf0 := blk_cell HO.out.fs 0; have hf1 := blk_cell HO.out.fs 1; have hf2 := blk_cell HO.out.fs 2))
   refine wp_loop_rounds 4 ?_
   rw [rounds_succ]
   go_wp2_with (first | (go_at_call 25; refine (chk1.calls a0_0 A0_1 c0_1 l0_1 a0_2 A0_3 c0_3 l0_3 A0_4 c0_4 l0_4 A0_5 c0_5 l0_5 gb _ _ _ (Kd.C_below HR1.out HO.out.low) HC1.out (Kd.C_below HR3.out HO.out.low) HC3.out (Kd.C_below HR4.out HO.out.low) HC4.out (Kd.C_below HR5.out HO.out.low) HC5.out HO.out.obj H1.out).mono ?_; rintro e w3 ⟨rfl, hb⟩; have HOn := Aside0.mk (HO.out.below hb); clear HO hb; have HO := HOn; clear HOn; have hf0 := blk_cell HO.out.fs 0; have hf1 := blk_cell HO.out.fs 1; have hf2 := blk_cell HO.out.fs 2) | ((with_reducible refine gate_dst (N := 7) rfl ?_); refine box_event ?hg (N := 7) ?hd (cs := #[.int .i64 0, .int .i64 0]) (t := 67) ?hr ?_; (case hd => rfl); (case hg => rfl); (case hr => first | (go_simp; done) | (go_simp; rfl)); intro gs hgs w5 BK5 hb5; have LF := Aside0.mk (show gf < gs by rw [hgs]; exact blk_lt HO.out.fs); have LG := Aside0.mk (show gb < gs by rw [hgs]; exact blk_lt HO.out.obj); have HOn := Aside0.mk (HO.out.below hb5); have BS := Aside0.mk BK5; clear HO BK5 hb5 hgs; have HO := HOn; clear HOn; have hf0 := blk_cell HO.out.fs 0; have hf1 := blk_cell HO.out.fs 1; have hf2 := blk_cell HO.out.fs 2) | ((with_reducible refine gate_store (t := 67) rfl ?_); refine wpList_store_whole rfl rfl rfl gs _ #[.int .i64 s1, .int .i64 n1] _ rfl rfl BS.out (by kernel_rfl) rfl (two_one _ _) ?_; intro w6 hp; have HOn := Aside0.mk (HO.out.grown (put_grownN hp) (by have := LG.out; have := HO.out.g1; omega) (by have := LG.out; omega) (by have := LF.out; omega)); have BSn := Aside0.mk hp.blk; clear HO BS hp LF LG; have HO := HOn; clear HOn; have hs0 := blk_cell BSn.out 0; have hs1 := blk_cell BSn.out 1; clear BSn; have hf0 := blk_cell HO.out.fs 0; have hf1 := blk_cell HO.out.fs 1; have hf2 := blk_cell HO.out.fs 2))
   repeat (go_quiet (fail); try go_wp2)
   go_ret2
   exact ⟨rfl, by first | exact HO.out.low | exact pw_below_drewN HO.out.low _⟩
 ·
  rw [if_neg hw] at h; cases h
end Go.Proofs.Ytiaohbbafaaibab.P
