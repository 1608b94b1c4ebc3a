/- OWN TEXT and printed parts of this claim, laid together: P10, P1, P24, P11, P2. -/
import Derived.Test.YtiaohbbafaaibabZrM0
import Derived.Test.YtiaohbbafaaibabZrM9
import Derived.Test.YtiaohbbafaaibabZrM1
/- What the Go functions named below come to, as plain functions, each with its proof; written by this session's prt.py over the kit's print. -/
namespace Go.Proofs.Ytiaohbbafaaibab.P
open Go.RowKit Go.Proofs.YtiaohbbafaaibabW.PrintWords Go.Proofs.YtiaohbbafaaibabW.PrintLast Go.Proofs.YtiaohbbafaaibabW.PrintMore
attribute [local go_sem] max2_int min2_int max_two min_two max_three min_three max_four min_four   -- for this text's walks alone
set_option linter.unusedVariables false
set_option linter.unusedSimpArgs false

attribute [local go_sem high] eqA54
/-! ### pleatlaw08_two: function 37 -/
def pleatlaw08_two.f  : Option ((List (S27))) := some (([(⟨(⟨#[97]⟩ : ByteArray), ([] : List Int), 0, ([] : List Int), (([(⟨(⟨#[102]⟩ : ByteArray), 3, 0⟩ : S37)] : List (S37))), ([] : List (S41))⟩ : S27), (⟨(⟨#[98]⟩ : ByteArray), (([0, 0] : List Int)), 0, ([] : List Int), (([(⟨(⟨#[102]⟩ : ByteArray), 1, 2⟩ : S37)] : List (S37))), ([] : List (S41))⟩ : S27)] : List (S27)))
set_option maxHeartbeats 8000000 in
set_option maxRecDepth 100000 in
theorem pleatlaw08_two.calls  (r : List (S27)) (w : World) (h : pleatlaw08_two.f  = some r) :
  Calls Try.prog 37 #[] w fun e w' => ∃ v0_ : Value, e = .returned (v0_) ∧ Kd.N k27 27 w' w.heap.size (fun k_ => (w.heap.size ≤ k_)) v0_ r ∧ Below w.heap.size w w' := by
 have hu37 := Try.underlying37
 have hu27 := Try.underlying27
 have HB := Aside0.mk (Below.refl w.heap.size w)
 have H : (some (([(⟨(⟨#[97]⟩ : ByteArray), ([] : List Int), 0, ([] : List Int), (([(⟨(⟨#[102]⟩ : ByteArray), 3, 0⟩ : S37)] : List (S37))), ([] : List (S41))⟩ : S27), (⟨(⟨#[98]⟩ : ByteArray), (([0, 0] : List Int)), 0, ([] : List Int), (([(⟨(⟨#[102]⟩ : ByteArray), 1, 2⟩ : S37)] : List (S37))), ([] : List (S41))⟩ : S27)] : List (S27)))) = some r := h
 clear h
 obtain ⟨y354, hy354⟩ : ∃ y_ : List (S37), y_ = (([(⟨(⟨#[102]⟩ : ByteArray), 3, 0⟩ : S37)] : List (S37))) := ⟨_, rfl⟩
 replace H : (some (([(⟨(⟨#[97]⟩ : ByteArray), ([] : List Int), 0, ([] : List Int), y354, ([] : List (S41))⟩ : S27), (⟨(⟨#[98]⟩ : ByteArray), (([0, 0] : List Int)), 0, ([] : List Int), (([(⟨(⟨#[102]⟩ : ByteArray), 1, 2⟩ : S37)] : List (S37))), ([] : List (S41))⟩ : S27)] : List (S27)))) = some r := by first | (rw [hy354]; with_reducible exact H) | (have H2_ := (Option.bind_some _ _).symm.trans H; rw [hy354]; with_reducible exact H2_) | (have H2_ := (Option.bind_some _ _).symm.trans H; with_reducible exact H2_) | with_reducible exact H | (rw [hy354]; exact H) | exact H
 have Ny354 := Aside0.mk hy354
 clear hy354
 obtain ⟨y357, hy357⟩ : ∃ y_ : List Int, y_ = (([0, 0] : List Int)) := ⟨_, rfl⟩
 replace H : (some (([(⟨(⟨#[97]⟩ : ByteArray), ([] : List Int), 0, ([] : List Int), y354, ([] : List (S41))⟩ : S27), (⟨(⟨#[98]⟩ : ByteArray), y357, 0, ([] : List Int), (([(⟨(⟨#[102]⟩ : ByteArray), 1, 2⟩ : S37)] : List (S37))), ([] : List (S41))⟩ : S27)] : List (S27)))) = some r := by first | (rw [hy357]; with_reducible exact H) | (have H2_ := (Option.bind_some _ _).symm.trans H; rw [hy357]; with_reducible exact H2_) | (have H2_ := (Option.bind_some _ _).symm.trans H; with_reducible exact H2_) | with_reducible exact H | (rw [hy357]; exact H) | exact H
 have Ny357 := Aside0.mk hy357
 clear hy357
 obtain ⟨y360, hy360⟩ : ∃ y_ : List (S37), y_ = (([(⟨(⟨#[102]⟩ : ByteArray), 1, 2⟩ : S37)] : List (S37))) := ⟨_, rfl⟩
 replace H : (some (([(⟨(⟨#[97]⟩ : ByteArray), ([] : List Int), 0, ([] : List Int), y354, ([] : List (S41))⟩ : S27), (⟨(⟨#[98]⟩ : ByteArray), y357, 0, ([] : List Int), y360, ([] : List (S41))⟩ : S27)] : List (S27)))) = some r := by first | (rw [hy360]; with_reducible exact H) | (have H2_ := (Option.bind_some _ _).symm.trans H; rw [hy360]; with_reducible exact H2_) | (have H2_ := (Option.bind_some _ _).symm.trans H; with_reducible exact H2_) | with_reducible exact H | (rw [hy360]; exact H) | exact H
 have Ny360 := Aside0.mk hy360
 clear hy360
 obtain ⟨y363, hy363⟩ : ∃ y_ : List (S27), y_ = (([(⟨(⟨#[97]⟩ : ByteArray), ([] : List Int), 0, ([] : List Int), y354, ([] : List (S41))⟩ : S27), (⟨(⟨#[98]⟩ : ByteArray), y357, 0, ([] : List Int), y360, ([] : List (S41))⟩ : S27)] : List (S27))) := ⟨_, rfl⟩
 replace H : (some y363) = some r := by first | (rw [hy363]; with_reducible exact H) | (have H2_ := (Option.bind_some _ _).symm.trans H; rw [hy363]; with_reducible exact H2_) | (have H2_ := (Option.bind_some _ _).symm.trans H; with_reducible exact H2_) | with_reducible exact H | (rw [hy363]; exact H) | exact H
 have Ny363 := Aside0.mk hy363
 clear hy363
 obtain rfl := Option.some.inj H
 go_enter Try.func37, Try.ntmps37
 go_wp2_with (first | ((with_reducible refine gate_dst (N := 2) rfl ?_); refine Kd.R_lit k37 _ 37 ?hg (N := 2) ?hd (xs := ([(⟨(⟨#[102]⟩ : ByteArray), 3, 0⟩ : S37)] : List (S37))) (inner := [.string (⟨#[102]⟩ : ByteArray), .int .i8 3, .int .i64 0]) (ok := fun _ => True) (okp := fun _ => True) ?hr ?hp (fun _ hk => hk) trivial (Below.refl _ _) (Nat.le_refl _) (by simp) ?_; (case hd => rfl); (case hg => rfl); (case hr => go_simp; try rfl); (case hp => exact (Reps.c3 (show Kd.M k37 _ _ _ (⟨(⟨#[102]⟩ : ByteArray), 3, 0⟩ : S37) [.string (⟨#[102]⟩ : ByteArray), .int .i8 3, .int .i64 0] from (k37_mkM _ _ _ (⟨(⟨#[102]⟩ : ByteArray), 3, 0⟩ : S37) )) (Reps.none _ _))); intro v355 w1 ho2 hb hg_ hnew_; clear hg_ hnew_; (first | rw [← Ny354.out] at ho2 | (simp only [Int.reduceToNat] at ho2; rw [← Ny354.out] at ho2)); have HO356 := Aside0.mk (Kd.R_lower (Kd.R_newM (M := fun k_ => (w.heap.size ≤ k_)) ho2 (below_size (bwQ HB.out)) (fun k_ h_ => h_)) (below_size (bwQ HB.out))); replace HB := Aside0.mk (bsQ hb HB.out); clear hb ho2; obtain ⟨Ao3, co3, eo3⟩ := Kd.R_slice HO356.out; subst eo3) | ((with_reducible refine gate_dst (N := 4) rfl ?_); refine Kd.R_lit (Kd.int .u32) _ 42 ?hg (N := 4) ?hd (xs := ([0, 0] : List Int)) (inner := [.int .u32 0, .int .u32 0]) (ok := fun _ => True) (okp := fun _ => True) ?hr ?hp (fun _ hk => hk) trivial (Below.refl _ _) (Nat.le_refl _) (by simp) ?_; (case hd => rfl); (case hg => rfl); (case hr => go_simp; try rfl); (case hp => exact (Reps.one (show Kd.M (Kd.int .u32) _ _ _ 0 [.int .u32 0] from rfl) (Reps.one (show Kd.M (Kd.int .u32) _ _ _ 0 [.int .u32 0] from rfl) (Reps.none _ _)))); intro v358 w4 ho5 hb hg_ hnew_; clear hg_ hnew_; (first | rw [← Ny357.out] at ho5 | (simp only [Int.reduceToNat] at ho5; rw [← Ny357.out] at ho5)); have n0_ := Aside0.mk (Kd.R_below (by (with_reducible repeat (first | apply Kd.R_alloc | apply Kd.R_drewN | apply Kd.R_drew)); exact HO356.out) hb); have n1_ := Aside0.mk (Kd.R_lower (Kd.R_newM (M := fun k_ => (w.heap.size ≤ k_)) ho5 (below_size (bwQ HB.out)) (fun k_ h_ => h_)) (below_size (bwQ HB.out))); have n2_ := Aside0.mk (bsQ hb HB.out); clear HO356; clear HB; have HO356 := n0_; have HO359 := n1_; have HB := n2_; clear n0_ n1_ n2_; clear hb ho5) | ((with_reducible refine gate_dst (N := 6) rfl ?_); refine Kd.R_lit k37 _ 37 ?hg (N := 6) ?hd (xs := ([(⟨(⟨#[102]⟩ : ByteArray), 1, 2⟩ : S37)] : List (S37))) (inner := [.string (⟨#[102]⟩ : ByteArray), .int .i8 1, .int .i64 2]) (ok := fun _ => True) (okp := fun _ => True) ?hr ?hp (fun _ hk => hk) trivial (Below.refl _ _) (Nat.le_refl _) (by simp) ?_; (case hd => rfl); (case hg => rfl); (case hr => go_simp; try rfl); (case hp => exact (Reps.c3 (show Kd.M k37 _ _ _ (⟨(⟨#[102]⟩ : ByteArray), 1, 2⟩ : S37) [.string (⟨#[102]⟩ : ByteArray), .int .i8 1, .int .i64 2] from (k37_mkM _ _ _ (⟨(⟨#[102]⟩ : ByteArray), 1, 2⟩ : S37) )) (Reps.none _ _))); intro v361 w6 ho7 hb hg_ hnew_; clear hg_ hnew_; (first | rw [← Ny360.out] at ho7 | (simp only [Int.reduceToNat] at ho7; rw [← Ny360.out] at ho7)); have n0_ := Aside0.mk (Kd.R_elder' (by (with_reducible repeat (first | apply Kd.R_alloc | apply Kd.R_drewN | apply Kd.R_drew)); exact HO356.out) (Kd.R_base ho7) hb); have n1_ := Aside0.mk (Kd.R_below (by (with_reducible repeat (first | apply Kd.R_alloc | apply Kd.R_drewN | apply Kd.R_drew)); exact HO359.out) hb); have n2_ := Aside0.mk (Kd.R_lower (Kd.R_new' (Kd.R_newM (M := fun k_ => (w.heap.size ≤ k_)) ho7 (below_size (bwQ HB.out)) (fun k_ h_ => h_)) (Kd.R_lt (by (with_reducible repeat (first | apply Kd.R_alloc | apply Kd.R_drewN | apply Kd.R_drew)); exact HO356.out))) (below_size (bwQ HB.out))); have n3_ := Aside0.mk (bsQ hb HB.out); clear HO356; clear HO359; clear HB; have HO356 := n0_; have HO359 := n1_; have HO362 := n2_; have HB := n3_; clear n0_ n1_ n2_ n3_; clear hb ho7; obtain ⟨Ao8, co8, eo8⟩ := Kd.R_slice HO362.out; subst eo8; obtain ⟨Ao9, co9, eo9⟩ := Kd.R_slice HO359.out; subst eo9) | ((with_reducible refine gate_dst (N := 8) rfl ?_); refine Kd.N_lit k27 _ 27 ?hg (N' := 8) ?hd (xs := ([(⟨(⟨#[97]⟩ : ByteArray), ([] : List Int), 0, ([] : List Int), y354, ([] : List (S41))⟩ : S27), (⟨(⟨#[98]⟩ : ByteArray), y357, 0, ([] : List Int), y360, ([] : List (S41))⟩ : S27)] : List (S27))) (inner := [.string (⟨#[97]⟩ : ByteArray), .slice none 0 0, .int .i64 0, .slice none 0 0, .slice Ao3 y354.length co3, .slice none 0 0, .string (⟨#[98]⟩ : ByteArray), .slice Ao9 y357.length co9, .int .i64 0, .slice none 0 0, .slice Ao8 y360.length co8, .slice none 0 0]) (ok := (fun k_ => (w.heap.size ≤ k_))) (okp := (fun k_ => (w.heap.size ≤ k_))) ?hr ?hp (fun _ hk => hk) ((show ∀ k_, w6.heap.size ≤ k_ → (fun k_ => (w.heap.size ≤ k_)) k_ from fun k_ hk => (Nat.le_trans (below_size (bwQ HB.out)) hk)) _ (Nat.le_refl _)) (Below.refl _ _) (Nat.le_refl _) (by simp) ?_; (case hd => rfl); (case hg => rfl); (case hr => go_simp; try rfl); (case hp => exact (Reps.c6 (show Kd.FK k27 _ _ (⟨(⟨#[97]⟩ : ByteArray), ([] : List Int), 0, ([] : List Int), y354, ([] : List (S41))⟩ : S27) [.string (⟨#[97]⟩ : ByteArray), .slice none 0 0, .int .i64 0, .slice none 0 0, .slice Ao3 y354.length co3, .slice none 0 0] from (k27_mkF _ _ (⟨(⟨#[97]⟩ : ByteArray), ([] : List Int), 0, ([] : List Int), y354, ([] : List (S41))⟩ : S27) (Nat.le_refl _) (Kd.F_nil _ _ _) (Nat.le_refl _) (Kd.F_nil _ _ _) (Kd.R_reads' (Kd.R_mono (ok' := (fun k_ => (w.heap.size ≤ k_))) (HO356.out) (fun k_ hk => hk.1.1))).2.1 (Kd.R_F (Kd.R_mono (ok' := (fun k_ => (w.heap.size ≤ k_))) (HO356.out) (fun k_ hk => hk.1.1))) (Nat.le_refl _) (Kd.F_nil _ _ _))) (Reps.c6 (show Kd.FK k27 _ _ (⟨(⟨#[98]⟩ : ByteArray), y357, 0, ([] : List Int), y360, ([] : List (S41))⟩ : S27) [.string (⟨#[98]⟩ : ByteArray), .slice Ao9 y357.length co9, .int .i64 0, .slice none 0 0, .slice Ao8 y360.length co8, .slice none 0 0] from (k27_mkF _ _ (⟨(⟨#[98]⟩ : ByteArray), y357, 0, ([] : List Int), y360, ([] : List (S41))⟩ : S27) (Kd.R_reads' (Kd.R_mono (ok' := (fun k_ => (w.heap.size ≤ k_))) (HO359.out) (fun k_ hk => hk.1))).2.1 (Kd.R_F (Kd.R_mono (ok' := (fun k_ => (w.heap.size ≤ k_))) (HO359.out) (fun k_ hk => hk.1))) (Nat.le_refl _) (Kd.F_nil _ _ _) (Kd.R_reads' (Kd.R_mono (ok' := (fun k_ => (w.heap.size ≤ k_))) (HO362.out) (fun k_ hk => hk.1.1))).2.1 (Kd.R_F (Kd.R_mono (ok' := (fun k_ => (w.heap.size ≤ k_))) (HO362.out) (fun k_ hk => hk.1.1))) (Nat.le_refl _) (Kd.F_nil _ _ _))) (Reps.none _ _)))); intro v364 w10 ho11 hb hg_ hnew_; clear hg_ hnew_; (first | rw [← Ny363.out] at ho11 | (simp only [Int.reduceToNat] at ho11; rw [← Ny363.out] at ho11)); have HO365 := Aside0.mk (Kd.N_lower ho11 (below_size (bwQ HB.out))); replace HB := Aside0.mk (bsQ hb HB.out); clear HO356; clear HO359; clear HO362; clear hb ho11))
 go_ret
 exact ⟨_, by first | rfl | (simp [errW_none, errW_some] <;> rfl) | (simp [*, errW_none, errW_some] <;> rfl), by (with_reducible repeat (first | apply Kd.N_alloc | apply Kd.N_drewN | apply Kd.N_drew)); exact HO365.out, bwQ HB.out⟩


/-! ### pleatref00_num: function 39 -/
def pleatref00_num.f (a0 : Int) (a1 : Int) : Option (Int) := some (wrap64 ((wrap64 ((wrap64 (1048576 * a0)) + a1)) + 1))
set_option maxHeartbeats 8000000 in
set_option maxRecDepth 100000 in
theorem pleatref00_num.calls (a0 : Int) (a1 : Int) (r : Int) (w : World) (h : pleatref00_num.f a0 a1 = some r) :
  Calls Try.prog 39 #[.int .i64 a0, .int .i64 a1] w fun e w' => e = .returned (.int .i64 r) ∧ Drawn0 w w' := by
 have H : (some (wrap64 ((wrap64 ((wrap64 (1048576 * a0)) + a1)) + 1))) = some r := h
 clear h
 obtain rfl := Option.some.inj H
 go_enter Try.func39, Try.ntmps39
 go_wp2
 go_ret
 exact ⟨by first | rfl | (simp; done) | (simp [*]; done), by repeat (first | exact Drawn0.refl _ | apply Drawn0.step)⟩
theorem numW {i t : Int} (h0 : 0 ≤ i) (h1 : i ≤ 2000000000000000) (h : pleatref00_num.f 9 i = some t) : t = markN i.toNat := by
 unfold pleatref00_num.f at h
 have h := Option.some.inj h
 rw [← h, wrap64_id (x := 1048576 * 9) (by omega) (by omega), wrap64_id (x := 1048576 * 9 + i) (by omega) (by omega), wrap64_id (by omega) (by omega)]
 unfold markN
 omega
theorem getW {α : Type} {l : List α} {i : Int} {z : α} (h0 : 0 ≤ i) (h1 : decide (i < (l.length : Int)) = true) : l[i.toNat]? = some (l.getD i.toNat z) := by
 have h1 := of_decide_eq_true h1
 rw [List.getD_eq_getElem?_getD, List.getElem?_eq_getElem (by omega)]
 rfl


/-! ### pleatref00_WideWords: function 50 -/
def pleatref00_WideWords.l0 : Nat → List Int → List Int → Int → Option (List Int)
 | 0, _, _, _ => none
 | k + 1, x0, x3, x4 => if x4 < (x3.length : Int) then (if x4 < (x0.length : Int) then (if 0 ≤ x4 then (pleatref00_WideWords.l0 k x0 (x3.set (x4 : Int).toNat (rd x0 x4)) (wrap64 (x4 + 1))) else (none)) else ((pleatref00_num.f 9 x4).bind fun t404 => (if 0 ≤ x4 then (pleatref00_WideWords.l0 k x0 (x3.set (x4 : Int).toNat ((t404) % 4294967296)) (wrap64 (x4 + 1))) else (none)))) else (if 0 ≤ (x0.length : Int) then (if (x0.length : Int) ≤ (x3.length : Int) then (some (x3.take ((x0.length : Int) : Int).toNat)) else (none)) else (none))
def pleatref00_WideWords.f (k : Nat) (l0 : List Int) : Option (List Int) := if 0 ≤ (wrap64 ((l0.length : Int) + 64)) then (if (wrap64 ((l0.length : Int) + 64) : Int).toNat ≤ 70368744177664 then (pleatref00_WideWords.l0 k l0 (List.replicate (wrap64 ((l0.length : Int) + 64) : Int).toNat 0) 0) else (none)) else (none)
theorem pleatref00_WideWords.mono_l : ∀ k, (∀ y0 y1 y2, LeO (pleatref00_WideWords.l0 k y0 y1 y2) (pleatref00_WideWords.l0 (k + 1) y0 y1 y2))
 | 0 => fun _ _ _ r h => by simp [pleatref00_WideWords.l0] at h
 | k + 1 => by
  have ih0 := pleatref00_WideWords.mono_l k
  ·
   intro y0 y1 y2
   unfold pleatref00_WideWords.l0
   repeat' first
   | (with_reducible first | exact ih0 _ _ _ | exact LeO.refl _ | exact LeO.none _ | refine LeO.ite ?_ ?_ | refine LeO.bind ?_ (fun _ => ?_))
theorem pleatref00_WideWords.mono : ∀ a0 k, LeO (pleatref00_WideWords.f k a0) (pleatref00_WideWords.f (k + 1) a0) := by
 intro a0 k
 have ih0 := pleatref00_WideWords.mono_l k
 unfold pleatref00_WideWords.f
 repeat' first
   | (with_reducible first | exact ih0 _ _ _ | exact LeO.refl _ | exact LeO.none _ | refine LeO.ite ?_ ?_ | refine LeO.bind ?_ (fun _ => ?_))
set_option maxHeartbeats 8000000 in
set_option maxRecDepth 100000 in
theorem pleatref00_WideWords.callsW (k : Nat) (A0 : Option Addr) (c0 : Nat) (l0 : List Int) (r : List Int) (w : World) (hr0 : Kd.C (Kd.int .u32) w A0 l0.length l0) (hc0 : l0.length ≤ c0) (h : pleatref00_WideWords.f k l0 = some r) :
  Calls Try.prog 50 #[.slice A0 l0.length c0] w fun e w' => ∃ v0_ : Value, e = .returned (v0_) ∧ Kd.R (Kd.int .u32) 42 w' w.heap.size (fun _ => True) v0_ r ∧ Below w.heap.size w w' ∧ WideC (Kd.int .u32) 42 w' w.heap.size v0_ l0 (fun i => markN i % 4294967296) := by
 have HR0 := Aside0.mk hr0
 have HC0 := Aside0.mk hc0
 clear hr0 hc0
 have HB := Aside0.mk (Below.refl w.heap.size w)
 have H : (if 0 ≤ (wrap64 ((l0.length : Int) + 64)) then (if (wrap64 ((l0.length : Int) + 64) : Int).toNat ≤ 70368744177664 then (pleatref00_WideWords.l0 k l0 (List.replicate (wrap64 ((l0.length : Int) + 64) : Int).toNat 0) 0) else (none)) else (none)) = some r := h
 clear h
 obtain ⟨ji2, hji2⟩ : ∃ j_ : Int, (wrap64 ((l0.length : Int) + 64)) = j_ := ⟨_, rfl⟩
 replace H : (if 0 ≤ (ji2) then (if (ji2 : Int).toNat ≤ 70368744177664 then (pleatref00_WideWords.l0 k l0 (List.replicate (ji2 : Int).toNat 0) 0) else (none)) else (none)) = some r := by first | (rw [hji2] at H; exact H) | (simp only [hji2] at H ⊢; exact H)
 have hji2w : (IntKind.i64.wrap ((l0.length : Int) + 64)) = ji2 := (i64_w _).trans hji2
 by_cases c3 : 0 ≤ (ji2)
 ·
  rw [if_pos c3] at H
  have c3b0 := eq_true c3
  have c3b1 : decide (0 ≤ (ji2)) = true := decide_eq_true c3
  clear c3
  by_cases c4 : (ji2 : Int).toNat ≤ 70368744177664
  ·
   rw [if_pos c4] at H
   have c4b0 := eq_true c4
   have c4b1 : decide ((ji2 : Int).toNat ≤ 70368744177664) = true := decide_eq_true c4
   clear c4
   obtain ⟨y399, hy399⟩ : ∃ y_ : List Int, y_ = (List.replicate (ji2 : Int).toNat 0) := ⟨_, rfl⟩
   replace H : (pleatref00_WideWords.l0 k l0 y399 0) = some r := by first | (rw [hy399]; with_reducible exact H) | (have H2_ := (Option.bind_some _ _).symm.trans H; rw [hy399]; with_reducible exact H2_) | (have H2_ := (Option.bind_some _ _).symm.trans H; with_reducible exact H2_) | with_reducible exact H | (rw [hy399]; exact H) | exact H
   have Ny399 := Aside0.mk hy399
   have HFW0 := Aside0.mk (FillW.start (mk := fun i => markN i % 4294967296) HR0.out.2.1 hji2 c3b1 (decide_eq_true (Nat.le_trans (of_decide_eq_true c4b1) (by decide))) Ny399.out)
   clear hy399
   have H' := Aside0.mk H
   clear H
   go_enter Try.func50, Try.ntmps50
   go_wp2_with (first | ((with_reducible refine gate_dst (N := 8) rfl ?_); refine Kd.R_make (Kd.int .u32) _ 42 rfl (N := 8) rfl 22 _ _ rfl ji2 rfl rfl Try.underlying22 (.int .u32 0) 4 info42 rfl (by decide) (by omega) 0 (ok := fun _ => True) (okp := fun _ => True) rfl (fun _ hk => hk) trivial (of_decide_eq_true ‹_›) (Nat.le_trans (Nat.mul_le_mul_right _ (of_decide_eq_true ‹_› : ji2.toNat ≤ 70368744177664)) (by omega)) (Below.refl _ _) (Nat.le_refl _) ?_; intro v400 w5 ho6 hb hg_ hnew_; clear hg_ hnew_; (first | rw [← Ny399.out] at ho6 | (simp only [Int.reduceToNat] at ho6; rw [← Ny399.out] at ho6)); have HO401 := Aside0.mk (Kd.R_lower ho6 (below_size (bwQ HB.out))); replace HB := Aside0.mk (bsQ hb HB.out); clear hb ho6))
   go_loopg [4] k (fun kq v4 w' => ∃ (x3_1 : List Int) (x4_1 : Int), v4 = .int .i64 x4_1 ∧ Aside0 (pleatref00_WideWords.l0 kq l0 x3_1 x4_1 = some r) ∧ Aside0 (kq ≤ k) ∧ Aside0 (FillW l0 (fun i => markN i % 4294967296) x3_1 x4_1) ∧ Aside0 (Kd.R (Kd.int .u32) 42 w' w.heap.size (fun _ => True) v400 x3_1) ∧ Aside0 (Below w.heap.size w w'))
   case atStart => exact ⟨(y399), (0), (by first | rfl | (simp; done) | (simp [*]; done)), H', ⟨Nat.le_refl _⟩, HFW0, ⟨by (with_reducible repeat (first | apply Kd.R_alloc | apply Kd.R_drewN | apply Kd.R_drew)); exact HO401.out⟩, ⟨bwQ HB.out⟩⟩
   case round =>
    clear H'
    try clear p2
    try clear c3
    try clear c3b0
    try clear c3b1
    try clear c4
    try clear c4b0
    try clear c4b1
    try clear c5
    try clear p6
    obtain ⟨x3_1, x4_1, rfl, HA, HK1, HFW, HO_3, HB⟩ := hrel
    cases gk with
    | zero => exact absurd HA.out (by simp [pleatref00_WideWords.l0])
    | succ k1 =>
     have H := HA.out
     clear HA
     simp only [pleatref00_WideWords.l0] at H
     by_cases c7 : x4_1 < (x3_1.length : Int)
     ·
      rw [if_pos c7] at H
      have c7b0 : decide (x4_1 < (x3_1.length : Int)) = true := decide_eq_true c7
      clear c7
      by_cases c8 : x4_1 < (l0.length : Int)
      ·
       rw [if_pos c8] at H
       have c8b0 : decide (x4_1 < (l0.length : Int)) = true := decide_eq_true c8
       clear c8
       by_cases c9 : 0 ≤ x4_1
       ·
        rw [if_pos c9] at H
        have c9b0 : decide (0 ≤ x4_1) = true := decide_eq_true c9
        clear c9
        obtain ⟨y403, hy403⟩ : ∃ y_ : List Int, y_ = (x3_1.set (x4_1 : Int).toNat (rd l0 x4_1)) := ⟨_, rfl⟩
        replace H : (pleatref00_WideWords.l0 k1 l0 y403 (wrap64 (x4_1 + 1))) = some r := by first | (rw [hy403]; with_reducible exact H) | (have H2_ := (Option.bind_some _ _).symm.trans H; rw [hy403]; with_reducible exact H2_) | (have H2_ := (Option.bind_some _ _).symm.trans H; with_reducible exact H2_) | with_reducible exact H | (rw [hy403]; exact H) | exact H
        have Ny403 := Aside0.mk hy403
        have HFW1 := Aside0.mk (FillW.copy HFW.out c8b0 (getW HFW.out.lo c8b0) Ny403.out)
        clear hy403
        have H' := Aside0.mk H
        clear H
        obtain ⟨Ao11, co11, eo11⟩ := Kd.R_slice HO_3.out
        subst eo11
        have p402 : 0 ≤ (x4_1 : Int) := of_decide_eq_true ‹_›
        have q402 : x4_1 < (l0.length : Int) := of_decide_eq_true ‹_›
        obtain ⟨ad402, e402, hx402_0⟩ := Kd.at_int HR0.out x4_1 p402 q402
        cases e402
        replace hx402_0 := pw_cell_below HB.out hx402_0
        replace p402 := eq_true p402
        replace q402 := eq_true q402
        have p10 : 0 ≤ (x4_1 : Int) := of_decide_eq_true ‹_›
        have q10 : (x4_1 : Int) < ((x3_1.length : Int) : Int) := of_decide_eq_true ‹_›
        obtain ⟨go10, co10, eo10, gb10, gl10, cl10, HG10⟩ := Kd.R_form HO_3.out (by omega)
        (first | cases eo10 | (injection eo10 with ea_ en_ ec_; (first | subst ea_ | (injection ea_ with ea_; subst ea_)); subst ec_; clear en_))
        have GB10 := Aside0.mk gb10
        have GG10 := Aside0.mk HG10
        clear gb10 gl10 HG10
        obtain ⟨hx10_0, hf10_0⟩ := Kd.R_celln 0 HO_3.out (x4_1 : Int) p10 q10
        replace p10 := eq_true p10
        replace q10 := eq_true q10
        have HP12 := Kd.R_putg HO_3.out (x4_1 : Int) (rd l0 x4_1)
        go_wp2_with (first | ((with_reducible refine gate_store (t := 42) (p := 25) rfl ?_); refine store_event (t := 42) (p := 25) (v := ?vo_w13) (w1 := (wr.setCell ⟨go10, (x4_1 : Int).toNat, none⟩ (.int .u32 (rd l0 x4_1)))) ?hg ?ho ?hn ?hr ?_; (case ho => rfl); (case hg => rfl); (case hn => rfl); (case hr => first | (go_simp; done) | (go_simp; rfl)); intro w13 hw; have hg : wr.grownBy w13 (some go10) := (by rw [hw]; exact HP12.2); have hp_ : Kd.R (Kd.int .u32) 42 w13 w.heap.size (fun _ => True) (.slice (some ⟨go10, 0, none⟩) x3_1.length co11) y403 := (by rw [hw, Ny403.out]; exact HP12.1); clear HP12; have n0_ := Aside0.mk (hp_); have n1_ := Aside0.mk ((by rw [hw]; exact below_set (HB.out) GB10.out : Below w.heap.size w w13)); clear HO_3; clear HB; have HO_3 := n0_; have HB := n1_; clear n0_ n1_; clear hg hw hp_))
        go_roundg k1
        case measure => have := HK1.out; omega
        case rel => exact ⟨(y403), (wrap64 (x4_1 + 1)), (by first | rfl | (simp; done) | (simp [*]; done)), H', ⟨by have := HK1.out; omega⟩, HFW1, ⟨by (with_reducible repeat (first | apply Kd.R_alloc | apply Kd.R_drewN | apply Kd.R_drew)); exact HO_3.out⟩, ⟨bwQ HB.out⟩⟩
       ·
        rw [if_neg c9] at H
        exact absurd H (by simp)
      ·
       rw [if_neg c8] at H
       have c8b0 : decide (x4_1 < (l0.length : Int)) = false := decide_eq_false c8
       clear c8
       replace H := Option.bind_eq_some_iff.mp H
       obtain ⟨t404, A140, H⟩ := H
       try dsimp only at H
       have A14 := Aside0.mk A140
       clear A140
       by_cases c15 : 0 ≤ x4_1
       ·
        rw [if_pos c15] at H
        have c15b0 : decide (0 ≤ x4_1) = true := decide_eq_true c15
        clear c15
        obtain ⟨y405, hy405⟩ : ∃ y_ : List Int, y_ = (x3_1.set (x4_1 : Int).toNat ((t404) % 4294967296)) := ⟨_, rfl⟩
        replace H : (pleatref00_WideWords.l0 k1 l0 y405 (wrap64 (x4_1 + 1))) = some r := by first | (rw [hy405]; with_reducible exact H) | (have H2_ := (Option.bind_some _ _).symm.trans H; rw [hy405]; with_reducible exact H2_) | (have H2_ := (Option.bind_some _ _).symm.trans H; with_reducible exact H2_) | with_reducible exact H | (rw [hy405]; exact H) | exact H
        have Ny405 := Aside0.mk hy405
        have HFW1 := Aside0.mk (FillW.mark HFW.out c8b0 c7b0 (show (fun i => markN i % 4294967296) x4_1.toNat = _ by rw [numW HFW.out.lo (by have := HFW.out.len; have := HFW.out.big; have := of_decide_eq_true c7b0; omega) A14.out]) Ny405.out)
        clear hy405
        have H' := Aside0.mk H
        clear H
        obtain ⟨Ao17, co17, eo17⟩ := Kd.R_slice HO_3.out
        subst eo17
        go_wp2_with (first | ((with_reducible refine gate_callee (f := 39) rfl ?_); refine goesL_ (some 29) rfl rfl Try.func39 (by kernel_rfl) rfl #[.int .i64 9, .int .i64 x4_1] rfl (by (try simp only [List.map_toArray, List.map_cons, List.map_nil]); try rfl) ?_; (with_reducible refine (pleatref00_num.calls 9 x4_1 t404 _ A14.out).mono ?_); rintro e w' ⟨rfl, ⟨nd, rfl⟩⟩; refine ⟨_, rfl, ?_⟩; (try (rw [drewN_self wr]; generalize hq_ : World.drewN wr _ = wr; have n0_ : Aside0 (Kd.R (Kd.int .u32) 42 wr w.heap.size (fun _ => True) (.slice Ao17 x3_1.length co17) x3_1) := ⟨by rw [← hq_]; exact (by (with_reducible repeat (first | apply Kd.R_alloc | apply Kd.R_drewN | apply Kd.R_drew)); exact HO_3.out)⟩; have n1_ : Aside0 (Below w.heap.size w wr) := ⟨by rw [← hq_]; exact (bwQ HB.out)⟩; clear HO_3 HB hq_; have HO_3 := n0_; have HB := n1_; clear n0_ n1_)); have p16 : 0 ≤ (x4_1 : Int) := of_decide_eq_true ‹_›; have q16 : (x4_1 : Int) < ((x3_1.length : Int) : Int) := of_decide_eq_true ‹_›; obtain ⟨go16, co16, eo16, gb16, gl16, cl16, HG16⟩ := Kd.R_form HO_3.out (by omega); (first | cases eo16 | (injection eo16 with ea_ en_ ec_; (first | subst ea_ | (injection ea_ with ea_; subst ea_)); subst ec_; clear en_)); have GB16 := Aside0.mk gb16; have GG16 := Aside0.mk HG16; clear gb16 gl16 HG16; obtain ⟨hx16_0, hf16_0⟩ := Kd.R_celln 0 HO_3.out (x4_1 : Int) p16 q16; replace p16 := eq_true p16; replace q16 := eq_true q16; obtain ⟨hy18_, hz18_⟩ := Kd.R_celln 0 HO_3.out (x4_1 : Int) (of_decide_eq_true ‹_›) (of_decide_eq_true ‹_›); have HP18 := Kd.R_putg HO_3.out (x4_1 : Int) ((t404) % 4294967296)) | ((with_reducible refine gate_store (t := 42) (p := 31) rfl ?_); refine store_event (t := 42) (p := 31) (v := ?vo_w19) (w1 := (wr.setCell ⟨go16, (x4_1 : Int).toNat, none⟩ (.int .u32 ((t404) % 4294967296)))) ?hg ?ho ?hn ?hr ?_; (case ho => rfl); (case hg => rfl); (case hn => rfl); (case hr => first | (go_simp; done) | (go_simp; rfl)); intro w19 hw; have hg : wr.grownBy w19 (some go16) := (by rw [hw]; exact HP18.2); have hp_ : Kd.R (Kd.int .u32) 42 w19 w.heap.size (fun _ => True) (.slice (some ⟨go16, 0, none⟩) x3_1.length co17) y405 := (by rw [hw, Ny405.out]; exact HP18.1); clear HP18; have n0_ := Aside0.mk (hp_); have n1_ := Aside0.mk ((by rw [hw]; exact below_set (HB.out) GB16.out : Below w.heap.size w w19)); clear HO_3; clear HB; have HO_3 := n0_; have HB := n1_; clear n0_ n1_; clear hg hw hp_))
        go_roundg k1
        case measure => have := HK1.out; omega
        case rel => exact ⟨(y405), (wrap64 (x4_1 + 1)), (by first | rfl | (simp; done) | (simp [*]; done)), H', ⟨by have := HK1.out; omega⟩, HFW1, ⟨by (with_reducible repeat (first | apply Kd.R_alloc | apply Kd.R_drewN | apply Kd.R_drew)); exact HO_3.out⟩, ⟨bwQ HB.out⟩⟩
       ·
        rw [if_neg c15] at H
        exact absurd H (by simp)
     ·
      rw [if_neg c7] at H
      have c7b0 : decide (x4_1 < (x3_1.length : Int)) = false := decide_eq_false c7
      clear c7
      by_cases c20 : 0 ≤ (l0.length : Int)
      ·
       rw [if_pos c20] at H
       have c20b0 := eq_true c20
       have c20b1 : decide (0 ≤ (l0.length : Int)) = true := decide_eq_true c20
       clear c20
       by_cases c21 : (l0.length : Int) ≤ (x3_1.length : Int)
       ·
        rw [if_pos c21] at H
        have c21b0 := eq_true c21
        have c21b1 : decide ((l0.length : Int) ≤ (x3_1.length : Int)) = true := decide_eq_true c21
        clear c21
        obtain ⟨y406, hy406⟩ : ∃ y_ : List Int, y_ = (x3_1.take ((l0.length : Int) : Int).toNat) := ⟨_, rfl⟩
        replace H : (some y406) = some r := by first | (rw [hy406]; with_reducible exact H) | (have H2_ := (Option.bind_some _ _).symm.trans H; rw [hy406]; with_reducible exact H2_) | (have H2_ := (Option.bind_some _ _).symm.trans H; with_reducible exact H2_) | with_reducible exact H | (rw [hy406]; exact H) | exact H
        have Ny406 := Aside0.mk hy406
        clear hy406
        obtain rfl := Option.some.inj H
        obtain ⟨Ao22, co22, eo22⟩ := Kd.R_slice HO_3.out
        subst eo22
        have q23 : ((l0.length : Int) : Int) ≤ ((x3_1.length : Int) : Int) := of_decide_eq_true ‹_›
        obtain ⟨i023, hi023, _, hsz23, _⟩ := info_parts info42
        have hcut23 := cut_to (P := Try.prog) 22 42 .i64 Try.underlying22 hi023 Ao22 x3_1.length co22 (l0.length : Int) (of_decide_eq_true ‹_›) q23 (Kd.R_reads' HO_3.out).2.1
        have HWd := Aside0.mk (HFW.out.done c7b0)
        have HRW := Aside0.mk HO_3.out
        have HLW := Aside0.mk (show y406.length = l0.length by rw [Ny406.out, List.length_take, Int.toNat_natCast, HFW.out.len]; omega)
        have hr23 := Kd.R_take (m := ((l0.length : Int) : Int).toNat) HO_3.out (by omega)
        have hy23 : y406.length = ((l0.length : Int) : Int).toNat := (by rw [Ny406.out, List.length_take]; omega)
        rw [← Ny406.out] at hr23
        rw [← hy23] at hr23 hcut23
        clear hy23 hi023 hsz23 HO_3
        have HO408 := Aside0.mk hr23
        clear hr23
        replace q23 := eq_true q23
        go_wp2
        go_ret
        exact ⟨_, by first | rfl | (simp [errW_none, errW_some] <;> rfl) | (simp only [← hji2]; first | rfl | (simp [errW_none, errW_some] <;> rfl)) | (simp [*, errW_none, errW_some] <;> rfl), by (with_reducible repeat (first | apply Kd.R_alloc | apply Kd.R_drewN | apply Kd.R_drew)); exact HO408.out, bwQ HB.out, WideC.of (by (with_reducible repeat (first | apply Kd.R_alloc | apply Kd.R_drewN | apply Kd.R_drew)); exact HRW.out) rfl HWd.out HLW.out⟩
       ·
        rw [if_neg c21] at H
        exact absurd H (by simp)
      ·
       rw [if_neg c20] at H
       exact absurd H (by simp)
  ·
   rw [if_neg c4] at H
   exact absurd H (by simp)
 ·
  rw [if_neg c3] at H
  exact absurd H (by simp)
theorem pleatref00_WideWords.calls (k : Nat) (A0 : Option Addr) (c0 : Nat) (l0 : List Int) (r : List Int) (w : World) (hr0 : Kd.C (Kd.int .u32) w A0 l0.length l0) (hc0 : l0.length ≤ c0) (h : pleatref00_WideWords.f k l0 = some r) :
  Calls Try.prog 50 #[.slice A0 l0.length c0] w fun e w' => ∃ v0_ : Value, e = .returned (v0_) ∧ Kd.R (Kd.int .u32) 42 w' w.heap.size (fun _ => True) v0_ r ∧ Below w.heap.size w w' := (pleatref00_WideWords.callsW k A0 c0 l0 r w hr0 hc0 h).mono fun _ _ ⟨v, h1, h2, h3, _⟩ => ⟨v, h1, h2, h3⟩


/-! ### pleatref00_WideLongs: function 51 -/
def pleatref00_WideLongs.l0 : Nat → List Int → List Int → Int → Option (List Int)
 | 0, _, _, _ => none
 | k + 1, x0, x3, x4 => if x4 < (x3.length : Int) then (if x4 < (x0.length : Int) then (if 0 ≤ x4 then (pleatref00_WideLongs.l0 k x0 (x3.set (x4 : Int).toNat (rd x0 x4)) (wrap64 (x4 + 1))) else (none)) else ((pleatref00_num.f 9 x4).bind fun t414 => (if 0 ≤ x4 then (pleatref00_WideLongs.l0 k x0 (x3.set (x4 : Int).toNat t414) (wrap64 (x4 + 1))) else (none)))) else (if 0 ≤ (x0.length : Int) then (if (x0.length : Int) ≤ (x3.length : Int) then (some (x3.take ((x0.length : Int) : Int).toNat)) else (none)) else (none))
def pleatref00_WideLongs.f (k : Nat) (l0 : List Int) : Option (List Int) := if 0 ≤ (wrap64 ((l0.length : Int) + 64)) then (if (wrap64 ((l0.length : Int) + 64) : Int).toNat ≤ 35184372088832 then (pleatref00_WideLongs.l0 k l0 (List.replicate (wrap64 ((l0.length : Int) + 64) : Int).toNat 0) 0) else (none)) else (none)
theorem pleatref00_WideLongs.mono_l : ∀ k, (∀ y0 y1 y2, LeO (pleatref00_WideLongs.l0 k y0 y1 y2) (pleatref00_WideLongs.l0 (k + 1) y0 y1 y2))
 | 0 => fun _ _ _ r h => by simp [pleatref00_WideLongs.l0] at h
 | k + 1 => by
  have ih0 := pleatref00_WideLongs.mono_l k
  ·
   intro y0 y1 y2
   unfold pleatref00_WideLongs.l0
   repeat' first
   | (with_reducible first | exact ih0 _ _ _ | exact LeO.refl _ | exact LeO.none _ | refine LeO.ite ?_ ?_ | refine LeO.bind ?_ (fun _ => ?_))
theorem pleatref00_WideLongs.mono : ∀ a0 k, LeO (pleatref00_WideLongs.f k a0) (pleatref00_WideLongs.f (k + 1) a0) := by
 intro a0 k
 have ih0 := pleatref00_WideLongs.mono_l k
 unfold pleatref00_WideLongs.f
 repeat' first
   | (with_reducible first | exact ih0 _ _ _ | exact LeO.refl _ | exact LeO.none _ | refine LeO.ite ?_ ?_ | refine LeO.bind ?_ (fun _ => ?_))
set_option maxHeartbeats 8000000 in
set_option maxRecDepth 100000 in
theorem pleatref00_WideLongs.callsW (k : Nat) (A0 : Option Addr) (c0 : Nat) (l0 : List Int) (r : List Int) (w : World) (hr0 : Kd.C (Kd.int .i64) w A0 l0.length l0) (hc0 : l0.length ≤ c0) (h : pleatref00_WideLongs.f k l0 = some r) :
  Calls Try.prog 51 #[.slice A0 l0.length c0] w fun e w' => ∃ v0_ : Value, e = .returned (v0_) ∧ Kd.R (Kd.int .i64) 2 w' w.heap.size (fun _ => True) v0_ r ∧ Below w.heap.size w w' ∧ WideC (Kd.int .i64) 2 w' w.heap.size v0_ l0 (markN) := by
 have HR0 := Aside0.mk hr0
 have HC0 := Aside0.mk hc0
 clear hr0 hc0
 have HB := Aside0.mk (Below.refl w.heap.size w)
 have H : (if 0 ≤ (wrap64 ((l0.length : Int) + 64)) then (if (wrap64 ((l0.length : Int) + 64) : Int).toNat ≤ 35184372088832 then (pleatref00_WideLongs.l0 k l0 (List.replicate (wrap64 ((l0.length : Int) + 64) : Int).toNat 0) 0) else (none)) else (none)) = some r := h
 clear h
 obtain ⟨ji2, hji2⟩ : ∃ j_ : Int, (wrap64 ((l0.length : Int) + 64)) = j_ := ⟨_, rfl⟩
 replace H : (if 0 ≤ (ji2) then (if (ji2 : Int).toNat ≤ 35184372088832 then (pleatref00_WideLongs.l0 k l0 (List.replicate (ji2 : Int).toNat 0) 0) else (none)) else (none)) = some r := by first | (rw [hji2] at H; exact H) | (simp only [hji2] at H ⊢; exact H)
 have hji2w : (IntKind.i64.wrap ((l0.length : Int) + 64)) = ji2 := (i64_w _).trans hji2
 by_cases c3 : 0 ≤ (ji2)
 ·
  rw [if_pos c3] at H
  have c3b0 := eq_true c3
  have c3b1 : decide (0 ≤ (ji2)) = true := decide_eq_true c3
  clear c3
  by_cases c4 : (ji2 : Int).toNat ≤ 35184372088832
  ·
   rw [if_pos c4] at H
   have c4b0 := eq_true c4
   have c4b1 : decide ((ji2 : Int).toNat ≤ 35184372088832) = true := decide_eq_true c4
   clear c4
   obtain ⟨y409, hy409⟩ : ∃ y_ : List Int, y_ = (List.replicate (ji2 : Int).toNat 0) := ⟨_, rfl⟩
   replace H : (pleatref00_WideLongs.l0 k l0 y409 0) = some r := by first | (rw [hy409]; with_reducible exact H) | (have H2_ := (Option.bind_some _ _).symm.trans H; rw [hy409]; with_reducible exact H2_) | (have H2_ := (Option.bind_some _ _).symm.trans H; with_reducible exact H2_) | with_reducible exact H | (rw [hy409]; exact H) | exact H
   have Ny409 := Aside0.mk hy409
   have HFW0 := Aside0.mk (FillW.start (mk := markN) HR0.out.2.1 hji2 c3b1 (decide_eq_true (Nat.le_trans (of_decide_eq_true c4b1) (by decide))) Ny409.out)
   clear hy409
   have H' := Aside0.mk H
   clear H
   go_enter Try.func51, Try.ntmps51
   go_wp2_with (first | ((with_reducible refine gate_dst (N := 8) rfl ?_); refine Kd.R_make (Kd.int .i64) _ 2 rfl (N := 8) rfl 23 _ _ rfl ji2 rfl rfl Try.underlying23 (.int .i64 0) 8 info2 rfl (by decide) (by omega) 0 (ok := fun _ => True) (okp := fun _ => True) rfl (fun _ hk => hk) trivial (of_decide_eq_true ‹_›) (Nat.le_trans (Nat.mul_le_mul_right _ (of_decide_eq_true ‹_› : ji2.toNat ≤ 35184372088832)) (by omega)) (Below.refl _ _) (Nat.le_refl _) ?_; intro v410 w5 ho6 hb hg_ hnew_; clear hg_ hnew_; (first | rw [← Ny409.out] at ho6 | (simp only [Int.reduceToNat] at ho6; rw [← Ny409.out] at ho6)); have HO411 := Aside0.mk (Kd.R_lower ho6 (below_size (bwQ HB.out))); replace HB := Aside0.mk (bsQ hb HB.out); clear hb ho6))
   go_loopg [4] k (fun kq v4 w' => ∃ (x3_1 : List Int) (x4_1 : Int), v4 = .int .i64 x4_1 ∧ Aside0 (pleatref00_WideLongs.l0 kq l0 x3_1 x4_1 = some r) ∧ Aside0 (kq ≤ k) ∧ Aside0 (FillW l0 (markN) x3_1 x4_1) ∧ Aside0 (Kd.R (Kd.int .i64) 2 w' w.heap.size (fun _ => True) v410 x3_1) ∧ Aside0 (Below w.heap.size w w'))
   case atStart => exact ⟨(y409), (0), (by first | rfl | (simp; done) | (simp [*]; done)), H', ⟨Nat.le_refl _⟩, HFW0, ⟨by (with_reducible repeat (first | apply Kd.R_alloc | apply Kd.R_drewN | apply Kd.R_drew)); exact HO411.out⟩, ⟨bwQ HB.out⟩⟩
   case round =>
    clear H'
    try clear p2
    try clear c3
    try clear c3b0
    try clear c3b1
    try clear c4
    try clear c4b0
    try clear c4b1
    try clear c5
    try clear p6
    obtain ⟨x3_1, x4_1, rfl, HA, HK1, HFW, HO_3, HB⟩ := hrel
    cases gk with
    | zero => exact absurd HA.out (by simp [pleatref00_WideLongs.l0])
    | succ k1 =>
     have H := HA.out
     clear HA
     simp only [pleatref00_WideLongs.l0] at H
     by_cases c7 : x4_1 < (x3_1.length : Int)
     ·
      rw [if_pos c7] at H
      have c7b0 : decide (x4_1 < (x3_1.length : Int)) = true := decide_eq_true c7
      clear c7
      by_cases c8 : x4_1 < (l0.length : Int)
      ·
       rw [if_pos c8] at H
       have c8b0 : decide (x4_1 < (l0.length : Int)) = true := decide_eq_true c8
       clear c8
       by_cases c9 : 0 ≤ x4_1
       ·
        rw [if_pos c9] at H
        have c9b0 : decide (0 ≤ x4_1) = true := decide_eq_true c9
        clear c9
        obtain ⟨y413, hy413⟩ : ∃ y_ : List Int, y_ = (x3_1.set (x4_1 : Int).toNat (rd l0 x4_1)) := ⟨_, rfl⟩
        replace H : (pleatref00_WideLongs.l0 k1 l0 y413 (wrap64 (x4_1 + 1))) = some r := by first | (rw [hy413]; with_reducible exact H) | (have H2_ := (Option.bind_some _ _).symm.trans H; rw [hy413]; with_reducible exact H2_) | (have H2_ := (Option.bind_some _ _).symm.trans H; with_reducible exact H2_) | with_reducible exact H | (rw [hy413]; exact H) | exact H
        have Ny413 := Aside0.mk hy413
        have HFW1 := Aside0.mk (FillW.copy HFW.out c8b0 (getW HFW.out.lo c8b0) Ny413.out)
        clear hy413
        have H' := Aside0.mk H
        clear H
        obtain ⟨Ao11, co11, eo11⟩ := Kd.R_slice HO_3.out
        subst eo11
        have p412 : 0 ≤ (x4_1 : Int) := of_decide_eq_true ‹_›
        have q412 : x4_1 < (l0.length : Int) := of_decide_eq_true ‹_›
        obtain ⟨ad412, e412, hx412_0⟩ := Kd.at_int HR0.out x4_1 p412 q412
        cases e412
        replace hx412_0 := pw_cell_below HB.out hx412_0
        replace p412 := eq_true p412
        replace q412 := eq_true q412
        have p10 : 0 ≤ (x4_1 : Int) := of_decide_eq_true ‹_›
        have q10 : (x4_1 : Int) < ((x3_1.length : Int) : Int) := of_decide_eq_true ‹_›
        obtain ⟨go10, co10, eo10, gb10, gl10, cl10, HG10⟩ := Kd.R_form HO_3.out (by omega)
        (first | cases eo10 | (injection eo10 with ea_ en_ ec_; (first | subst ea_ | (injection ea_ with ea_; subst ea_)); subst ec_; clear en_))
        have GB10 := Aside0.mk gb10
        have GG10 := Aside0.mk HG10
        clear gb10 gl10 HG10
        obtain ⟨hx10_0, hf10_0⟩ := Kd.R_celln 0 HO_3.out (x4_1 : Int) p10 q10
        replace p10 := eq_true p10
        replace q10 := eq_true q10
        have HP12 := Kd.R_putg HO_3.out (x4_1 : Int) (rd l0 x4_1)
        go_wp2_with (first | ((with_reducible refine gate_store (t := 2) (p := 25) rfl ?_); refine store_event (t := 2) (p := 25) (v := ?vo_w13) (w1 := (wr.setCell ⟨go10, (x4_1 : Int).toNat, none⟩ (.int .i64 (rd l0 x4_1)))) ?hg ?ho ?hn ?hr ?_; (case ho => rfl); (case hg => rfl); (case hn => rfl); (case hr => first | (go_simp; done) | (go_simp; rfl)); intro w13 hw; have hg : wr.grownBy w13 (some go10) := (by rw [hw]; exact HP12.2); have hp_ : Kd.R (Kd.int .i64) 2 w13 w.heap.size (fun _ => True) (.slice (some ⟨go10, 0, none⟩) x3_1.length co11) y413 := (by rw [hw, Ny413.out]; exact HP12.1); clear HP12; have n0_ := Aside0.mk (hp_); have n1_ := Aside0.mk ((by rw [hw]; exact below_set (HB.out) GB10.out : Below w.heap.size w w13)); clear HO_3; clear HB; have HO_3 := n0_; have HB := n1_; clear n0_ n1_; clear hg hw hp_))
        go_roundg k1
        case measure => have := HK1.out; omega
        case rel => exact ⟨(y413), (wrap64 (x4_1 + 1)), (by first | rfl | (simp; done) | (simp [*]; done)), H', ⟨by have := HK1.out; omega⟩, HFW1, ⟨by (with_reducible repeat (first | apply Kd.R_alloc | apply Kd.R_drewN | apply Kd.R_drew)); exact HO_3.out⟩, ⟨bwQ HB.out⟩⟩
       ·
        rw [if_neg c9] at H
        exact absurd H (by simp)
      ·
       rw [if_neg c8] at H
       have c8b0 : decide (x4_1 < (l0.length : Int)) = false := decide_eq_false c8
       clear c8
       replace H := Option.bind_eq_some_iff.mp H
       obtain ⟨t414, A140, H⟩ := H
       try dsimp only at H
       have A14 := Aside0.mk A140
       clear A140
       by_cases c15 : 0 ≤ x4_1
       ·
        rw [if_pos c15] at H
        have c15b0 : decide (0 ≤ x4_1) = true := decide_eq_true c15
        clear c15
        obtain ⟨y415, hy415⟩ : ∃ y_ : List Int, y_ = (x3_1.set (x4_1 : Int).toNat t414) := ⟨_, rfl⟩
        replace H : (pleatref00_WideLongs.l0 k1 l0 y415 (wrap64 (x4_1 + 1))) = some r := by first | (rw [hy415]; with_reducible exact H) | (have H2_ := (Option.bind_some _ _).symm.trans H; rw [hy415]; with_reducible exact H2_) | (have H2_ := (Option.bind_some _ _).symm.trans H; with_reducible exact H2_) | with_reducible exact H | (rw [hy415]; exact H) | exact H
        have Ny415 := Aside0.mk hy415
        have HFW1 := Aside0.mk (FillW.mark HFW.out c8b0 c7b0 (show (markN) x4_1.toNat = _ by rw [numW HFW.out.lo (by have := HFW.out.len; have := HFW.out.big; have := of_decide_eq_true c7b0; omega) A14.out]) Ny415.out)
        clear hy415
        have H' := Aside0.mk H
        clear H
        obtain ⟨Ao17, co17, eo17⟩ := Kd.R_slice HO_3.out
        subst eo17
        go_wp2_with (first | ((with_reducible refine gate_callee (f := 39) rfl ?_); refine goesL_ (some 29) rfl rfl Try.func39 (by kernel_rfl) rfl #[.int .i64 9, .int .i64 x4_1] rfl (by (try simp only [List.map_toArray, List.map_cons, List.map_nil]); try rfl) ?_; (with_reducible refine (pleatref00_num.calls 9 x4_1 t414 _ A14.out).mono ?_); rintro e w' ⟨rfl, ⟨nd, rfl⟩⟩; refine ⟨_, rfl, ?_⟩; (try (rw [drewN_self wr]; generalize hq_ : World.drewN wr _ = wr; have n0_ : Aside0 (Kd.R (Kd.int .i64) 2 wr w.heap.size (fun _ => True) (.slice Ao17 x3_1.length co17) x3_1) := ⟨by rw [← hq_]; exact (by (with_reducible repeat (first | apply Kd.R_alloc | apply Kd.R_drewN | apply Kd.R_drew)); exact HO_3.out)⟩; have n1_ : Aside0 (Below w.heap.size w wr) := ⟨by rw [← hq_]; exact (bwQ HB.out)⟩; clear HO_3 HB hq_; have HO_3 := n0_; have HB := n1_; clear n0_ n1_)); have p16 : 0 ≤ (x4_1 : Int) := of_decide_eq_true ‹_›; have q16 : (x4_1 : Int) < ((x3_1.length : Int) : Int) := of_decide_eq_true ‹_›; obtain ⟨go16, co16, eo16, gb16, gl16, cl16, HG16⟩ := Kd.R_form HO_3.out (by omega); (first | cases eo16 | (injection eo16 with ea_ en_ ec_; (first | subst ea_ | (injection ea_ with ea_; subst ea_)); subst ec_; clear en_)); have GB16 := Aside0.mk gb16; have GG16 := Aside0.mk HG16; clear gb16 gl16 HG16; obtain ⟨hx16_0, hf16_0⟩ := Kd.R_celln 0 HO_3.out (x4_1 : Int) p16 q16; replace p16 := eq_true p16; replace q16 := eq_true q16; obtain ⟨hy18_, hz18_⟩ := Kd.R_celln 0 HO_3.out (x4_1 : Int) (of_decide_eq_true ‹_›) (of_decide_eq_true ‹_›); have HP18 := Kd.R_putg HO_3.out (x4_1 : Int) t414) | ((with_reducible refine gate_store (t := 2) (p := 30) rfl ?_); refine store_event (t := 2) (p := 30) (v := ?vo_w19) (w1 := (wr.setCell ⟨go16, (x4_1 : Int).toNat, none⟩ (.int .i64 t414))) ?hg ?ho ?hn ?hr ?_; (case ho => rfl); (case hg => rfl); (case hn => rfl); (case hr => first | (go_simp; done) | (go_simp; rfl)); intro w19 hw; have hg : wr.grownBy w19 (some go16) := (by rw [hw]; exact HP18.2); have hp_ : Kd.R (Kd.int .i64) 2 w19 w.heap.size (fun _ => True) (.slice (some ⟨go16, 0, none⟩) x3_1.length co17) y415 := (by rw [hw, Ny415.out]; exact HP18.1); clear HP18; have n0_ := Aside0.mk (hp_); have n1_ := Aside0.mk ((by rw [hw]; exact below_set (HB.out) GB16.out : Below w.heap.size w w19)); clear HO_3; clear HB; have HO_3 := n0_; have HB := n1_; clear n0_ n1_; clear hg hw hp_))
        go_roundg k1
        case measure => have := HK1.out; omega
        case rel => exact ⟨(y415), (wrap64 (x4_1 + 1)), (by first | rfl | (simp; done) | (simp [*]; done)), H', ⟨by have := HK1.out; omega⟩, HFW1, ⟨by (with_reducible repeat (first | apply Kd.R_alloc | apply Kd.R_drewN | apply Kd.R_drew)); exact HO_3.out⟩, ⟨bwQ HB.out⟩⟩
       ·
        rw [if_neg c15] at H
        exact absurd H (by simp)
     ·
      rw [if_neg c7] at H
      have c7b0 : decide (x4_1 < (x3_1.length : Int)) = false := decide_eq_false c7
      clear c7
      by_cases c20 : 0 ≤ (l0.length : Int)
      ·
       rw [if_pos c20] at H
       have c20b0 := eq_true c20
       have c20b1 : decide (0 ≤ (l0.length : Int)) = true := decide_eq_true c20
       clear c20
       by_cases c21 : (l0.length : Int) ≤ (x3_1.length : Int)
       ·
        rw [if_pos c21] at H
        have c21b0 := eq_true c21
        have c21b1 : decide ((l0.length : Int) ≤ (x3_1.length : Int)) = true := decide_eq_true c21
        clear c21
        obtain ⟨y416, hy416⟩ : ∃ y_ : List Int, y_ = (x3_1.take ((l0.length : Int) : Int).toNat) := ⟨_, rfl⟩
        replace H : (some y416) = some r := by first | (rw [hy416]; with_reducible exact H) | (have H2_ := (Option.bind_some _ _).symm.trans H; rw [hy416]; with_reducible exact H2_) | (have H2_ := (Option.bind_some _ _).symm.trans H; with_reducible exact H2_) | with_reducible exact H | (rw [hy416]; exact H) | exact H
        have Ny416 := Aside0.mk hy416
        clear hy416
        obtain rfl := Option.some.inj H
        obtain ⟨Ao22, co22, eo22⟩ := Kd.R_slice HO_3.out
        subst eo22
        have q23 : ((l0.length : Int) : Int) ≤ ((x3_1.length : Int) : Int) := of_decide_eq_true ‹_›
        obtain ⟨i023, hi023, _, hsz23, _⟩ := info_parts info2
        have hcut23 := cut_to (P := Try.prog) 23 2 .i64 Try.underlying23 hi023 Ao22 x3_1.length co22 (l0.length : Int) (of_decide_eq_true ‹_›) q23 (Kd.R_reads' HO_3.out).2.1
        have HWd := Aside0.mk (HFW.out.done c7b0)
        have HRW := Aside0.mk HO_3.out
        have HLW := Aside0.mk (show y416.length = l0.length by rw [Ny416.out, List.length_take, Int.toNat_natCast, HFW.out.len]; omega)
        have hr23 := Kd.R_take (m := ((l0.length : Int) : Int).toNat) HO_3.out (by omega)
        have hy23 : y416.length = ((l0.length : Int) : Int).toNat := (by rw [Ny416.out, List.length_take]; omega)
        rw [← Ny416.out] at hr23
        rw [← hy23] at hr23 hcut23
        clear hy23 hi023 hsz23 HO_3
        have HO418 := Aside0.mk hr23
        clear hr23
        replace q23 := eq_true q23
        go_wp2
        go_ret
        exact ⟨_, by first | rfl | (simp [errW_none, errW_some] <;> rfl) | (simp only [← hji2]; first | rfl | (simp [errW_none, errW_some] <;> rfl)) | (simp [*, errW_none, errW_some] <;> rfl), by (with_reducible repeat (first | apply Kd.R_alloc | apply Kd.R_drewN | apply Kd.R_drew)); exact HO418.out, bwQ HB.out, WideC.of (by (with_reducible repeat (first | apply Kd.R_alloc | apply Kd.R_drewN | apply Kd.R_drew)); exact HRW.out) rfl HWd.out HLW.out⟩
       ·
        rw [if_neg c21] at H
        exact absurd H (by simp)
      ·
       rw [if_neg c20] at H
       exact absurd H (by simp)
  ·
   rw [if_neg c4] at H
   exact absurd H (by simp)
 ·
  rw [if_neg c3] at H
  exact absurd H (by simp)
theorem pleatref00_WideLongs.calls (k : Nat) (A0 : Option Addr) (c0 : Nat) (l0 : List Int) (r : List Int) (w : World) (hr0 : Kd.C (Kd.int .i64) w A0 l0.length l0) (hc0 : l0.length ≤ c0) (h : pleatref00_WideLongs.f k l0 = some r) :
  Calls Try.prog 51 #[.slice A0 l0.length c0] w fun e w' => ∃ v0_ : Value, e = .returned (v0_) ∧ Kd.R (Kd.int .i64) 2 w' w.heap.size (fun _ => True) v0_ r ∧ Below w.heap.size w w' := (pleatref00_WideLongs.callsW k A0 c0 l0 r w hr0 hc0 h).mono fun _ _ ⟨v, h1, h2, h3, _⟩ => ⟨v, h1, h2, h3⟩


/-! ### pleatref00_WideSymbols: function 52 -/
def pleatref00_WideSymbols.l0 : Nat → List (S37) → List (S37) → Int → Option ((List (S37)))
 | 0, _, _, _ => none
 | k + 1, x0, x3, x4 => if x4 < (x3.length : Int) then (if x4 < (x0.length : Int) then (if 0 ≤ x4 then (pleatref00_WideSymbols.l0 k x0 (x3.set (x4 : Int).toNat (⟨(rd_T37 x0 x4).f0, (rd_T37 x0 x4).f1, (rd_T37 x0 x4).f2⟩ : S37)) (wrap64 (x4 + 1))) else (none)) else ((pleatref00_num.f 9 x4).bind fun t424 => (if 0 ≤ x4 then (pleatref00_WideSymbols.l0 k x0 (x3.set (x4 : Int).toNat (⟨(⟨#[]⟩ : ByteArray), 0, t424⟩ : S37)) (wrap64 (x4 + 1))) else (none)))) else (if 0 ≤ (x0.length : Int) then (if (x0.length : Int) ≤ (x3.length : Int) then (some (x3.take ((x0.length : Int) : Int).toNat)) else (none)) else (none))
def pleatref00_WideSymbols.f (k : Nat) (l0 : List (S37)) : Option ((List (S37))) := if 0 ≤ (wrap64 ((l0.length : Int) + 64)) then (if (wrap64 ((l0.length : Int) + 64) : Int).toNat ≤ 8796093022208 then (pleatref00_WideSymbols.l0 k l0 (List.replicate (wrap64 ((l0.length : Int) + 64) : Int).toNat z37) 0) else (none)) else (none)
theorem pleatref00_WideSymbols.mono_l : ∀ k, (∀ y0 y1 y2, LeO (pleatref00_WideSymbols.l0 k y0 y1 y2) (pleatref00_WideSymbols.l0 (k + 1) y0 y1 y2))
 | 0 => fun _ _ _ r h => by simp [pleatref00_WideSymbols.l0] at h
 | k + 1 => by
  have ih0 := pleatref00_WideSymbols.mono_l k
  ·
   intro y0 y1 y2
   unfold pleatref00_WideSymbols.l0
   repeat' first
   | (with_reducible first | exact ih0 _ _ _ | exact LeO.refl _ | exact LeO.none _ | refine LeO.ite ?_ ?_ | refine LeO.bind ?_ (fun _ => ?_))
theorem pleatref00_WideSymbols.mono : ∀ a0 k, LeO (pleatref00_WideSymbols.f k a0) (pleatref00_WideSymbols.f (k + 1) a0) := by
 intro a0 k
 have ih0 := pleatref00_WideSymbols.mono_l k
 unfold pleatref00_WideSymbols.f
 repeat' first
   | (with_reducible first | exact ih0 _ _ _ | exact LeO.refl _ | exact LeO.none _ | refine LeO.ite ?_ ?_ | refine LeO.bind ?_ (fun _ => ?_))
set_option maxHeartbeats 8000000 in
set_option maxRecDepth 100000 in
theorem pleatref00_WideSymbols.callsW (k : Nat) (A0 : Option Addr) (c0 : Nat) (l0 : List (S37)) (r : List (S37)) (w : World) (hr0 : Kd.C k37 w A0 l0.length l0) (hc0 : l0.length ≤ c0) (h : pleatref00_WideSymbols.f k l0 = some r) :
  Calls Try.prog 52 #[.slice A0 l0.length c0] w fun e w' => ∃ v0_ : Value, e = .returned (v0_) ∧ Kd.R k37 37 w' w.heap.size (fun _ => True) v0_ r ∧ Below w.heap.size w w' ∧ WideC k37 37 w' w.heap.size v0_ l0 (fun i => (⟨⟨#[]⟩, 0, markN i⟩ : S37)) := by
 have hu37 := Try.underlying37
 have HR0 := Aside0.mk hr0
 have HC0 := Aside0.mk hc0
 clear hr0 hc0
 have HB := Aside0.mk (Below.refl w.heap.size w)
 have H : (if 0 ≤ (wrap64 ((l0.length : Int) + 64)) then (if (wrap64 ((l0.length : Int) + 64) : Int).toNat ≤ 8796093022208 then (pleatref00_WideSymbols.l0 k l0 (List.replicate (wrap64 ((l0.length : Int) + 64) : Int).toNat z37) 0) else (none)) else (none)) = some r := h
 clear h
 obtain ⟨ji2, hji2⟩ : ∃ j_ : Int, (wrap64 ((l0.length : Int) + 64)) = j_ := ⟨_, rfl⟩
 replace H : (if 0 ≤ (ji2) then (if (ji2 : Int).toNat ≤ 8796093022208 then (pleatref00_WideSymbols.l0 k l0 (List.replicate (ji2 : Int).toNat z37) 0) else (none)) else (none)) = some r := by first | (rw [hji2] at H; exact H) | (simp only [hji2] at H ⊢; exact H)
 have hji2w : (IntKind.i64.wrap ((l0.length : Int) + 64)) = ji2 := (i64_w _).trans hji2
 by_cases c3 : 0 ≤ (ji2)
 ·
  rw [if_pos c3] at H
  have c3b0 := eq_true c3
  have c3b1 : decide (0 ≤ (ji2)) = true := decide_eq_true c3
  clear c3
  by_cases c4 : (ji2 : Int).toNat ≤ 8796093022208
  ·
   rw [if_pos c4] at H
   have c4b0 := eq_true c4
   have c4b1 : decide ((ji2 : Int).toNat ≤ 8796093022208) = true := decide_eq_true c4
   clear c4
   obtain ⟨y419, hy419⟩ : ∃ y_ : List (S37), y_ = (List.replicate (ji2 : Int).toNat z37) := ⟨_, rfl⟩
   replace H : (pleatref00_WideSymbols.l0 k l0 y419 0) = some r := by first | (rw [hy419]; with_reducible exact H) | (have H2_ := (Option.bind_some _ _).symm.trans H; rw [hy419]; with_reducible exact H2_) | (have H2_ := (Option.bind_some _ _).symm.trans H; with_reducible exact H2_) | with_reducible exact H | (rw [hy419]; exact H) | exact H
   have Ny419 := Aside0.mk hy419
   have HFW0 := Aside0.mk (FillW.start (mk := fun i => (⟨⟨#[]⟩, 0, markN i⟩ : S37)) HR0.out.2.1 hji2 c3b1 (decide_eq_true (Nat.le_trans (of_decide_eq_true c4b1) (by decide))) Ny419.out)
   clear hy419
   have H' := Aside0.mk H
   clear H
   go_enter Try.func52, Try.ntmps52
   go_wp2_with (first | ((with_reducible refine gate_dst (N := 8) rfl ?_); refine Kd.R_make k37 _ 37 rfl (N := 8) rfl 24 _ _ rfl ji2 rfl rfl Try.underlying24 (.agg #[(.string ⟨#[]⟩), (.int .i8 0), (.int .i64 0)]) 32 info37 rfl (by decide) (by omega) z37 (ok := fun _ => True) (okp := fun _ => True) (k37_mkM _ _ _ z37 ) (fun _ hk => hk) trivial (of_decide_eq_true ‹_›) (Nat.le_trans (Nat.mul_le_mul_right _ (of_decide_eq_true ‹_› : ji2.toNat ≤ 8796093022208)) (by omega)) (Below.refl _ _) (Nat.le_refl _) ?_; intro v420 w5 ho6 hb hg_ hnew_; clear hg_ hnew_; (first | rw [← Ny419.out] at ho6 | (simp only [Int.reduceToNat] at ho6; rw [← Ny419.out] at ho6)); have HO421 := Aside0.mk (Kd.R_lower ho6 (below_size (bwQ HB.out))); replace HB := Aside0.mk (bsQ hb HB.out); clear hb ho6))
   go_loopg [4] k (fun kq v4 w' => ∃ (x3_1 : List (S37)) (x4_1 : Int), v4 = .int .i64 x4_1 ∧ Aside0 (pleatref00_WideSymbols.l0 kq l0 x3_1 x4_1 = some r) ∧ Aside0 (kq ≤ k) ∧ Aside0 (FillW l0 (fun i => (⟨⟨#[]⟩, 0, markN i⟩ : S37)) x3_1 x4_1) ∧ Aside0 (Kd.R k37 37 w' w.heap.size (fun _ => True) v420 x3_1) ∧ Aside0 (Below w.heap.size w w'))
   case atStart => exact ⟨(y419), (0), (by first | rfl | (simp; done) | (simp [*]; done)), H', ⟨Nat.le_refl _⟩, HFW0, ⟨by (with_reducible repeat (first | apply Kd.R_alloc | apply Kd.R_drewN | apply Kd.R_drew)); exact HO421.out⟩, ⟨bwQ HB.out⟩⟩
   case round =>
    clear H'
    try clear p2
    try clear c3
    try clear c3b0
    try clear c3b1
    try clear c4
    try clear c4b0
    try clear c4b1
    try clear c5
    try clear p6
    obtain ⟨x3_1, x4_1, rfl, HA, HK1, HFW, HO_3, HB⟩ := hrel
    cases gk with
    | zero => exact absurd HA.out (by simp [pleatref00_WideSymbols.l0])
    | succ k1 =>
     have H := HA.out
     clear HA
     simp only [pleatref00_WideSymbols.l0] at H
     by_cases c7 : x4_1 < (x3_1.length : Int)
     ·
      rw [if_pos c7] at H
      have c7b0 : decide (x4_1 < (x3_1.length : Int)) = true := decide_eq_true c7
      clear c7
      by_cases c8 : x4_1 < (l0.length : Int)
      ·
       rw [if_pos c8] at H
       have c8b0 : decide (x4_1 < (l0.length : Int)) = true := decide_eq_true c8
       clear c8
       by_cases c9 : 0 ≤ x4_1
       ·
        rw [if_pos c9] at H
        have c9b0 : decide (0 ≤ x4_1) = true := decide_eq_true c9
        clear c9
        obtain ⟨y423, hy423⟩ : ∃ y_ : List (S37), y_ = (x3_1.set (x4_1 : Int).toNat (⟨(rd_T37 l0 x4_1).f0, (rd_T37 l0 x4_1).f1, (rd_T37 l0 x4_1).f2⟩ : S37)) := ⟨_, rfl⟩
        replace H : (pleatref00_WideSymbols.l0 k1 l0 y423 (wrap64 (x4_1 + 1))) = some r := by first | (rw [hy423]; with_reducible exact H) | (have H2_ := (Option.bind_some _ _).symm.trans H; rw [hy423]; with_reducible exact H2_) | (have H2_ := (Option.bind_some _ _).symm.trans H; with_reducible exact H2_) | with_reducible exact H | (rw [hy423]; exact H) | exact H
        have Ny423 := Aside0.mk hy423
        have HFW1 := Aside0.mk (FillW.copy HFW.out c8b0 (getW HFW.out.lo c8b0) Ny423.out)
        clear hy423
        have H' := Aside0.mk H
        clear H
        obtain ⟨Ao11, co11, eo11⟩ := Kd.R_slice HO_3.out
        subst eo11
        have p422 : 0 ≤ (x4_1 : Int) := of_decide_eq_true ‹_›
        have q422 : x4_1 < (l0.length : Int) := of_decide_eq_true ‹_›
        obtain ⟨ad422, e422, hx422_0, hx422_1, hx422_2⟩ := atQ37 HR0.out HB.out x4_1 p422 q422
        cases e422
        replace p422 := eq_true p422
        replace q422 := eq_true q422
        have p10 : 0 ≤ (x4_1 : Int) := of_decide_eq_true ‹_›
        have q10 : (x4_1 : Int) < ((x3_1.length : Int) : Int) := of_decide_eq_true ‹_›
        obtain ⟨go10, co10, eo10, gb10, gl10, cl10, HG10⟩ := Kd.R_form HO_3.out (by omega)
        (first | cases eo10 | (injection eo10 with ea_ en_ ec_; (first | subst ea_ | (injection ea_ with ea_; subst ea_)); subst ec_; clear en_))
        have GB10 := Aside0.mk gb10
        have GG10 := Aside0.mk HG10
        clear gb10 gl10 HG10
        obtain ⟨ce10, hcl10, hM10, hcc10, hfr10⟩ := Kd.R_elem HO_3.out z37 (x4_1 : Int) p10 q10
        obtain rfl := k37_openM hM10
        have hx10_0 : wr.cell? ⟨go10, (x4_1 : Int).toNat * 3, none⟩ = some (.string ((rd_T37 x3_1 x4_1).f0)) := hcc10 0 _ rfl
        have hx10_1 : wr.cell? ⟨go10, (x4_1 : Int).toNat * 3 + 1, none⟩ = some (.int .i8 ((rd_T37 x3_1 x4_1).f1)) := hcc10 1 _ rfl
        have hx10_2 : wr.cell? ⟨go10, (x4_1 : Int).toNat * 3 + 2, none⟩ = some (.int .i64 ((rd_T37 x3_1 x4_1).f2)) := hcc10 2 _ rfl
        have hf10_0 : wr.frozen? ⟨go10, (x4_1 : Int).toNat * 3, none⟩ = false := hfr10 0
        have hf10_1 : wr.frozen? ⟨go10, (x4_1 : Int).toNat * 3 + 1, none⟩ = false := hfr10 1
        have hf10_2 : wr.frozen? ⟨go10, (x4_1 : Int).toNat * 3 + 2, none⟩ = false := hfr10 2
        clear hcl10 hcc10 hfr10 hM10
        replace p10 := eq_true p10
        replace q10 := eq_true q10
        have HX12 := Aside0.mk (show Kd.R k37 37 wr w.heap.size (fun _ => True) (.slice (some ⟨go10, 0, none⟩) x3_1.length co11) x3_1 from (by (with_reducible repeat (first | apply Kd.R_alloc | apply Kd.R_drewN | apply Kd.R_drew)); exact HO_3.out))
        obtain ⟨ce12, hcl12, hM12, hcc12, hfr12⟩ := Kd.R_elem HX12.out z37 (x4_1 : Int) (of_decide_eq_true ‹_›) (by have h_ : (x4_1 : Int) < ((x3_1.length : Int) : Int) := of_decide_eq_true ‹_›; first | exact h_ | (have e_ := (Kd.R_reads' HO_3.out).1; omega) | simpa using h_)
        obtain rfl := k37_openM hM12
        have HP12 := Kd.R_seg HX12.out (x4_1 : Int) (of_decide_eq_true ‹_›) (by have h_ : (x4_1 : Int) < ((x3_1.length : Int) : Int) := of_decide_eq_true ‹_›; first | exact h_ | (have e_ := (Kd.R_reads' HO_3.out).1; omega) | simpa using h_) (seg := [.string ((rd_T37 l0 x4_1).f0), .int .i8 ((rd_T37 l0 x4_1).f1), .int .i64 ((rd_T37 l0 x4_1).f2)]) (j := 0) hcl12 hcc12 (show 3 ≤ 3 from by decide) (x' := (⟨(rd_T37 l0 x4_1).f0, (rd_T37 l0 x4_1).f1, (rd_T37 l0 x4_1).f2⟩ : S37)) (k37_mkM _ _ _ (⟨(rd_T37 l0 x4_1).f0, (rd_T37 l0 x4_1).f1, (rd_T37 l0 x4_1).f2⟩ : S37) ) (fun _ hk => hk)
        have hx12_0 := hcc12 0 _ rfl
        (try simp only [show (k37).sz = 3 from rfl, Nat.mul_one, Nat.add_zero] at hx12_0)
        have hf12_0 := hfr12 0
        (try simp only [show (k37).sz = 3 from rfl, Nat.mul_one, Nat.add_zero] at hf12_0)
        have hx12_1 := hcc12 1 _ rfl
        (try simp only [show (k37).sz = 3 from rfl, Nat.mul_one, Nat.add_zero] at hx12_1)
        have hf12_1 := hfr12 1
        (try simp only [show (k37).sz = 3 from rfl, Nat.mul_one, Nat.add_zero] at hf12_1)
        have hx12_2 := hcc12 2 _ rfl
        (try simp only [show (k37).sz = 3 from rfl, Nat.mul_one, Nat.add_zero] at hx12_2)
        have hf12_2 := hfr12 2
        (try simp only [show (k37).sz = 3 from rfl, Nat.mul_one, Nat.add_zero] at hf12_2)
        clear hcl12 hcc12 hfr12 hM12
        go_wp2_with (first | ((with_reducible refine gate_store (t := 37) (p := 25) rfl ?_); refine store_event (t := 37) (p := 25) (v := ?vo_w13) (w1 := (((wr.setCell ⟨go10, (x4_1 : Int).toNat * 3, none⟩ (.string ((rd_T37 l0 x4_1).f0))).setCell ⟨go10, (x4_1 : Int).toNat * 3 + 1, none⟩ (.int .i8 ((rd_T37 l0 x4_1).f1))).setCell ⟨go10, (x4_1 : Int).toNat * 3 + 2, none⟩ (.int .i64 ((rd_T37 l0 x4_1).f2)))) ?hg ?ho ?hn ?hr ?_; (case ho => rfl); (case hg => rfl); (case hn => rfl); (case hr => first | (go_simp; done) | (go_simp; rfl)); intro w13 hw; have hg : wr.grownBy w13 (some go10) := (by rw [hw]; exact HP12.2); have hp_ : Kd.R k37 37 w13 w.heap.size (fun _ => True) (.slice (some ⟨go10, 0, none⟩) x3_1.length co11) y423 := (by rw [hw, Ny423.out]; exact HP12.1); clear HP12; have n0_ := Aside0.mk (hp_); have n1_ := Aside0.mk ((by rw [hw]; exact below_set (below_set (below_set (HB.out) GB10.out) GB10.out) GB10.out : Below w.heap.size w w13)); clear HO_3; clear HB; have HO_3 := n0_; have HB := n1_; clear n0_ n1_; clear hg hw hp_))
        go_roundg k1
        case measure => have := HK1.out; omega
        case rel => exact ⟨(y423), (wrap64 (x4_1 + 1)), (by first | rfl | (simp; done) | (simp [*]; done)), H', ⟨by have := HK1.out; omega⟩, HFW1, ⟨by (with_reducible repeat (first | apply Kd.R_alloc | apply Kd.R_drewN | apply Kd.R_drew)); exact HO_3.out⟩, ⟨bwQ HB.out⟩⟩
       ·
        rw [if_neg c9] at H
        exact absurd H (by simp)
      ·
       rw [if_neg c8] at H
       have c8b0 : decide (x4_1 < (l0.length : Int)) = false := decide_eq_false c8
       clear c8
       replace H := Option.bind_eq_some_iff.mp H
       obtain ⟨t424, A140, H⟩ := H
       try dsimp only at H
       have A14 := Aside0.mk A140
       clear A140
       by_cases c15 : 0 ≤ x4_1
       ·
        rw [if_pos c15] at H
        have c15b0 : decide (0 ≤ x4_1) = true := decide_eq_true c15
        clear c15
        obtain ⟨y425, hy425⟩ : ∃ y_ : List (S37), y_ = (x3_1.set (x4_1 : Int).toNat (⟨(⟨#[]⟩ : ByteArray), 0, t424⟩ : S37)) := ⟨_, rfl⟩
        replace H : (pleatref00_WideSymbols.l0 k1 l0 y425 (wrap64 (x4_1 + 1))) = some r := by first | (rw [hy425]; with_reducible exact H) | (have H2_ := (Option.bind_some _ _).symm.trans H; rw [hy425]; with_reducible exact H2_) | (have H2_ := (Option.bind_some _ _).symm.trans H; with_reducible exact H2_) | with_reducible exact H | (rw [hy425]; exact H) | exact H
        have Ny425 := Aside0.mk hy425
        have HFW1 := Aside0.mk (FillW.mark HFW.out c8b0 c7b0 (show (fun i => (⟨⟨#[]⟩, 0, markN i⟩ : S37)) x4_1.toNat = _ by rw [numW HFW.out.lo (by have := HFW.out.len; have := HFW.out.big; have := of_decide_eq_true c7b0; omega) A14.out]) Ny425.out)
        clear hy425
        have H' := Aside0.mk H
        clear H
        obtain ⟨Ao17, co17, eo17⟩ := Kd.R_slice HO_3.out
        subst eo17
        go_wp2_with (first | ((with_reducible refine gate_callee (f := 39) rfl ?_); refine goesL_ (some 29) rfl rfl Try.func39 (by kernel_rfl) rfl #[.int .i64 9, .int .i64 x4_1] rfl (by (try simp only [List.map_toArray, List.map_cons, List.map_nil]); try rfl) ?_; (with_reducible refine (pleatref00_num.calls 9 x4_1 t424 _ A14.out).mono ?_); rintro e w' ⟨rfl, ⟨nd, rfl⟩⟩; refine ⟨_, rfl, ?_⟩; (try (rw [drewN_self wr]; generalize hq_ : World.drewN wr _ = wr; have n0_ : Aside0 (Kd.R k37 37 wr w.heap.size (fun _ => True) (.slice Ao17 x3_1.length co17) x3_1) := ⟨by rw [← hq_]; exact (by (with_reducible repeat (first | apply Kd.R_alloc | apply Kd.R_drewN | apply Kd.R_drew)); exact HO_3.out)⟩; have n1_ : Aside0 (Below w.heap.size w wr) := ⟨by rw [← hq_]; exact (bwQ HB.out)⟩; clear HO_3 HB hq_; have HO_3 := n0_; have HB := n1_; clear n0_ n1_)); have p16 : 0 ≤ (x4_1 : Int) := of_decide_eq_true ‹_›; have q16 : (x4_1 : Int) < ((x3_1.length : Int) : Int) := of_decide_eq_true ‹_›; obtain ⟨go16, co16, eo16, gb16, gl16, cl16, HG16⟩ := Kd.R_form HO_3.out (by omega); (first | cases eo16 | (injection eo16 with ea_ en_ ec_; (first | subst ea_ | (injection ea_ with ea_; subst ea_)); subst ec_; clear en_)); have GB16 := Aside0.mk gb16; have GG16 := Aside0.mk HG16; clear gb16 gl16 HG16; obtain ⟨ce16, hcl16, hM16, hcc16, hfr16⟩ := Kd.R_elem HO_3.out z37 (x4_1 : Int) p16 q16; obtain rfl := k37_openM hM16; have hx16_0 : wr.cell? ⟨go16, (x4_1 : Int).toNat * 3, none⟩ = some (.string ((rd_T37 x3_1 x4_1).f0)) := hcc16 0 _ rfl; have hx16_1 : wr.cell? ⟨go16, (x4_1 : Int).toNat * 3 + 1, none⟩ = some (.int .i8 ((rd_T37 x3_1 x4_1).f1)) := hcc16 1 _ rfl; have hx16_2 : wr.cell? ⟨go16, (x4_1 : Int).toNat * 3 + 2, none⟩ = some (.int .i64 ((rd_T37 x3_1 x4_1).f2)) := hcc16 2 _ rfl; have hf16_0 : wr.frozen? ⟨go16, (x4_1 : Int).toNat * 3, none⟩ = false := hfr16 0; have hf16_1 : wr.frozen? ⟨go16, (x4_1 : Int).toNat * 3 + 1, none⟩ = false := hfr16 1; have hf16_2 : wr.frozen? ⟨go16, (x4_1 : Int).toNat * 3 + 2, none⟩ = false := hfr16 2; clear hcl16 hcc16 hfr16 hM16; replace p16 := eq_true p16; replace q16 := eq_true q16; have HX18 := Aside0.mk (show Kd.R k37 37 wr w.heap.size (fun _ => True) (.slice (some ⟨go16, 0, none⟩) x3_1.length co17) x3_1 from (by (with_reducible repeat (first | apply Kd.R_alloc | apply Kd.R_drewN | apply Kd.R_drew)); exact HO_3.out)); obtain ⟨ce18, hcl18, hM18, hcc18, hfr18⟩ := Kd.R_elem HX18.out z37 (x4_1 : Int) (of_decide_eq_true ‹_›) (by have h_ : (x4_1 : Int) < ((x3_1.length : Int) : Int) := of_decide_eq_true ‹_›; first | exact h_ | (have e_ := (Kd.R_reads' HO_3.out).1; omega) | simpa using h_); obtain rfl := k37_openM hM18; have HP18 := Kd.R_seg HX18.out (x4_1 : Int) (of_decide_eq_true ‹_›) (by have h_ : (x4_1 : Int) < ((x3_1.length : Int) : Int) := of_decide_eq_true ‹_›; first | exact h_ | (have e_ := (Kd.R_reads' HO_3.out).1; omega) | simpa using h_) (seg := [.string (⟨#[]⟩ : ByteArray), .int .i8 0, .int .i64 t424]) (j := 0) hcl18 hcc18 (show 3 ≤ 3 from by decide) (x' := (⟨(⟨#[]⟩ : ByteArray), 0, t424⟩ : S37)) (k37_mkM _ _ _ (⟨(⟨#[]⟩ : ByteArray), 0, t424⟩ : S37) ) (fun _ hk => hk); have hx18_0 := hcc18 0 _ rfl; (try simp only [show (k37).sz = 3 from rfl, Nat.mul_one, Nat.add_zero] at hx18_0); have hf18_0 := hfr18 0; (try simp only [show (k37).sz = 3 from rfl, Nat.mul_one, Nat.add_zero] at hf18_0); have hx18_1 := hcc18 1 _ rfl; (try simp only [show (k37).sz = 3 from rfl, Nat.mul_one, Nat.add_zero] at hx18_1); have hf18_1 := hfr18 1; (try simp only [show (k37).sz = 3 from rfl, Nat.mul_one, Nat.add_zero] at hf18_1); have hx18_2 := hcc18 2 _ rfl; (try simp only [show (k37).sz = 3 from rfl, Nat.mul_one, Nat.add_zero] at hx18_2); have hf18_2 := hfr18 2; (try simp only [show (k37).sz = 3 from rfl, Nat.mul_one, Nat.add_zero] at hf18_2); clear hcl18 hcc18 hfr18 hM18) | ((with_reducible refine gate_store (t := 37) (p := 31) rfl ?_); refine store_event (t := 37) (p := 31) (v := ?vo_w19) (w1 := (((wr.setCell ⟨go16, (x4_1 : Int).toNat * 3, none⟩ (.string (⟨#[]⟩ : ByteArray))).setCell ⟨go16, (x4_1 : Int).toNat * 3 + 1, none⟩ (.int .i8 0)).setCell ⟨go16, (x4_1 : Int).toNat * 3 + 2, none⟩ (.int .i64 t424))) ?hg ?ho ?hn ?hr ?_; (case ho => rfl); (case hg => rfl); (case hn => rfl); (case hr => first | (go_simp; done) | (go_simp; rfl)); intro w19 hw; have hg : wr.grownBy w19 (some go16) := (by rw [hw]; exact HP18.2); have hp_ : Kd.R k37 37 w19 w.heap.size (fun _ => True) (.slice (some ⟨go16, 0, none⟩) x3_1.length co17) y425 := (by rw [hw, Ny425.out]; exact HP18.1); clear HP18; have n0_ := Aside0.mk (hp_); have n1_ := Aside0.mk ((by rw [hw]; exact below_set (below_set (below_set (HB.out) GB16.out) GB16.out) GB16.out : Below w.heap.size w w19)); clear HO_3; clear HB; have HO_3 := n0_; have HB := n1_; clear n0_ n1_; clear hg hw hp_))
        go_roundg k1
        case measure => have := HK1.out; omega
        case rel => exact ⟨(y425), (wrap64 (x4_1 + 1)), (by first | rfl | (simp; done) | (simp [*]; done)), H', ⟨by have := HK1.out; omega⟩, HFW1, ⟨by (with_reducible repeat (first | apply Kd.R_alloc | apply Kd.R_drewN | apply Kd.R_drew)); exact HO_3.out⟩, ⟨bwQ HB.out⟩⟩
       ·
        rw [if_neg c15] at H
        exact absurd H (by simp)
     ·
      rw [if_neg c7] at H
      have c7b0 : decide (x4_1 < (x3_1.length : Int)) = false := decide_eq_false c7
      clear c7
      by_cases c20 : 0 ≤ (l0.length : Int)
      ·
       rw [if_pos c20] at H
       have c20b0 := eq_true c20
       have c20b1 : decide (0 ≤ (l0.length : Int)) = true := decide_eq_true c20
       clear c20
       by_cases c21 : (l0.length : Int) ≤ (x3_1.length : Int)
       ·
        rw [if_pos c21] at H
        have c21b0 := eq_true c21
        have c21b1 : decide ((l0.length : Int) ≤ (x3_1.length : Int)) = true := decide_eq_true c21
        clear c21
        obtain ⟨y426, hy426⟩ : ∃ y_ : List (S37), y_ = (x3_1.take ((l0.length : Int) : Int).toNat) := ⟨_, rfl⟩
        replace H : (some y426) = some r := by first | (rw [hy426]; with_reducible exact H) | (have H2_ := (Option.bind_some _ _).symm.trans H; rw [hy426]; with_reducible exact H2_) | (have H2_ := (Option.bind_some _ _).symm.trans H; with_reducible exact H2_) | with_reducible exact H | (rw [hy426]; exact H) | exact H
        have Ny426 := Aside0.mk hy426
        clear hy426
        obtain rfl := Option.some.inj H
        obtain ⟨Ao22, co22, eo22⟩ := Kd.R_slice HO_3.out
        subst eo22
        have q23 : ((l0.length : Int) : Int) ≤ ((x3_1.length : Int) : Int) := of_decide_eq_true ‹_›
        obtain ⟨i023, hi023, _, hsz23, _⟩ := info_parts info37
        have hcut23 := cut_to (P := Try.prog) 24 37 .i64 Try.underlying24 hi023 Ao22 x3_1.length co22 (l0.length : Int) (of_decide_eq_true ‹_›) q23 (Kd.R_reads' HO_3.out).2.1
        have HWd := Aside0.mk (HFW.out.done c7b0)
        have HRW := Aside0.mk HO_3.out
        have HLW := Aside0.mk (show y426.length = l0.length by rw [Ny426.out, List.length_take, Int.toNat_natCast, HFW.out.len]; omega)
        have hr23 := Kd.R_take (m := ((l0.length : Int) : Int).toNat) HO_3.out (by omega)
        have hy23 : y426.length = ((l0.length : Int) : Int).toNat := (by rw [Ny426.out, List.length_take]; omega)
        rw [← Ny426.out] at hr23
        rw [← hy23] at hr23 hcut23
        clear hy23 hi023 hsz23 HO_3
        have HO428 := Aside0.mk hr23
        clear hr23
        replace q23 := eq_true q23
        go_wp2
        go_ret
        exact ⟨_, by first | rfl | (simp [errW_none, errW_some] <;> rfl) | (simp only [← hji2]; first | rfl | (simp [errW_none, errW_some] <;> rfl)) | (simp [*, errW_none, errW_some] <;> rfl), by (with_reducible repeat (first | apply Kd.R_alloc | apply Kd.R_drewN | apply Kd.R_drew)); exact HO428.out, bwQ HB.out, WideC.of (by (with_reducible repeat (first | apply Kd.R_alloc | apply Kd.R_drewN | apply Kd.R_drew)); exact HRW.out) rfl HWd.out HLW.out⟩
       ·
        rw [if_neg c21] at H
        exact absurd H (by simp)
      ·
       rw [if_neg c20] at H
       exact absurd H (by simp)
  ·
   rw [if_neg c4] at H
   exact absurd H (by simp)
 ·
  rw [if_neg c3] at H
  exact absurd H (by simp)
theorem pleatref00_WideSymbols.calls (k : Nat) (A0 : Option Addr) (c0 : Nat) (l0 : List (S37)) (r : List (S37)) (w : World) (hr0 : Kd.C k37 w A0 l0.length l0) (hc0 : l0.length ≤ c0) (h : pleatref00_WideSymbols.f k l0 = some r) :
  Calls Try.prog 52 #[.slice A0 l0.length c0] w fun e w' => ∃ v0_ : Value, e = .returned (v0_) ∧ Kd.R k37 37 w' w.heap.size (fun _ => True) v0_ r ∧ Below w.heap.size w w' := (pleatref00_WideSymbols.callsW k A0 c0 l0 r w hr0 hc0 h).mono fun _ _ ⟨v, h1, h2, h3, _⟩ => ⟨v, h1, h2, h3⟩
end Go.Proofs.Ytiaohbbafaaibab.P

/- What the Go functions named below come to, as plain functions, each with its proof; written by this session's prt.py over the kit's print. -/
namespace Go.Proofs.Ytiaohbbafaaibab.P
open Go.RowKit Go.Proofs.YtiaohbbafaaibabW.PrintWords Go.Proofs.YtiaohbbafaaibabW.PrintLast Go.Proofs.YtiaohbbafaaibabW.PrintMore
attribute [local go_sem] max2_int min2_int max_two min_two max_three min_three max_four min_four   -- for this text's walks alone
set_option linter.unusedVariables false
set_option linter.unusedSimpArgs false

theorem eqA37 (d : Nat) (w : World) (x0 y0 : ByteArray) (x1 y1 : Int) (x2 y2 : Int) :
    (Op.equalIn (d + 2) 37 (.agg #[.string x0, .int .i8 x1, .int .i64 x2]) (.agg #[.string y0, .int .i8 y1, .int .i64 y2])).run Try.prog w = .ok (x0.toList == y0.toList && (x1 == y1 && (x2 == y2))) w := by
  refine eqA_of Try.underlying37 (by kernel_rfl) ?_
  refine eqf_cons (by rfl) (by go_simp; rfl) (by go_simp; rfl) (by go_simp) ?_
  refine eqf_cons (by rfl) (by go_simp; rfl) (by go_simp; rfl) (by go_simp) ?_
  exact eqf_last (by rfl) (by go_simp; rfl) (by go_simp; rfl) (by go_simp)
end Go.Proofs.Ytiaohbbafaaibab.P

/- What the Go functions named below come to, as plain functions, each with its proof; written by this session's prt.py over the kit's print. -/
namespace Go.Proofs.Ytiaohbbafaaibab.P
open Go.RowKit Go.Proofs.YtiaohbbafaaibabW.PrintWords Go.Proofs.YtiaohbbafaaibabW.PrintLast Go.Proofs.YtiaohbbafaaibabW.PrintMore
attribute [local go_sem] max2_int min2_int max_two min_two max_three min_three max_four min_four   -- for this text's walks alone
set_option linter.unusedVariables false
set_option linter.unusedSimpArgs false

attribute [local go_sem high] eqA37
/-! ### pleatref00_SpareWords: function 60 -/
def pleatref00_SpareWords.l0 : Nat → List Int → Int → Option (Bool)
 | 0, _, _ => none
 | k + 1, x3, x4 => if x4 < (x3.length : Int) then (if 0 ≤ x4 then ((pleatref00_num.f 9 x4).bind fun t590 => (if ((rd x3 x4) = ((t590) % 4294967296)) then (pleatref00_SpareWords.l0 k x3 (wrap64 (x4 + 1))) else (some false))) else (none)) else (some true)
def pleatref00_SpareWords.f (k : Nat) (l0 : List Int) : Option (Bool) := if 0 ≤ (wrap64 ((l0.length : Int) + 64)) then (if (wrap64 ((l0.length : Int) + 64)) ≤ (l0.length : Int) then (pleatref00_SpareWords.l0 k (l0.take ((wrap64 ((l0.length : Int) + 64)) : Int).toNat) (l0.length : Int)) else (none)) else (none)
theorem pleatref00_SpareWords.mono_l : ∀ k, (∀ y0 y1, LeO (pleatref00_SpareWords.l0 k y0 y1) (pleatref00_SpareWords.l0 (k + 1) y0 y1))
 | 0 => fun _ _ r h => by simp [pleatref00_SpareWords.l0] at h
 | k + 1 => by
  have ih0 := pleatref00_SpareWords.mono_l k
  ·
   intro y0 y1
   unfold pleatref00_SpareWords.l0
   repeat' first
   | (with_reducible first | exact ih0 _ _ | exact LeO.refl _ | exact LeO.none _ | refine LeO.ite ?_ ?_ | refine LeO.bind ?_ (fun _ => ?_))
theorem pleatref00_SpareWords.mono : ∀ a0 k, LeO (pleatref00_SpareWords.f k a0) (pleatref00_SpareWords.f (k + 1) a0) := by
 intro a0 k
 have ih0 := pleatref00_SpareWords.mono_l k
 unfold pleatref00_SpareWords.f
 repeat' first
   | (with_reducible first | exact ih0 _ _ | exact LeO.refl _ | exact LeO.none _ | refine LeO.ite ?_ ?_ | refine LeO.bind ?_ (fun _ => ?_))
set_option maxHeartbeats 8000000 in
set_option maxRecDepth 100000 in
theorem pleatref00_SpareWords.callsS (k : Nat) (A0 : Option Addr) (c0 n0 : Nat) (y_0 : List Int) (r : Bool) (w : World) (hr0 : Kd.C (Kd.int .u32) w A0 y_0.length y_0) (hn : y_0.length = n0 + 64) (hn2 : n0 ≤ 1000000000000000) (hc0 : n0 + 64 ≤ c0) (h : pleatref00_SpareWords.l0 k y_0 (n0 : Int) = some r) (hrt : r = true) :
  Calls Try.prog 60 #[.slice A0 n0 c0] w fun e w' => e = .returned (.bool r) ∧ Drawn0 w w' := by
 have HRT := Aside0.mk hrt
 have HR588 := Aside0.mk hr0
 have H' := Aside0.mk h
 have HB := Aside0.mk (Below.refl w.heap.size w)
 obtain ⟨ji2, hji2⟩ : ∃ j_ : Int, (wrap64 ((n0 : Int) + 64)) = j_ := ⟨_, rfl⟩
 have hjv : ji2 = (y_0.length : Int) := by rw [← hji2, wrap64_id (by omega) (by omega), hn]; omega
 have hji2w : (IntKind.i64.wrap ((n0 : Int) + 64)) = ji2 := (i64_w _).trans hji2
 have c3b0 := eq_true (show 0 ≤ ji2 by omega)
 obtain ⟨i0_, hi05, _, _, _⟩ := info_parts info42
 have hcut5 := cut_wide (P := Try.prog) 22 42 .i64 Try.underlying22 hi05 A0 n0 c0 ji2 (by omega) (by omega)
 rw [show ji2.toNat = y_0.length by omega] at hcut5
 clear hrt hr0 h hjv hi05 hc0 hn
 go_enter Try.func60, Try.ntmps60
 go_wp2
 go_loopg [4] k (fun kq v4 w' => ∃ (x4_1 : Int), v4 = .int .i64 x4_1 ∧ Aside0 (pleatref00_SpareWords.l0 kq y_0 x4_1 = some r) ∧ Aside0 (kq ≤ k) ∧ Drawn0 w w')
 case atStart => exact ⟨((n0 : Int)), (by first | rfl | (simp; done) | (simp [*]; done)), H', ⟨Nat.le_refl _⟩, by repeat (first | exact Drawn0.refl _ | apply Drawn0.step)⟩
 case round =>
  clear H'
  try clear p2
  try clear c3
  try clear c3b0
  try clear c3b1
  try clear c4
  try clear c4b0
  try clear c4b1
  obtain ⟨x4_1, rfl, HA, HK1, ⟨m1, rfl⟩⟩ := hrel
  cases gk with
  | zero => exact absurd HA.out (by simp [pleatref00_SpareWords.l0])
  | succ k1 =>
   have H := HA.out
   clear HA
   simp only [pleatref00_SpareWords.l0] at H
   by_cases c6 : x4_1 < (y_0.length : Int)
   ·
    rw [if_pos c6] at H
    have c6b0 : decide (x4_1 < (y_0.length : Int)) = true := decide_eq_true c6
    clear c6
    by_cases c7 : 0 ≤ x4_1
    ·
     rw [if_pos c7] at H
     have c7b0 : decide (0 ≤ x4_1) = true := decide_eq_true c7
     clear c7
     replace H := Option.bind_eq_some_iff.mp H
     obtain ⟨t590, A80, H⟩ := H
     try dsimp only at H
     have A8 := Aside0.mk A80
     clear A80
     by_cases c9 : ((rd y_0 x4_1) = ((t590) % 4294967296))
     ·
      rw [if_pos c9] at H
      have c9b0 : ((rd y_0 x4_1) == ((t590) % 4294967296)) = true := beq_iff_eq.mpr c9
      have c9b1 : ((rd y_0 x4_1) != ((t590) % 4294967296)) = false := bne_eq_false_iff_eq.mpr c9
      clear c9
      have H' := Aside0.mk H
      clear H
      have p589 : 0 ≤ (x4_1 : Int) := of_decide_eq_true ‹_›
      have q589 : x4_1 < (y_0.length : Int) := of_decide_eq_true ‹_›
      obtain ⟨ad589, e589, hx589_0⟩ := Kd.at_int HR588.out x4_1 p589 q589
      cases e589
      replace p589 := eq_true p589
      replace q589 := eq_true q589
      go_wp2_with (first | ((with_reducible refine gate_callee (f := 39) rfl ?_); refine goesL_ (some 25) rfl rfl Try.func39 (by kernel_rfl) rfl #[.int .i64 9, .int .i64 x4_1] rfl (by (try simp only [List.map_toArray, List.map_cons, List.map_nil]); try rfl) ?_; (with_reducible refine (pleatref00_num.calls 9 x4_1 t590 _ A8.out).mono ?_); rintro e w' ⟨rfl, ⟨nd, rfl⟩⟩; refine ⟨_, rfl, ?_⟩))
      go_roundg k1
      case measure => have := HK1.out; omega
      case rel => exact ⟨(wrap64 (x4_1 + 1)), (by first | rfl | (simp; done) | (simp [*]; done)), H', ⟨by have := HK1.out; omega⟩, by repeat (first | exact Drawn0.refl _ | apply Drawn0.step)⟩
     ·
      rw [if_neg c9] at H
      exact absurd ((Option.some.inj H).trans HRT.out) (by decide)
    ·
     rw [if_neg c7] at H
     exact absurd H (by simp)
   ·
    rw [if_neg c6] at H
    have c6b0 : decide (x4_1 < (y_0.length : Int)) = false := decide_eq_false c6
    clear c6
    obtain rfl := Option.some.inj H
    go_wp2
    go_ret
    exact ⟨by first | rfl | (simp; done) | (simp only [← hji2] <;> (first | rfl | simp)) | (simp [*]; done), by repeat (first | exact Drawn0.refl _ | apply Drawn0.step)⟩


/-! ### pleatref00_SpareLongs: function 61 -/
def pleatref00_SpareLongs.l0 : Nat → List Int → Int → Option (Bool)
 | 0, _, _ => none
 | k + 1, x3, x4 => if x4 < (x3.length : Int) then (if 0 ≤ x4 then ((pleatref00_num.f 9 x4).bind fun t593 => (if ((rd x3 x4) = t593) then (pleatref00_SpareLongs.l0 k x3 (wrap64 (x4 + 1))) else (some false))) else (none)) else (some true)
def pleatref00_SpareLongs.f (k : Nat) (l0 : List Int) : Option (Bool) := if 0 ≤ (wrap64 ((l0.length : Int) + 64)) then (if (wrap64 ((l0.length : Int) + 64)) ≤ (l0.length : Int) then (pleatref00_SpareLongs.l0 k (l0.take ((wrap64 ((l0.length : Int) + 64)) : Int).toNat) (l0.length : Int)) else (none)) else (none)
theorem pleatref00_SpareLongs.mono_l : ∀ k, (∀ y0 y1, LeO (pleatref00_SpareLongs.l0 k y0 y1) (pleatref00_SpareLongs.l0 (k + 1) y0 y1))
 | 0 => fun _ _ r h => by simp [pleatref00_SpareLongs.l0] at h
 | k + 1 => by
  have ih0 := pleatref00_SpareLongs.mono_l k
  ·
   intro y0 y1
   unfold pleatref00_SpareLongs.l0
   repeat' first
   | (with_reducible first | exact ih0 _ _ | exact LeO.refl _ | exact LeO.none _ | refine LeO.ite ?_ ?_ | refine LeO.bind ?_ (fun _ => ?_))
theorem pleatref00_SpareLongs.mono : ∀ a0 k, LeO (pleatref00_SpareLongs.f k a0) (pleatref00_SpareLongs.f (k + 1) a0) := by
 intro a0 k
 have ih0 := pleatref00_SpareLongs.mono_l k
 unfold pleatref00_SpareLongs.f
 repeat' first
   | (with_reducible first | exact ih0 _ _ | exact LeO.refl _ | exact LeO.none _ | refine LeO.ite ?_ ?_ | refine LeO.bind ?_ (fun _ => ?_))
set_option maxHeartbeats 8000000 in
set_option maxRecDepth 100000 in
theorem pleatref00_SpareLongs.callsS (k : Nat) (A0 : Option Addr) (c0 n0 : Nat) (y_0 : List Int) (r : Bool) (w : World) (hr0 : Kd.C (Kd.int .i64) w A0 y_0.length y_0) (hn : y_0.length = n0 + 64) (hn2 : n0 ≤ 1000000000000000) (hc0 : n0 + 64 ≤ c0) (h : pleatref00_SpareLongs.l0 k y_0 (n0 : Int) = some r) (hrt : r = true) :
  Calls Try.prog 61 #[.slice A0 n0 c0] w fun e w' => e = .returned (.bool r) ∧ Drawn0 w w' := by
 have HRT := Aside0.mk hrt
 have HR591 := Aside0.mk hr0
 have H' := Aside0.mk h
 have HB := Aside0.mk (Below.refl w.heap.size w)
 obtain ⟨ji2, hji2⟩ : ∃ j_ : Int, (wrap64 ((n0 : Int) + 64)) = j_ := ⟨_, rfl⟩
 have hjv : ji2 = (y_0.length : Int) := by rw [← hji2, wrap64_id (by omega) (by omega), hn]; omega
 have hji2w : (IntKind.i64.wrap ((n0 : Int) + 64)) = ji2 := (i64_w _).trans hji2
 have c3b0 := eq_true (show 0 ≤ ji2 by omega)
 obtain ⟨i0_, hi05, _, _, _⟩ := info_parts info2
 have hcut5 := cut_wide (P := Try.prog) 23 2 .i64 Try.underlying23 hi05 A0 n0 c0 ji2 (by omega) (by omega)
 rw [show ji2.toNat = y_0.length by omega] at hcut5
 clear hrt hr0 h hjv hi05 hc0 hn
 go_enter Try.func61, Try.ntmps61
 go_wp2
 go_loopg [4] k (fun kq v4 w' => ∃ (x4_1 : Int), v4 = .int .i64 x4_1 ∧ Aside0 (pleatref00_SpareLongs.l0 kq y_0 x4_1 = some r) ∧ Aside0 (kq ≤ k) ∧ Drawn0 w w')
 case atStart => exact ⟨((n0 : Int)), (by first | rfl | (simp; done) | (simp [*]; done)), H', ⟨Nat.le_refl _⟩, by repeat (first | exact Drawn0.refl _ | apply Drawn0.step)⟩
 case round =>
  clear H'
  try clear p2
  try clear c3
  try clear c3b0
  try clear c3b1
  try clear c4
  try clear c4b0
  try clear c4b1
  obtain ⟨x4_1, rfl, HA, HK1, ⟨m1, rfl⟩⟩ := hrel
  cases gk with
  | zero => exact absurd HA.out (by simp [pleatref00_SpareLongs.l0])
  | succ k1 =>
   have H := HA.out
   clear HA
   simp only [pleatref00_SpareLongs.l0] at H
   by_cases c6 : x4_1 < (y_0.length : Int)
   ·
    rw [if_pos c6] at H
    have c6b0 : decide (x4_1 < (y_0.length : Int)) = true := decide_eq_true c6
    clear c6
    by_cases c7 : 0 ≤ x4_1
    ·
     rw [if_pos c7] at H
     have c7b0 : decide (0 ≤ x4_1) = true := decide_eq_true c7
     clear c7
     replace H := Option.bind_eq_some_iff.mp H
     obtain ⟨t593, A80, H⟩ := H
     try dsimp only at H
     have A8 := Aside0.mk A80
     clear A80
     by_cases c9 : ((rd y_0 x4_1) = t593)
     ·
      rw [if_pos c9] at H
      have c9b0 : ((rd y_0 x4_1) == t593) = true := beq_iff_eq.mpr c9
      have c9b1 : ((rd y_0 x4_1) != t593) = false := bne_eq_false_iff_eq.mpr c9
      clear c9
      have H' := Aside0.mk H
      clear H
      have p592 : 0 ≤ (x4_1 : Int) := of_decide_eq_true ‹_›
      have q592 : x4_1 < (y_0.length : Int) := of_decide_eq_true ‹_›
      obtain ⟨ad592, e592, hx592_0⟩ := Kd.at_int HR591.out x4_1 p592 q592
      cases e592
      replace p592 := eq_true p592
      replace q592 := eq_true q592
      go_wp2_with (first | ((with_reducible refine gate_callee (f := 39) rfl ?_); refine goesL_ (some 25) rfl rfl Try.func39 (by kernel_rfl) rfl #[.int .i64 9, .int .i64 x4_1] rfl (by (try simp only [List.map_toArray, List.map_cons, List.map_nil]); try rfl) ?_; (with_reducible refine (pleatref00_num.calls 9 x4_1 t593 _ A8.out).mono ?_); rintro e w' ⟨rfl, ⟨nd, rfl⟩⟩; refine ⟨_, rfl, ?_⟩))
      go_roundg k1
      case measure => have := HK1.out; omega
      case rel => exact ⟨(wrap64 (x4_1 + 1)), (by first | rfl | (simp; done) | (simp [*]; done)), H', ⟨by have := HK1.out; omega⟩, by repeat (first | exact Drawn0.refl _ | apply Drawn0.step)⟩
     ·
      rw [if_neg c9] at H
      exact absurd ((Option.some.inj H).trans HRT.out) (by decide)
    ·
     rw [if_neg c7] at H
     exact absurd H (by simp)
   ·
    rw [if_neg c6] at H
    have c6b0 : decide (x4_1 < (y_0.length : Int)) = false := decide_eq_false c6
    clear c6
    obtain rfl := Option.some.inj H
    go_wp2
    go_ret
    exact ⟨by first | rfl | (simp; done) | (simp only [← hji2] <;> (first | rfl | simp)) | (simp [*]; done), by repeat (first | exact Drawn0.refl _ | apply Drawn0.step)⟩


/-! ### pleatref00_SpareSymbols: function 62 -/
def pleatref00_SpareSymbols.l0 : Nat → List (S37) → Int → Option (Bool)
 | 0, _, _ => none
 | k + 1, x3, x4 => if x4 < (x3.length : Int) then (if 0 ≤ x4 then ((pleatref00_num.f 9 x4).bind fun t600 => (if (((((rd_T37 x3 x4).f0).toList) == ([] : List UInt8) && (((rd_T37 x3 x4).f1) == 0 && (((rd_T37 x3 x4).f2) == t600))) = true) then (pleatref00_SpareSymbols.l0 k x3 (wrap64 (x4 + 1))) else (some false))) else (none)) else (some true)
def pleatref00_SpareSymbols.f (k : Nat) (l0 : List (S37)) : Option (Bool) := if 0 ≤ (wrap64 ((l0.length : Int) + 64)) then (if (wrap64 ((l0.length : Int) + 64)) ≤ (l0.length : Int) then (pleatref00_SpareSymbols.l0 k (l0.take ((wrap64 ((l0.length : Int) + 64)) : Int).toNat) (l0.length : Int)) else (none)) else (none)
theorem pleatref00_SpareSymbols.mono_l : ∀ k, (∀ y0 y1, LeO (pleatref00_SpareSymbols.l0 k y0 y1) (pleatref00_SpareSymbols.l0 (k + 1) y0 y1))
 | 0 => fun _ _ r h => by simp [pleatref00_SpareSymbols.l0] at h
 | k + 1 => by
  have ih0 := pleatref00_SpareSymbols.mono_l k
  ·
   intro y0 y1
   unfold pleatref00_SpareSymbols.l0
   repeat' first
   | (with_reducible first | exact ih0 _ _ | exact LeO.refl _ | exact LeO.none _ | refine LeO.ite ?_ ?_ | refine LeO.bind ?_ (fun _ => ?_))
theorem pleatref00_SpareSymbols.mono : ∀ a0 k, LeO (pleatref00_SpareSymbols.f k a0) (pleatref00_SpareSymbols.f (k + 1) a0) := by
 intro a0 k
 have ih0 := pleatref00_SpareSymbols.mono_l k
 unfold pleatref00_SpareSymbols.f
 repeat' first
   | (with_reducible first | exact ih0 _ _ | exact LeO.refl _ | exact LeO.none _ | refine LeO.ite ?_ ?_ | refine LeO.bind ?_ (fun _ => ?_))
set_option maxHeartbeats 8000000 in
set_option maxRecDepth 100000 in
theorem pleatref00_SpareSymbols.callsS (k : Nat) (A0 : Option Addr) (c0 n0 : Nat) (y594 : List (S37)) (r : Bool) (w : World) (hr0 : Kd.C k37 w A0 y594.length y594) (hn : y594.length = n0 + 64) (hn2 : n0 ≤ 1000000000000000) (hc0 : n0 + 64 ≤ c0) (h : pleatref00_SpareSymbols.l0 k y594 (n0 : Int) = some r) (hrt : r = true) :
  Calls Try.prog 62 #[.slice A0 n0 c0] w fun e w' => e = .returned (.bool r) ∧ Below w.heap.size w w' := by
 have hu37 := Try.underlying37
 have HRT := Aside0.mk hrt
 have HR597 := Aside0.mk hr0
 have H' := Aside0.mk h
 have HB := Aside0.mk (Below.refl w.heap.size w)
 obtain ⟨ji2, hji2⟩ : ∃ j_ : Int, (wrap64 ((n0 : Int) + 64)) = j_ := ⟨_, rfl⟩
 have hjv : ji2 = (y594.length : Int) := by rw [← hji2, wrap64_id (by omega) (by omega), hn]; omega
 have hji2w : (IntKind.i64.wrap ((n0 : Int) + 64)) = ji2 := (i64_w _).trans hji2
 have c3b0 := eq_true (show 0 ≤ ji2 by omega)
 obtain ⟨i0_, hi05, _, _, _⟩ := info_parts info37
 have hcut5 := cut_wide (P := Try.prog) 24 37 .i64 Try.underlying24 hi05 A0 n0 c0 ji2 (by omega) (by omega)
 rw [show ji2.toNat = y594.length by omega] at hcut5
 clear hrt hr0 h hjv hi05 hc0 hn
 go_enter Try.func62, Try.ntmps62
 go_wp2
 repeat (go_quiet (fail); try go_wp2)
 go_loopg [4] k (fun kq v4 w' => ∃ (x4_1 : Int), v4 = .int .i64 x4_1 ∧ Aside0 (pleatref00_SpareSymbols.l0 kq y594 x4_1 = some r) ∧ Aside0 (kq ≤ k) ∧ Aside0 (Below w.heap.size w w'))
 case atStart => exact ⟨((n0 : Int)), (by first | rfl | (simp; done) | (simp [*]; done)), H', ⟨Nat.le_refl _⟩, ⟨bwQ HB.out⟩⟩
 case round =>
  clear H'
  try clear p2
  try clear c3
  try clear c3b0
  try clear c3b1
  try clear c4
  try clear c4b0
  try clear c4b1
  try clear q5
  try clear q5
  obtain ⟨x4_1, rfl, HA, HK1, HB⟩ := hrel
  cases gk with
  | zero => exact absurd HA.out (by simp [pleatref00_SpareSymbols.l0])
  | succ k1 =>
   have H := HA.out
   clear HA
   simp only [pleatref00_SpareSymbols.l0] at H
   by_cases c6 : x4_1 < (y594.length : Int)
   ·
    rw [if_pos c6] at H
    have c6b0 : decide (x4_1 < (y594.length : Int)) = true := decide_eq_true c6
    clear c6
    by_cases c7 : 0 ≤ x4_1
    ·
     rw [if_pos c7] at H
     have c7b0 : decide (0 ≤ x4_1) = true := decide_eq_true c7
     clear c7
     replace H := Option.bind_eq_some_iff.mp H
     obtain ⟨t600, A80, H⟩ := H
     try dsimp only at H
     have A8 := Aside0.mk A80
     clear A80
     by_cases c9 : (((((rd_T37 y594 x4_1).f0).toList) == ([] : List UInt8) && (((rd_T37 y594 x4_1).f1) == 0 && (((rd_T37 y594 x4_1).f2) == t600))) = true)
     ·
      rw [if_pos c9] at H
      obtain ⟨ce0, ce1, ce2⟩ : (rd_T37 y594 x4_1).f0.toList.isEmpty = true ∧ ((rd_T37 y594 x4_1).f1 == 0) = true ∧ ((rd_T37 y594 x4_1).f2 == t600) = true := by simpa using c9
      have c9b0 : ((((rd_T37 y594 x4_1).f0).toList) == ([] : List UInt8) && (((rd_T37 y594 x4_1).f1) == 0 && (((rd_T37 y594 x4_1).f2) == t600))) = true := c9
      (try (have c9b1 : decide ((((rd_T37 y594 x4_1).f0).toList) = ([] : List UInt8) && (((rd_T37 y594 x4_1).f1) == 0 && (((rd_T37 y594 x4_1).f2) == t600))) = true := by simpa using c9))
      (try (have c9b2 : ((((rd_T37 y594 x4_1).f0).toList) == ([] : List UInt8) && (((rd_T37 y594 x4_1).f1) == 0 && (((rd_T37 y594 x4_1).f2) == t600))) = true := by simpa using c9))
      clear c9
      have H' := Aside0.mk H
      clear H
      have p598 : 0 ≤ (x4_1 : Int) := of_decide_eq_true ‹_›
      have q598 : x4_1 < (y594.length : Int) := of_decide_eq_true ‹_›
      obtain ⟨ad598, e598, hx598_0, hx598_1, hx598_2⟩ := atQ37 HR597.out HB.out x4_1 p598 q598
      cases e598
      replace p598 := eq_true p598
      replace q598 := eq_true q598
      go_wp2_with (first | ((with_reducible refine gate_dst (N := 5) rfl ?_); refine box_event ?hg (N := 5) ?hd (cs := #[.string (⟨#[]⟩ : ByteArray), .int .i8 0, .int .i64 0]) (t := 37) ?hr ?_; (case hd => rfl); (case hg => rfl); (case hr => go_simp; try rfl); intro gb599 hg w10 hbox hb; have BK599 := Aside0.mk (hbox); have GW599 := Aside0.mk (gwQ hg HB.out); have GE599 := Aside0.mk (gwQ hg HB.out); replace HB := Aside0.mk (bsQ hb HB.out); clear hb hbox hg; obtain ⟨hcz11_0, hcz11_1, hcz11_2⟩ := bcQ3 BK599.out; obtain ⟨hfz11_0, hfz11_1, hfz11_2⟩ := fzQ3 BK599.out) | (go_at_call 39; (with_reducible refine (pleatref00_num.calls 9 x4_1 t600 _ A8.out).mono ?_); rintro e w' ⟨rfl, ⟨nd, rfl⟩⟩; (try first | exact ⟨rfl, _, World.drewN_drewN _ _ _⟩ | exact ⟨rfl, _, Eq.trans (World.drewN_drewN _ _ _) (congrArg (World.drewN _) (Nat.add_assoc _ _ _))⟩)))
      repeat (go_quiet (first | ((with_reducible refine gate_dst (N := 5) rfl ?_); refine box_event ?hg (N := 5) ?hd (cs := #[.string (⟨#[]⟩ : ByteArray), .int .i8 0, .int .i64 0]) (t := 37) ?hr ?_; (case hd => rfl); (case hg => rfl); (case hr => go_simp; try rfl); intro gb599 hg w10 hbox hb; have BK599 := Aside0.mk (hbox); have GW599 := Aside0.mk (gwQ hg HB.out); have GE599 := Aside0.mk (gwQ hg HB.out); replace HB := Aside0.mk (bsQ hb HB.out); clear hb hbox hg; obtain ⟨hcz11_0, hcz11_1, hcz11_2⟩ := bcQ3 BK599.out; obtain ⟨hfz11_0, hfz11_1, hfz11_2⟩ := fzQ3 BK599.out) | (go_at_call 39; (with_reducible refine (pleatref00_num.calls 9 x4_1 t600 _ A8.out).mono ?_); rintro e w' ⟨rfl, ⟨nd, rfl⟩⟩; (try first | exact ⟨rfl, _, World.drewN_drewN _ _ _⟩ | exact ⟨rfl, _, Eq.trans (World.drewN_drewN _ _ _) (congrArg (World.drewN _) (Nat.add_assoc _ _ _))⟩))); try go_wp2_with (first | ((with_reducible refine gate_dst (N := 5) rfl ?_); refine box_event ?hg (N := 5) ?hd (cs := #[.string (⟨#[]⟩ : ByteArray), .int .i8 0, .int .i64 0]) (t := 37) ?hr ?_; (case hd => rfl); (case hg => rfl); (case hr => go_simp; try rfl); intro gb599 hg w10 hbox hb; have BK599 := Aside0.mk (hbox); have GW599 := Aside0.mk (gwQ hg HB.out); have GE599 := Aside0.mk (gwQ hg HB.out); replace HB := Aside0.mk (bsQ hb HB.out); clear hb hbox hg; obtain ⟨hcz11_0, hcz11_1, hcz11_2⟩ := bcQ3 BK599.out; obtain ⟨hfz11_0, hfz11_1, hfz11_2⟩ := fzQ3 BK599.out) | (go_at_call 39; (with_reducible refine (pleatref00_num.calls 9 x4_1 t600 _ A8.out).mono ?_); rintro e w' ⟨rfl, ⟨nd, rfl⟩⟩; (try first | exact ⟨rfl, _, World.drewN_drewN _ _ _⟩ | exact ⟨rfl, _, Eq.trans (World.drewN_drewN _ _ _) (congrArg (World.drewN _) (Nat.add_assoc _ _ _))⟩))))
      go_roundg k1
      case measure => have := HK1.out; omega
      case rel => exact ⟨(wrap64 (x4_1 + 1)), (by first | rfl | (simp; done) | (simp [*]; done)), H', ⟨by have := HK1.out; omega⟩, ⟨by repeat with_reducible first | exact HB.out | apply pw_below_drewN | apply below_drew1 | refine below_set ?_ GE599.out⟩⟩
     ·
      rw [if_neg c9] at H
      exact absurd ((Option.some.inj H).trans HRT.out) (by decide)
    ·
     rw [if_neg c7] at H
     exact absurd H (by simp)
   ·
    rw [if_neg c6] at H
    have c6b0 : decide (x4_1 < (y594.length : Int)) = false := decide_eq_false c6
    clear c6
    obtain rfl := Option.some.inj H
    go_wp2
    repeat (go_quiet (fail); try go_wp2)
    go_ret
    exact ⟨by first | rfl | (simp [errW_none, errW_some] <;> rfl) | (simp only [← hji2]; first | rfl | (simp [errW_none, errW_some] <;> rfl)) | (simp [*, errW_none, errW_some] <;> rfl), bwQ HB.out⟩
end Go.Proofs.Ytiaohbbafaaibab.P

/- What the Go functions named below come to, as plain functions, each with its proof; written by this session's prt.py over the kit's print. -/
namespace Go.Proofs.Ytiaohbbafaaibab.P
open Go.RowKit Go.Proofs.YtiaohbbafaaibabW.PrintWords Go.Proofs.YtiaohbbafaaibabW.PrintLast Go.Proofs.YtiaohbbafaaibabW.PrintMore
attribute [local go_sem] max2_int min2_int max_two min_two max_three min_three max_four min_four   -- for this text's walks alone
set_option linter.unusedVariables false
set_option linter.unusedSimpArgs false
/-! ### pleatref00_WideRelocs: function 53 -/
def pleatref00_WideRelocs.l0 : Nat → List (S41) → List (S41) → Int → Option ((List (S41)))
 | 0, _, _, _ => none
 | k + 1, x0, x3, x4 => if x4 < (x3.length : Int) then (if x4 < (x0.length : Int) then (if 0 ≤ x4 then (pleatref00_WideRelocs.l0 k x0 (x3.set (x4 : Int).toNat (⟨(rd_T41 x0 x4).f0, (rd_T41 x0 x4).f1⟩ : S41)) (wrap64 (x4 + 1))) else (none)) else ((pleatref00_num.f 9 x4).bind fun t434 => (if 0 ≤ x4 then (pleatref00_WideRelocs.l0 k x0 (x3.set (x4 : Int).toNat (⟨t434, 0⟩ : S41)) (wrap64 (x4 + 1))) else (none)))) else (if 0 ≤ (x0.length : Int) then (if (x0.length : Int) ≤ (x3.length : Int) then (some (x3.take ((x0.length : Int) : Int).toNat)) else (none)) else (none))
def pleatref00_WideRelocs.f (k : Nat) (l0 : List (S41)) : Option ((List (S41))) := if 0 ≤ (wrap64 ((l0.length : Int) + 64)) then (if (wrap64 ((l0.length : Int) + 64) : Int).toNat ≤ 17592186044416 then (pleatref00_WideRelocs.l0 k l0 (List.replicate (wrap64 ((l0.length : Int) + 64) : Int).toNat z41) 0) else (none)) else (none)
theorem pleatref00_WideRelocs.mono_l : ∀ k, (∀ y0 y1 y2, LeO (pleatref00_WideRelocs.l0 k y0 y1 y2) (pleatref00_WideRelocs.l0 (k + 1) y0 y1 y2))
 | 0 => fun _ _ _ r h => by simp [pleatref00_WideRelocs.l0] at h
 | k + 1 => by
  have ih0 := pleatref00_WideRelocs.mono_l k
  ·
   intro y0 y1 y2
   unfold pleatref00_WideRelocs.l0
   repeat' first
   | (with_reducible first | exact ih0 _ _ _ | exact LeO.refl _ | exact LeO.none _ | refine LeO.ite ?_ ?_ | refine LeO.bind ?_ (fun _ => ?_))
theorem pleatref00_WideRelocs.mono : ∀ a0 k, LeO (pleatref00_WideRelocs.f k a0) (pleatref00_WideRelocs.f (k + 1) a0) := by
 intro a0 k
 have ih0 := pleatref00_WideRelocs.mono_l k
 unfold pleatref00_WideRelocs.f
 repeat' first
   | (with_reducible first | exact ih0 _ _ _ | exact LeO.refl _ | exact LeO.none _ | refine LeO.ite ?_ ?_ | refine LeO.bind ?_ (fun _ => ?_))
set_option maxHeartbeats 8000000 in
set_option maxRecDepth 100000 in
theorem pleatref00_WideRelocs.callsW (k : Nat) (A0 : Option Addr) (c0 : Nat) (l0 : List (S41)) (r : List (S41)) (w : World) (hr0 : Kd.C k41 w A0 l0.length l0) (hc0 : l0.length ≤ c0) (h : pleatref00_WideRelocs.f k l0 = some r) :
  Calls Try.prog 53 #[.slice A0 l0.length c0] w fun e w' => ∃ v0_ : Value, e = .returned (v0_) ∧ Kd.R k41 41 w' w.heap.size (fun _ => True) v0_ r ∧ Below w.heap.size w w' ∧ WideC k41 41 w' w.heap.size v0_ l0 (fun i => (⟨markN i, 0⟩ : S41)) := by
 have hu41 := Try.underlying41
 have HR0 := Aside0.mk hr0
 have HC0 := Aside0.mk hc0
 clear hr0 hc0
 have HB := Aside0.mk (Below.refl w.heap.size w)
 have H : (if 0 ≤ (wrap64 ((l0.length : Int) + 64)) then (if (wrap64 ((l0.length : Int) + 64) : Int).toNat ≤ 17592186044416 then (pleatref00_WideRelocs.l0 k l0 (List.replicate (wrap64 ((l0.length : Int) + 64) : Int).toNat z41) 0) else (none)) else (none)) = some r := h
 clear h
 obtain ⟨ji2, hji2⟩ : ∃ j_ : Int, (wrap64 ((l0.length : Int) + 64)) = j_ := ⟨_, rfl⟩
 replace H : (if 0 ≤ (ji2) then (if (ji2 : Int).toNat ≤ 17592186044416 then (pleatref00_WideRelocs.l0 k l0 (List.replicate (ji2 : Int).toNat z41) 0) else (none)) else (none)) = some r := by first | (rw [hji2] at H; exact H) | (simp only [hji2] at H ⊢; exact H)
 have hji2w : (IntKind.i64.wrap ((l0.length : Int) + 64)) = ji2 := (i64_w _).trans hji2
 by_cases c3 : 0 ≤ (ji2)
 ·
  rw [if_pos c3] at H
  have c3b0 := eq_true c3
  have c3b1 : decide (0 ≤ (ji2)) = true := decide_eq_true c3
  clear c3
  by_cases c4 : (ji2 : Int).toNat ≤ 17592186044416
  ·
   rw [if_pos c4] at H
   have c4b0 := eq_true c4
   have c4b1 : decide ((ji2 : Int).toNat ≤ 17592186044416) = true := decide_eq_true c4
   clear c4
   obtain ⟨y429, hy429⟩ : ∃ y_ : List (S41), y_ = (List.replicate (ji2 : Int).toNat z41) := ⟨_, rfl⟩
   replace H : (pleatref00_WideRelocs.l0 k l0 y429 0) = some r := by first | (rw [hy429]; with_reducible exact H) | (have H2_ := (Option.bind_some _ _).symm.trans H; rw [hy429]; with_reducible exact H2_) | (have H2_ := (Option.bind_some _ _).symm.trans H; with_reducible exact H2_) | with_reducible exact H | (rw [hy429]; exact H) | exact H
   have Ny429 := Aside0.mk hy429
   have HFW0 := Aside0.mk (FillW.start (mk := fun i => (⟨markN i, 0⟩ : S41)) HR0.out.2.1 hji2 c3b1 (decide_eq_true (Nat.le_trans (of_decide_eq_true c4b1) (by decide))) Ny429.out)
   clear hy429
   have H' := Aside0.mk H
   clear H
   go_enter Try.func53, Try.ntmps53
   go_wp2_with (first | ((with_reducible refine gate_dst (N := 8) rfl ?_); refine Kd.R_make k41 _ 41 rfl (N := 8) rfl 25 _ _ rfl ji2 rfl rfl Try.underlying25 (.agg #[(.int .i64 0), (.int .i64 0)]) 16 info41 rfl (by decide) (by omega) z41 (ok := fun _ => True) (okp := fun _ => True) (k41_mkM _ _ _ z41 ) (fun _ hk => hk) trivial (of_decide_eq_true ‹_›) (Nat.le_trans (Nat.mul_le_mul_right _ (of_decide_eq_true ‹_› : ji2.toNat ≤ 17592186044416)) (by omega)) (Below.refl _ _) (Nat.le_refl _) ?_; intro v430 w5 ho6 hb hg_ hnew_; clear hg_ hnew_; (first | rw [← Ny429.out] at ho6 | (simp only [Int.reduceToNat] at ho6; rw [← Ny429.out] at ho6)); have HO431 := Aside0.mk (Kd.R_lower ho6 (below_size (bwQ HB.out))); replace HB := Aside0.mk (bsQ hb HB.out); clear hb ho6))
   go_loopg [4] k (fun kq v4 w' => ∃ (x3_1 : List (S41)) (x4_1 : Int), v4 = .int .i64 x4_1 ∧ Aside0 (pleatref00_WideRelocs.l0 kq l0 x3_1 x4_1 = some r) ∧ Aside0 (kq ≤ k) ∧ Aside0 (FillW l0 (fun i => (⟨markN i, 0⟩ : S41)) x3_1 x4_1) ∧ Aside0 (Kd.R k41 41 w' w.heap.size (fun _ => True) v430 x3_1) ∧ Aside0 (Below w.heap.size w w'))
   case atStart => exact ⟨(y429), (0), (by first | rfl | (simp; done) | (simp [*]; done)), H', ⟨Nat.le_refl _⟩, HFW0, ⟨by (with_reducible repeat (first | apply Kd.R_alloc | apply Kd.R_drewN | apply Kd.R_drew)); exact HO431.out⟩, ⟨bwQ HB.out⟩⟩
   case round =>
    clear H'
    try clear p2
    try clear c3
    try clear c3b0
    try clear c3b1
    try clear c4
    try clear c4b0
    try clear c4b1
    try clear c5
    try clear p6
    obtain ⟨x3_1, x4_1, rfl, HA, HK1, HFW, HO_3, HB⟩ := hrel
    cases gk with
    | zero => exact absurd HA.out (by simp [pleatref00_WideRelocs.l0])
    | succ k1 =>
     have H := HA.out
     clear HA
     simp only [pleatref00_WideRelocs.l0] at H
     by_cases c7 : x4_1 < (x3_1.length : Int)
     ·
      rw [if_pos c7] at H
      have c7b0 : decide (x4_1 < (x3_1.length : Int)) = true := decide_eq_true c7
      clear c7
      by_cases c8 : x4_1 < (l0.length : Int)
      ·
       rw [if_pos c8] at H
       have c8b0 : decide (x4_1 < (l0.length : Int)) = true := decide_eq_true c8
       clear c8
       by_cases c9 : 0 ≤ x4_1
       ·
        rw [if_pos c9] at H
        have c9b0 : decide (0 ≤ x4_1) = true := decide_eq_true c9
        clear c9
        obtain ⟨y433, hy433⟩ : ∃ y_ : List (S41), y_ = (x3_1.set (x4_1 : Int).toNat (⟨(rd_T41 l0 x4_1).f0, (rd_T41 l0 x4_1).f1⟩ : S41)) := ⟨_, rfl⟩
        replace H : (pleatref00_WideRelocs.l0 k1 l0 y433 (wrap64 (x4_1 + 1))) = some r := by first | (rw [hy433]; with_reducible exact H) | (have H2_ := (Option.bind_some _ _).symm.trans H; rw [hy433]; with_reducible exact H2_) | (have H2_ := (Option.bind_some _ _).symm.trans H; with_reducible exact H2_) | with_reducible exact H | (rw [hy433]; exact H) | exact H
        have Ny433 := Aside0.mk hy433
        have HFW1 := Aside0.mk (FillW.copy HFW.out c8b0 (getW HFW.out.lo c8b0) Ny433.out)
        clear hy433
        have H' := Aside0.mk H
        clear H
        obtain ⟨Ao11, co11, eo11⟩ := Kd.R_slice HO_3.out
        subst eo11
        have p432 : 0 ≤ (x4_1 : Int) := of_decide_eq_true ‹_›
        have q432 : x4_1 < (l0.length : Int) := of_decide_eq_true ‹_›
        obtain ⟨ad432, e432, hx432_0, hx432_1⟩ := atQ41 HR0.out HB.out x4_1 p432 q432
        cases e432
        replace p432 := eq_true p432
        replace q432 := eq_true q432
        have p10 : 0 ≤ (x4_1 : Int) := of_decide_eq_true ‹_›
        have q10 : (x4_1 : Int) < ((x3_1.length : Int) : Int) := of_decide_eq_true ‹_›
        obtain ⟨go10, co10, eo10, gb10, gl10, cl10, HG10⟩ := Kd.R_form HO_3.out (by omega)
        (first | cases eo10 | (injection eo10 with ea_ en_ ec_; (first | subst ea_ | (injection ea_ with ea_; subst ea_)); subst ec_; clear en_))
        have GB10 := Aside0.mk gb10
        have GG10 := Aside0.mk HG10
        clear gb10 gl10 HG10
        obtain ⟨ce10, hcl10, hM10, hcc10, hfr10⟩ := Kd.R_elem HO_3.out z41 (x4_1 : Int) p10 q10
        obtain rfl := k41_openM hM10
        have hx10_0 : wr.cell? ⟨go10, (x4_1 : Int).toNat * 2, none⟩ = some (.int .i64 ((rd_T41 x3_1 x4_1).f0)) := hcc10 0 _ rfl
        have hx10_1 : wr.cell? ⟨go10, (x4_1 : Int).toNat * 2 + 1, none⟩ = some (.int .i64 ((rd_T41 x3_1 x4_1).f1)) := hcc10 1 _ rfl
        have hf10_0 : wr.frozen? ⟨go10, (x4_1 : Int).toNat * 2, none⟩ = false := hfr10 0
        have hf10_1 : wr.frozen? ⟨go10, (x4_1 : Int).toNat * 2 + 1, none⟩ = false := hfr10 1
        clear hcl10 hcc10 hfr10 hM10
        replace p10 := eq_true p10
        replace q10 := eq_true q10
        have HX12 := Aside0.mk (show Kd.R k41 41 wr w.heap.size (fun _ => True) (.slice (some ⟨go10, 0, none⟩) x3_1.length co11) x3_1 from (by (with_reducible repeat (first | apply Kd.R_alloc | apply Kd.R_drewN | apply Kd.R_drew)); exact HO_3.out))
        obtain ⟨ce12, hcl12, hM12, hcc12, hfr12⟩ := Kd.R_elem HX12.out z41 (x4_1 : Int) (of_decide_eq_true ‹_›) (by have h_ : (x4_1 : Int) < ((x3_1.length : Int) : Int) := of_decide_eq_true ‹_›; first | exact h_ | (have e_ := (Kd.R_reads' HO_3.out).1; omega) | simpa using h_)
        obtain rfl := k41_openM hM12
        have HP12 := Kd.R_seg HX12.out (x4_1 : Int) (of_decide_eq_true ‹_›) (by have h_ : (x4_1 : Int) < ((x3_1.length : Int) : Int) := of_decide_eq_true ‹_›; first | exact h_ | (have e_ := (Kd.R_reads' HO_3.out).1; omega) | simpa using h_) (seg := [.int .i64 ((rd_T41 l0 x4_1).f0), .int .i64 ((rd_T41 l0 x4_1).f1)]) (j := 0) hcl12 hcc12 (show 2 ≤ 2 from by decide) (x' := (⟨(rd_T41 l0 x4_1).f0, (rd_T41 l0 x4_1).f1⟩ : S41)) (k41_mkM _ _ _ (⟨(rd_T41 l0 x4_1).f0, (rd_T41 l0 x4_1).f1⟩ : S41) ) (fun _ hk => hk)
        have hx12_0 := hcc12 0 _ rfl
        (try simp only [show (k41).sz = 2 from rfl, Nat.mul_one, Nat.add_zero] at hx12_0)
        have hf12_0 := hfr12 0
        (try simp only [show (k41).sz = 2 from rfl, Nat.mul_one, Nat.add_zero] at hf12_0)
        have hx12_1 := hcc12 1 _ rfl
        (try simp only [show (k41).sz = 2 from rfl, Nat.mul_one, Nat.add_zero] at hx12_1)
        have hf12_1 := hfr12 1
        (try simp only [show (k41).sz = 2 from rfl, Nat.mul_one, Nat.add_zero] at hf12_1)
        clear hcl12 hcc12 hfr12 hM12
        go_wp2_with (first | ((with_reducible refine gate_store (t := 41) (p := 25) rfl ?_); refine store_event (t := 41) (p := 25) (v := ?vo_w13) (w1 := ((wr.setCell ⟨go10, (x4_1 : Int).toNat * 2, none⟩ (.int .i64 ((rd_T41 l0 x4_1).f0))).setCell ⟨go10, (x4_1 : Int).toNat * 2 + 1, none⟩ (.int .i64 ((rd_T41 l0 x4_1).f1)))) ?hg ?ho ?hn ?hr ?_; (case ho => rfl); (case hg => rfl); (case hn => rfl); (case hr => first | (go_simp; done) | (go_simp; rfl)); intro w13 hw; have hg : wr.grownBy w13 (some go10) := (by rw [hw]; exact HP12.2); have hp_ : Kd.R k41 41 w13 w.heap.size (fun _ => True) (.slice (some ⟨go10, 0, none⟩) x3_1.length co11) y433 := (by rw [hw, Ny433.out]; exact HP12.1); clear HP12; have n0_ := Aside0.mk (hp_); have n1_ := Aside0.mk ((by rw [hw]; exact below_set (below_set (HB.out) GB10.out) GB10.out : Below w.heap.size w w13)); clear HO_3; clear HB; have HO_3 := n0_; have HB := n1_; clear n0_ n1_; clear hg hw hp_))
        go_roundg k1
        case measure => have := HK1.out; omega
        case rel => exact ⟨(y433), (wrap64 (x4_1 + 1)), (by first | rfl | (simp; done) | (simp [*]; done)), H', ⟨by have := HK1.out; omega⟩, HFW1, ⟨by (with_reducible repeat (first | apply Kd.R_alloc | apply Kd.R_drewN | apply Kd.R_drew)); exact HO_3.out⟩, ⟨bwQ HB.out⟩⟩
       ·
        rw [if_neg c9] at H
        exact absurd H (by simp)
      ·
       rw [if_neg c8] at H
       have c8b0 : decide (x4_1 < (l0.length : Int)) = false := decide_eq_false c8
       clear c8
       replace H := Option.bind_eq_some_iff.mp H
       obtain ⟨t434, A140, H⟩ := H
       try dsimp only at H
       have A14 := Aside0.mk A140
       clear A140
       by_cases c15 : 0 ≤ x4_1
       ·
        rw [if_pos c15] at H
        have c15b0 : decide (0 ≤ x4_1) = true := decide_eq_true c15
        clear c15
        obtain ⟨y435, hy435⟩ : ∃ y_ : List (S41), y_ = (x3_1.set (x4_1 : Int).toNat (⟨t434, 0⟩ : S41)) := ⟨_, rfl⟩
        replace H : (pleatref00_WideRelocs.l0 k1 l0 y435 (wrap64 (x4_1 + 1))) = some r := by first | (rw [hy435]; with_reducible exact H) | (have H2_ := (Option.bind_some _ _).symm.trans H; rw [hy435]; with_reducible exact H2_) | (have H2_ := (Option.bind_some _ _).symm.trans H; with_reducible exact H2_) | with_reducible exact H | (rw [hy435]; exact H) | exact H
        have Ny435 := Aside0.mk hy435
        have HFW1 := Aside0.mk (FillW.mark HFW.out c8b0 c7b0 (show (fun i => (⟨markN i, 0⟩ : S41)) x4_1.toNat = _ by rw [numW HFW.out.lo (by have := HFW.out.len; have := HFW.out.big; have := of_decide_eq_true c7b0; omega) A14.out]) Ny435.out)
        clear hy435
        have H' := Aside0.mk H
        clear H
        obtain ⟨Ao17, co17, eo17⟩ := Kd.R_slice HO_3.out
        subst eo17
        go_wp2_with (first | ((with_reducible refine gate_callee (f := 39) rfl ?_); refine goesL_ (some 29) rfl rfl Try.func39 (by kernel_rfl) rfl #[.int .i64 9, .int .i64 x4_1] rfl (by (try simp only [List.map_toArray, List.map_cons, List.map_nil]); try rfl) ?_; (with_reducible refine (pleatref00_num.calls 9 x4_1 t434 _ A14.out).mono ?_); rintro e w' ⟨rfl, ⟨nd, rfl⟩⟩; refine ⟨_, rfl, ?_⟩; (try (rw [drewN_self wr]; generalize hq_ : World.drewN wr _ = wr; have n0_ : Aside0 (Kd.R k41 41 wr w.heap.size (fun _ => True) (.slice Ao17 x3_1.length co17) x3_1) := ⟨by rw [← hq_]; exact (by (with_reducible repeat (first | apply Kd.R_alloc | apply Kd.R_drewN | apply Kd.R_drew)); exact HO_3.out)⟩; have n1_ : Aside0 (Below w.heap.size w wr) := ⟨by rw [← hq_]; exact (bwQ HB.out)⟩; clear HO_3 HB hq_; have HO_3 := n0_; have HB := n1_; clear n0_ n1_)); have p16 : 0 ≤ (x4_1 : Int) := of_decide_eq_true ‹_›; have q16 : (x4_1 : Int) < ((x3_1.length : Int) : Int) := of_decide_eq_true ‹_›; obtain ⟨go16, co16, eo16, gb16, gl16, cl16, HG16⟩ := Kd.R_form HO_3.out (by omega); (first | cases eo16 | (injection eo16 with ea_ en_ ec_; (first | subst ea_ | (injection ea_ with ea_; subst ea_)); subst ec_; clear en_)); have GB16 := Aside0.mk gb16; have GG16 := Aside0.mk HG16; clear gb16 gl16 HG16; obtain ⟨ce16, hcl16, hM16, hcc16, hfr16⟩ := Kd.R_elem HO_3.out z41 (x4_1 : Int) p16 q16; obtain rfl := k41_openM hM16; have hx16_0 : wr.cell? ⟨go16, (x4_1 : Int).toNat * 2, none⟩ = some (.int .i64 ((rd_T41 x3_1 x4_1).f0)) := hcc16 0 _ rfl; have hx16_1 : wr.cell? ⟨go16, (x4_1 : Int).toNat * 2 + 1, none⟩ = some (.int .i64 ((rd_T41 x3_1 x4_1).f1)) := hcc16 1 _ rfl; have hf16_0 : wr.frozen? ⟨go16, (x4_1 : Int).toNat * 2, none⟩ = false := hfr16 0; have hf16_1 : wr.frozen? ⟨go16, (x4_1 : Int).toNat * 2 + 1, none⟩ = false := hfr16 1; clear hcl16 hcc16 hfr16 hM16; replace p16 := eq_true p16; replace q16 := eq_true q16; have HX18 := Aside0.mk (show Kd.R k41 41 wr w.heap.size (fun _ => True) (.slice (some ⟨go16, 0, none⟩) x3_1.length co17) x3_1 from (by (with_reducible repeat (first | apply Kd.R_alloc | apply Kd.R_drewN | apply Kd.R_drew)); exact HO_3.out)); obtain ⟨ce18, hcl18, hM18, hcc18, hfr18⟩ := Kd.R_elem HX18.out z41 (x4_1 : Int) (of_decide_eq_true ‹_›) (by have h_ : (x4_1 : Int) < ((x3_1.length : Int) : Int) := of_decide_eq_true ‹_›; first | exact h_ | (have e_ := (Kd.R_reads' HO_3.out).1; omega) | simpa using h_); obtain rfl := k41_openM hM18; have HP18 := Kd.R_seg HX18.out (x4_1 : Int) (of_decide_eq_true ‹_›) (by have h_ : (x4_1 : Int) < ((x3_1.length : Int) : Int) := of_decide_eq_true ‹_›; first | exact h_ | (have e_ := (Kd.R_reads' HO_3.out).1; omega) | simpa using h_) (seg := [.int .i64 t434, .int .i64 0]) (j := 0) hcl18 hcc18 (show 2 ≤ 2 from by decide) (x' := (⟨t434, 0⟩ : S41)) (k41_mkM _ _ _ (⟨t434, 0⟩ : S41) ) (fun _ hk => hk); have hx18_0 := hcc18 0 _ rfl; (try simp only [show (k41).sz = 2 from rfl, Nat.mul_one, Nat.add_zero] at hx18_0); have hf18_0 := hfr18 0; (try simp only [show (k41).sz = 2 from rfl, Nat.mul_one, Nat.add_zero] at hf18_0); have hx18_1 := hcc18 1 _ rfl; (try simp only [show (k41).sz = 2 from rfl, Nat.mul_one, Nat.add_zero] at hx18_1); have hf18_1 := hfr18 1; (try simp only [show (k41).sz = 2 from rfl, Nat.mul_one, Nat.add_zero] at hf18_1); clear hcl18 hcc18 hfr18 hM18) | ((with_reducible refine gate_store (t := 41) (p := 31) rfl ?_); refine store_event (t := 41) (p := 31) (v := ?vo_w19) (w1 := ((wr.setCell ⟨go16, (x4_1 : Int).toNat * 2, none⟩ (.int .i64 t434)).setCell ⟨go16, (x4_1 : Int).toNat * 2 + 1, none⟩ (.int .i64 0))) ?hg ?ho ?hn ?hr ?_; (case ho => rfl); (case hg => rfl); (case hn => rfl); (case hr => first | (go_simp; done) | (go_simp; rfl)); intro w19 hw; have hg : wr.grownBy w19 (some go16) := (by rw [hw]; exact HP18.2); have hp_ : Kd.R k41 41 w19 w.heap.size (fun _ => True) (.slice (some ⟨go16, 0, none⟩) x3_1.length co17) y435 := (by rw [hw, Ny435.out]; exact HP18.1); clear HP18; have n0_ := Aside0.mk (hp_); have n1_ := Aside0.mk ((by rw [hw]; exact below_set (below_set (HB.out) GB16.out) GB16.out : Below w.heap.size w w19)); clear HO_3; clear HB; have HO_3 := n0_; have HB := n1_; clear n0_ n1_; clear hg hw hp_))
        go_roundg k1
        case measure => have := HK1.out; omega
        case rel => exact ⟨(y435), (wrap64 (x4_1 + 1)), (by first | rfl | (simp; done) | (simp [*]; done)), H', ⟨by have := HK1.out; omega⟩, HFW1, ⟨by (with_reducible repeat (first | apply Kd.R_alloc | apply Kd.R_drewN | apply Kd.R_drew)); exact HO_3.out⟩, ⟨bwQ HB.out⟩⟩
       ·
        rw [if_neg c15] at H
        exact absurd H (by simp)
     ·
      rw [if_neg c7] at H
      have c7b0 : decide (x4_1 < (x3_1.length : Int)) = false := decide_eq_false c7
      clear c7
      by_cases c20 : 0 ≤ (l0.length : Int)
      ·
       rw [if_pos c20] at H
       have c20b0 := eq_true c20
       have c20b1 : decide (0 ≤ (l0.length : Int)) = true := decide_eq_true c20
       clear c20
       by_cases c21 : (l0.length : Int) ≤ (x3_1.length : Int)
       ·
        rw [if_pos c21] at H
        have c21b0 := eq_true c21
        have c21b1 : decide ((l0.length : Int) ≤ (x3_1.length : Int)) = true := decide_eq_true c21
        clear c21
        obtain ⟨y436, hy436⟩ : ∃ y_ : List (S41), y_ = (x3_1.take ((l0.length : Int) : Int).toNat) := ⟨_, rfl⟩
        replace H : (some y436) = some r := by first | (rw [hy436]; with_reducible exact H) | (have H2_ := (Option.bind_some _ _).symm.trans H; rw [hy436]; with_reducible exact H2_) | (have H2_ := (Option.bind_some _ _).symm.trans H; with_reducible exact H2_) | with_reducible exact H | (rw [hy436]; exact H) | exact H
        have Ny436 := Aside0.mk hy436
        clear hy436
        obtain rfl := Option.some.inj H
        obtain ⟨Ao22, co22, eo22⟩ := Kd.R_slice HO_3.out
        subst eo22
        have q23 : ((l0.length : Int) : Int) ≤ ((x3_1.length : Int) : Int) := of_decide_eq_true ‹_›
        obtain ⟨i023, hi023, _, hsz23, _⟩ := info_parts info41
        have hcut23 := cut_to (P := Try.prog) 25 41 .i64 Try.underlying25 hi023 Ao22 x3_1.length co22 (l0.length : Int) (of_decide_eq_true ‹_›) q23 (Kd.R_reads' HO_3.out).2.1
        have HWd := Aside0.mk (HFW.out.done c7b0)
        have HRW := Aside0.mk HO_3.out
        have HLW := Aside0.mk (show y436.length = l0.length by rw [Ny436.out, List.length_take, Int.toNat_natCast, HFW.out.len]; omega)
        have hr23 := Kd.R_take (m := ((l0.length : Int) : Int).toNat) HO_3.out (by omega)
        have hy23 : y436.length = ((l0.length : Int) : Int).toNat := (by rw [Ny436.out, List.length_take]; omega)
        rw [← Ny436.out] at hr23
        rw [← hy23] at hr23 hcut23
        clear hy23 hi023 hsz23 HO_3
        have HO438 := Aside0.mk hr23
        clear hr23
        replace q23 := eq_true q23
        go_wp2
        go_ret
        exact ⟨_, by first | rfl | (simp [errW_none, errW_some] <;> rfl) | (simp only [← hji2]; first | rfl | (simp [errW_none, errW_some] <;> rfl)) | (simp [*, errW_none, errW_some] <;> rfl), by (with_reducible repeat (first | apply Kd.R_alloc | apply Kd.R_drewN | apply Kd.R_drew)); exact HO438.out, bwQ HB.out, WideC.of (by (with_reducible repeat (first | apply Kd.R_alloc | apply Kd.R_drewN | apply Kd.R_drew)); exact HRW.out) rfl HWd.out HLW.out⟩
       ·
        rw [if_neg c21] at H
        exact absurd H (by simp)
      ·
       rw [if_neg c20] at H
       exact absurd H (by simp)
  ·
   rw [if_neg c4] at H
   exact absurd H (by simp)
 ·
  rw [if_neg c3] at H
  exact absurd H (by simp)
theorem pleatref00_WideRelocs.calls (k : Nat) (A0 : Option Addr) (c0 : Nat) (l0 : List (S41)) (r : List (S41)) (w : World) (hr0 : Kd.C k41 w A0 l0.length l0) (hc0 : l0.length ≤ c0) (h : pleatref00_WideRelocs.f k l0 = some r) :
  Calls Try.prog 53 #[.slice A0 l0.length c0] w fun e w' => ∃ v0_ : Value, e = .returned (v0_) ∧ Kd.R k41 41 w' w.heap.size (fun _ => True) v0_ r ∧ Below w.heap.size w w' := (pleatref00_WideRelocs.callsW k A0 c0 l0 r w hr0 hc0 h).mono fun _ _ ⟨v, h1, h2, h3, _⟩ => ⟨v, h1, h2, h3⟩
end Go.Proofs.Ytiaohbbafaaibab.P

/- What the Go functions named below come to, as plain functions, each with its proof; written by this session's prt.py over the kit's print. -/
namespace Go.Proofs.Ytiaohbbafaaibab.P
open Go.RowKit Go.Proofs.YtiaohbbafaaibabW.PrintWords Go.Proofs.YtiaohbbafaaibabW.PrintLast Go.Proofs.YtiaohbbafaaibabW.PrintMore
attribute [local go_sem] max2_int min2_int max_two min_two max_three min_three max_four min_four   -- for this text's walks alone
set_option linter.unusedVariables false
set_option linter.unusedSimpArgs false

theorem eqA41 (d : Nat) (w : World) (x0 y0 : Int) (x1 y1 : Int) :
    (Op.equalIn (d + 2) 41 (.agg #[.int .i64 x0, .int .i64 x1]) (.agg #[.int .i64 y0, .int .i64 y1])).run Try.prog w = .ok (x0 == y0 && (x1 == y1)) w := by
  refine eqA_of Try.underlying41 (by kernel_rfl) ?_
  refine eqf_cons (by rfl) (by go_simp; rfl) (by go_simp; rfl) (by go_simp) ?_
  exact eqf_last (by rfl) (by go_simp; rfl) (by go_simp; rfl) (by go_simp)
end Go.Proofs.Ytiaohbbafaaibab.P
