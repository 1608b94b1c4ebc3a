/- OWN TEXT and printed parts of this claim, laid together: HWideO, HSpareO. -/
import Derived.Test.YtiaohbbafaaibaaZtM0
import Derived.Test.YtiaohbbafaaibaaZtM6
import Derived.Test.YtiaohbbafaaibaaZtM7
import Derived.Test.YtiaohbbafaaibaaZtM12
/- OWN TEXT: an object whose lists have marks behind them: what makes it, and what looks at the marks. -/
namespace Go.Proofs.Ytiaohbbafaaibaa.P
open Go.RowKit Go.Maps Go.Proofs.YtiaohbbafaaibaaW.PrintWords Go.Proofs.YtiaohbbafaaibaaW.PrintLast Go.Proofs.YtiaohbbafaaibaaW.PrintMore Go.Proofs.Ytiaohbbafaaibaa.Arr Go.Proofs.Ytiaohbbafaaibaa.MapB
set_option linter.unusedVariables false
set_option linter.unusedSimpArgs false

theorem WideC.R {α : Type} {d : Kd α} {e : Nat} {W : World} {base : Nat} {v : Value} {l : List α} {mk : Nat → α} (h : WideC d e W base v l mk) : Kd.R d e W base (fun _ => True) v l := by
  obtain ⟨A, c, rfl, hR⟩ := h
  have := Kd.R_take (m := l.length) hR (by rw [List.length_append]; omega)
  rwa [List.take_left'] at this
  rfl
theorem WideC.put {α : Type} {d : Kd α} {e : Nat} {W W1 : World} {base : Nat} {v : Value} {l : List α} {mk : Nat → α} (h : WideC d e W base v l mk) (hE : d.E = []) {g t : Nat} {cs cs' : Array Value} {t' : TypeId} (hb : W.heap[g]? = some (.cells cs t (0, 0))) (hne : e ≠ t) (hp : Put W W1 g cs' t') : WideC d e W1 base v l mk := by
  obtain ⟨A, c, rfl, hR⟩ := h
  exact ⟨A, c, rfl, Kd.R_grown1 hR hE (put_grownN hp) (Kd.R_ne hR hb hne)⟩
theorem WideC.slice {α : Type} {d : Kd α} {e : Nat} {W : World} {base : Nat} {v : Value} {l : List α} {mk : Nat → α} (h : WideC d e W base v l mk) : ∃ A c, v = .slice A l.length c := by
  obtain ⟨A, c, h1, _⟩ := h
  exact ⟨A, c, h1⟩
theorem sizeSlWords (W : World) : (sizeOf 57).run Try.prog W = .ok 1 W := by kernel_rfl
theorem sizeSlLongs (W : World) : (sizeOf 67).run Try.prog W = .ok 1 W := by kernel_rfl
theorem sizeSlSymbols (W : World) : (sizeOf 85).run Try.prog W = .ok 1 W := by kernel_rfl
theorem sizeSlRelocs (W : World) : (sizeOf 86).run Try.prog W = .ok 1 W := by kernel_rfl
theorem obj_one (s : ByteArray) (A1 : Option Addr) (n1 c1 : Nat) (a : Int) (A3 : Option Addr) (n3 c3 : Nat) (A4 : Option Addr) (n4 c4 : Nat) (A5 : Option Addr) (n5 c5 : Nat) : ((#[.string s, .slice A1 n1 c1, .int .i64 a, .slice A3 n3 c3, .slice A4 n4 c4, .slice A5 n5 c5] : Array Value).all fun v => v.oneCell') = true := by kernel_rfl

theorem wideWords_l {l : List Int} (hl : l.length ≤ 1000000000) : ∀ d : Nat, ∀ x : List Int, ∀ i : Nat, i + d = l.length + 64 → FillW l (fun i => markN i % 4294967296) x (i : Int) → Ev (fun k => pleatref00_WideWords.l0 k l x (i : Int)) l := by
  intro d
  induction d with
  | zero =>
    intro x i hi hf
    have hx := hf.done (decide_eq_false (by have := hf.len; omega))
    refine Ev.succ (Ev.iteF (by have := hf.len; omega) (Ev.iteT (by omega) (Ev.iteT (by have := hf.len; omega) (Ev.val ?_))))
    rw [hx]
    simp
  | succ d ih =>
    intro x i hi hf
    have hw : wrap64 ((i : Int) + 1) = ((i + 1 : Nat) : Int) := by rw [wrap64_id (by omega) (by omega)]; rfl
    refine Ev.succ (Ev.iteT (by have := hf.len; omega) (Ev.ite2 (fun h => Ev.iteT (by omega) ?_) (fun h => ?_)))
    · have hf2 := hf.copy (decide_eq_true h) (getW (z := 0) hf.lo (decide_eq_true h)) rfl
      rw [hw] at hf2
      simp only [hw]
      exact ih _ (i + 1) (by omega) hf2
    · have hnum : pleatref00_num.f 9 (i : Int) = some (markN i) := by
        have : ∃ t, pleatref00_num.f 9 (i : Int) = some t := ⟨_, rfl⟩
        obtain ⟨t, ht⟩ := this
        rw [ht, numW (by omega) (by omega) ht, Int.toNat_natCast]
      have hf2 := hf.mark (decide_eq_false h) (decide_eq_true (by have := hf.len; omega)) rfl rfl
      rw [hw] at hf2
      refine Ev.bind0 hnum (Ev.iteT (by omega) ?_)
      simp only [hw]
      exact ih _ (i + 1) (by omega) hf2
theorem wideWords_ev {l : List Int} (hl : l.length ≤ 1000000000) : Ev (fun k => pleatref00_WideWords.f k l) l := by
  unfold pleatref00_WideWords.f
  have hw : wrap64 ((l.length : Int) + 64) = (l.length : Int) + 64 := wrap64_id (by omega) (by omega)
  simp only [hw]
  refine Ev.iteT (by omega) (Ev.iteT (by omega) ?_)
  exact wideWords_l hl (l.length + 64) _ 0 (by omega) (FillW.start (by omega) hw (decide_eq_true (by omega)) (decide_eq_true (by omega)) rfl)
theorem wideLongs_l {l : List Int} (hl : l.length ≤ 1000000000) : ∀ d : Nat, ∀ x : List Int, ∀ i : Nat, i + d = l.length + 64 → FillW l markN x (i : Int) → Ev (fun k => pleatref00_WideLongs.l0 k l x (i : Int)) l := by
  intro d
  induction d with
  | zero =>
    intro x i hi hf
    have hx := hf.done (decide_eq_false (by have := hf.len; omega))
    refine Ev.succ (Ev.iteF (by have := hf.len; omega) (Ev.iteT (by omega) (Ev.iteT (by have := hf.len; omega) (Ev.val ?_))))
    rw [hx]
    simp
  | succ d ih =>
    intro x i hi hf
    have hw : wrap64 ((i : Int) + 1) = ((i + 1 : Nat) : Int) := by rw [wrap64_id (by omega) (by omega)]; rfl
    refine Ev.succ (Ev.iteT (by have := hf.len; omega) (Ev.ite2 (fun h => Ev.iteT (by omega) ?_) (fun h => ?_)))
    · have hf2 := hf.copy (decide_eq_true h) (getW (z := 0) hf.lo (decide_eq_true h)) rfl
      rw [hw] at hf2
      simp only [hw]
      exact ih _ (i + 1) (by omega) hf2
    · have hnum : pleatref00_num.f 9 (i : Int) = some (markN i) := by
        have : ∃ t, pleatref00_num.f 9 (i : Int) = some t := ⟨_, rfl⟩
        obtain ⟨t, ht⟩ := this
        rw [ht, numW (by omega) (by omega) ht, Int.toNat_natCast]
      have hf2 := hf.mark (decide_eq_false h) (decide_eq_true (by have := hf.len; omega)) rfl rfl
      rw [hw] at hf2
      refine Ev.bind0 hnum (Ev.iteT (by omega) ?_)
      simp only [hw]
      exact ih _ (i + 1) (by omega) hf2
theorem wideLongs_ev {l : List Int} (hl : l.length ≤ 1000000000) : Ev (fun k => pleatref00_WideLongs.f k l) l := by
  unfold pleatref00_WideLongs.f
  have hw : wrap64 ((l.length : Int) + 64) = (l.length : Int) + 64 := wrap64_id (by omega) (by omega)
  simp only [hw]
  refine Ev.iteT (by omega) (Ev.iteT (by omega) ?_)
  exact wideLongs_l hl (l.length + 64) _ 0 (by omega) (FillW.start (by omega) hw (decide_eq_true (by omega)) (decide_eq_true (by omega)) rfl)
theorem wideSymbols_l {l : List S120} (hl : l.length ≤ 1000000000) : ∀ d : Nat, ∀ x : List S120, ∀ i : Nat, i + d = l.length + 64 → FillW l (fun i => (⟨⟨#[]⟩, 0, markN i⟩ : S120)) x (i : Int) → Ev (fun k => pleatref00_WideSymbols.l0 k l x (i : Int)) l := by
  intro d
  induction d with
  | zero =>
    intro x i hi hf
    have hx := hf.done (decide_eq_false (by have := hf.len; omega))
    refine Ev.succ (Ev.iteF (by have := hf.len; omega) (Ev.iteT (by omega) (Ev.iteT (by have := hf.len; omega) (Ev.val ?_))))
    rw [hx]
    simp
  | succ d ih =>
    intro x i hi hf
    have hw : wrap64 ((i : Int) + 1) = ((i + 1 : Nat) : Int) := by rw [wrap64_id (by omega) (by omega)]; rfl
    refine Ev.succ (Ev.iteT (by have := hf.len; omega) (Ev.ite2 (fun h => Ev.iteT (by omega) ?_) (fun h => ?_)))
    · have hf2 := hf.copy (decide_eq_true h) (getW (z := z120) hf.lo (decide_eq_true h)) rfl
      rw [hw] at hf2
      simp only [hw]
      exact ih _ (i + 1) (by omega) hf2
    · have hnum : pleatref00_num.f 9 (i : Int) = some (markN i) := by
        have : ∃ t, pleatref00_num.f 9 (i : Int) = some t := ⟨_, rfl⟩
        obtain ⟨t, ht⟩ := this
        rw [ht, numW (by omega) (by omega) ht, Int.toNat_natCast]
      have hf2 := hf.mark (decide_eq_false h) (decide_eq_true (by have := hf.len; omega)) rfl rfl
      rw [hw] at hf2
      refine Ev.bind0 hnum (Ev.iteT (by omega) ?_)
      simp only [hw]
      exact ih _ (i + 1) (by omega) hf2
theorem wideSymbols_ev {l : List S120} (hl : l.length ≤ 1000000000) : Ev (fun k => pleatref00_WideSymbols.f k l) l := by
  unfold pleatref00_WideSymbols.f
  have hw : wrap64 ((l.length : Int) + 64) = (l.length : Int) + 64 := wrap64_id (by omega) (by omega)
  simp only [hw]
  refine Ev.iteT (by omega) (Ev.iteT (by omega) ?_)
  exact wideSymbols_l hl (l.length + 64) _ 0 (by omega) (FillW.start (by omega) hw (decide_eq_true (by omega)) (decide_eq_true (by omega)) rfl)
theorem wideRelocs_l {l : List S130} (hl : l.length ≤ 1000000000) : ∀ d : Nat, ∀ x : List S130, ∀ i : Nat, i + d = l.length + 64 → FillW l (fun i => (⟨markN i, 0⟩ : S130)) x (i : Int) → Ev (fun k => pleatref00_WideRelocs.l0 k l x (i : Int)) l := by
  intro d
  induction d with
  | zero =>
    intro x i hi hf
    have hx := hf.done (decide_eq_false (by have := hf.len; omega))
    refine Ev.succ (Ev.iteF (by have := hf.len; omega) (Ev.iteT (by omega) (Ev.iteT (by have := hf.len; omega) (Ev.val ?_))))
    rw [hx]
    simp
  | succ d ih =>
    intro x i hi hf
    have hw : wrap64 ((i : Int) + 1) = ((i + 1 : Nat) : Int) := by rw [wrap64_id (by omega) (by omega)]; rfl
    refine Ev.succ (Ev.iteT (by have := hf.len; omega) (Ev.ite2 (fun h => Ev.iteT (by omega) ?_) (fun h => ?_)))
    · have hf2 := hf.copy (decide_eq_true h) (getW (z := z130) hf.lo (decide_eq_true h)) rfl
      rw [hw] at hf2
      simp only [hw]
      exact ih _ (i + 1) (by omega) hf2
    · have hnum : pleatref00_num.f 9 (i : Int) = some (markN i) := by
        have : ∃ t, pleatref00_num.f 9 (i : Int) = some t := ⟨_, rfl⟩
        obtain ⟨t, ht⟩ := this
        rw [ht, numW (by omega) (by omega) ht, Int.toNat_natCast]
      have hf2 := hf.mark (decide_eq_false h) (decide_eq_true (by have := hf.len; omega)) rfl rfl
      rw [hw] at hf2
      refine Ev.bind0 hnum (Ev.iteT (by omega) ?_)
      simp only [hw]
      exact ih _ (i + 1) (by omega) hf2
theorem wideRelocs_ev {l : List S130} (hl : l.length ≤ 1000000000) : Ev (fun k => pleatref00_WideRelocs.f k l) l := by
  unfold pleatref00_WideRelocs.f
  have hw : wrap64 ((l.length : Int) + 64) = (l.length : Int) + 64 := wrap64_id (by omega) (by omega)
  simp only [hw]
  refine Ev.iteT (by omega) (Ev.iteT (by omega) ?_)
  exact wideRelocs_l hl (l.length + 64) _ 0 (by omega) (FillW.start (by omega) hw (decide_eq_true (by omega)) (decide_eq_true (by omega)) rfl)
def smallO (a0_0 : ByteArray) (l0_1 : List Int) (a0_2 : Int) (l0_3 : List Int) (l0_4 : List S120) (l0_5 : List S130) : Bool := decide (l0_1.length ≤ 1000000000) && (decide (l0_3.length ≤ 1000000000) && (decide (l0_4.length ≤ 1000000000) && decide (l0_5.length ≤ 1000000000)))
def pleatref00_WideObject.f (a0_0 : ByteArray) (l0_1 : List Int) (a0_2 : Int) (l0_3 : List Int) (l0_4 : List S120) (l0_5 : List S130) : Option (ByteArray × List Int × Int × List Int × (List S120) × (List S130)) := if smallO a0_0 l0_1 a0_2 l0_3 l0_4 l0_5 = true then some (a0_0, l0_1, a0_2, l0_3, l0_4, l0_5) else none
/-- the lists of an object, each with its marks behind it. -/
structure WideO (W : World) (base : Nat) (v1 v3 v4 v5 : Value) (a0_0 : ByteArray) (l0_1 : List Int) (a0_2 : Int) (l0_3 : List Int) (l0_4 : List S120) (l0_5 : List S130) : Prop where
  w1 : WideC (Kd.int .u32) 34 W base v1 l0_1 (fun i => markN i % 4294967296)
  w3 : WideC (Kd.int .i64) 2 W base v3 l0_3 markN
  w4 : WideC k120 120 W base v4 l0_4 (fun i => (⟨⟨#[]⟩, 0, markN i⟩ : S120))
  w5 : WideC k130 130 W base v5 l0_5 (fun i => (⟨markN i, 0⟩ : S130))
theorem WideO.below {W W1 : World} {base : Nat} {v1 v3 v4 v5 : Value} {l0_1 : List Int} {l0_3 : List Int} {l0_4 : List S120} {l0_5 : List S130} {a0_0 : ByteArray} {a0_2 : Int} (h : WideO W base v1 v3 v4 v5 a0_0 l0_1 a0_2 l0_3 l0_4 l0_5) (hb : Below W.heap.size W W1) : WideO W1 base v1 v3 v4 v5 a0_0 l0_1 a0_2 l0_3 l0_4 l0_5 := ⟨h.w1.below hb, h.w3.below hb, h.w4.below hb, h.w5.below hb⟩
set_option maxHeartbeats 8000000 in
set_option maxRecDepth 100000 in
theorem pleatref00_WideObject.callsW (a0_0 : ByteArray) (A0_1 : Option Addr) (c0_1 : Nat) (l0_1 : List Int) (a0_2 : Int) (A0_3 : Option Addr) (c0_3 : Nat) (l0_3 : List Int) (A0_4 : Option Addr) (c0_4 : Nat) (l0_4 : List (S120)) (A0_5 : Option Addr) (c0_5 : Nat) (l0_5 : List (S130)) (r1 : ByteArray) (r2 : List Int) (r3 : Int) (r4 : List Int) (r5 : List S120) (r6 : List S130) (w : World) (hr0_1 : Kd.C (Kd.int .u32) w A0_1 l0_1.length l0_1) (hc0_1 : l0_1.length ≤ c0_1) (hr0_3 : Kd.C (Kd.int .i64) w A0_3 l0_3.length l0_3) (hc0_3 : l0_3.length ≤ c0_3) (hr0_4 : Kd.C k120 w A0_4 l0_4.length l0_4) (hc0_4 : l0_4.length ≤ c0_4) (hr0_5 : Kd.C k130 w A0_5 l0_5.length l0_5) (hc0_5 : l0_5.length ≤ c0_5) (h : pleatref00_WideObject.f a0_0 l0_1 a0_2 l0_3 l0_4 l0_5 = some (r1, r2, r3, r4, r5, r6)) :
    Calls Try.prog 74 #[.agg #[.string a0_0, .slice A0_1 l0_1.length c0_1, .int .i64 a0_2, .slice A0_3 l0_3.length c0_3, .slice A0_4 l0_4.length c0_4, .slice A0_5 l0_5.length c0_5]] w fun e w' => ∃ v0_ v1_ v2_ v3_ : Value, e = .returned (.agg #[.string r1, v0_, .int .i64 r3, v1_, v2_, v3_]) ∧ Kd.R (Kd.int .u32) 34 w' w.heap.size (fun _ => True) v0_ r2 ∧ Kd.R (Kd.int .i64) 2 w' w.heap.size (fun _ => True) v1_ r4 ∧ Kd.R k120 120 w' w.heap.size (fun _ => True) v2_ r5 ∧ Kd.R k130 130 w' w.heap.size (fun _ => True) v3_ r6 ∧ Below w.heap.size w w' ∧ WideO w' w.heap.size v0_ v1_ v2_ v3_ r1 r2 r3 r4 r5 r6 := by
  have hu1 := Try.underlying88
  unfold pleatref00_WideObject.f at h
  by_cases hs : smallO a0_0 l0_1 a0_2 l0_3 l0_4 l0_5 = true
  · rw [if_pos hs] at h
    have h := Option.some.inj h
    injection h with e1 h
    injection h with e2 h
    injection h with e3 h
    injection h with e4 h
    injection h with e5 e6
    subst e1 e2 e3 e4 e5 e6
    unfold smallO at hs
    simp only [Bool.and_eq_true, decide_eq_true_eq] at hs
    obtain ⟨s1, s3, s4, s5⟩ := hs
    obtain ⟨k1, hk1⟩ := Ev.rounds (wideWords_ev s1)
    obtain ⟨k3, hk3⟩ := Ev.rounds (wideLongs_ev s3)
    obtain ⟨k4, hk4⟩ := Ev.rounds (wideSymbols_ev s4)
    obtain ⟨k5, hk5⟩ := Ev.rounds (wideRelocs_ev s5)
    have K1 := Aside0.mk hk1
    have K3 := Aside0.mk hk3
    have K4 := Aside0.mk hk4
    have K5 := Aside0.mk hk5
    have HR1 := Aside0.mk hr0_1
    have HC1 := Aside0.mk hc0_1
    have HR3 := Aside0.mk hr0_3
    have HC3 := Aside0.mk hc0_3
    have HR4 := Aside0.mk hr0_4
    have HC4 := Aside0.mk hc0_4
    have HR5 := Aside0.mk hr0_5
    have HC5 := Aside0.mk hc0_5
    have HB := Aside0.mk (Below.refl w.heap.size w)
    clear hr0_1 hc0_1 hr0_3 hc0_3 hr0_4 hc0_4 hr0_5 hc0_5 hk1 hk3 hk4 hk5 s1 s3 s4 s5
    go_enter Try.func74, Try.ntmps74
    go_wp2_with (first | ((with_reducible refine gate_dst (N := 1) rfl ?_); refine box_event ?hg (N := 1) ?hd (cs := #[.string a0_0, .slice A0_1 l0_1.length c0_1, .int .i64 a0_2, .slice A0_3 l0_3.length c0_3, .slice A0_4 l0_4.length c0_4, .slice A0_5 l0_5.length c0_5]) (t := 88) ?hr ?_; (case hd => rfl); (case hg => rfl); (case hr => first | (go_simp; done) | (go_simp; rfl)); intro gb hgb w1 BK1 hb1; have GB := Aside0.mk (show w.heap.size ≤ gb by rw [hgb]; exact HB.out.size); have HBn := Aside0.mk (below_then HB.out HB.out.size hb1); have BO := Aside0.mk BK1; clear HB hb1 hgb BK1; have HB := HBn; clear HBn; have hq0 := blk_cell BO.out 0; have hq1 := blk_cell BO.out 1; have hq2 := blk_cell BO.out 2; have hq3 := blk_cell BO.out 3; have hq4 := blk_cell BO.out 4; have hq5 := blk_cell BO.out 5) | ((with_reducible refine gate_dst (N := 2) rfl ?_); refine box_event ?hg (N := 2) ?hd (cs := #[.string (⟨#[]⟩ : ByteArray), .slice none 0 0, .int .i64 0, .slice none 0 0, .slice none 0 0, .slice none 0 0]) (t := 88) ?hr ?_; (case hd => rfl); (case hg => rfl); (case hr => first | (go_simp; done) | (go_simp; rfl)); intro gr hgr w2 BK2 hb2; have GR := Aside0.mk (show w.heap.size ≤ gr by rw [hgr]; exact HB.out.size); have NR := Aside0.mk (show gb < gr by rw [hgr]; exact blk_lt BO.out); have HBn := Aside0.mk (below_then HB.out HB.out.size hb2); have BOn := Aside0.mk (blk_below BO.out hb2); have BR := Aside0.mk BK2; clear HB BO hb2 hgr BK2 hq0 hq1 hq2 hq3 hq4 hq5; have HB := HBn; have BO := BOn; clear HBn BOn; have hq0 := blk_cell BO.out 0; have hq1 := blk_cell BO.out 1; have hq2 := blk_cell BO.out 2; have hq3 := blk_cell BO.out 3; have hq4 := blk_cell BO.out 4; have hq5 := blk_cell BO.out 5) | (go_at_call 105; refine (pleatref00_WideWords.callsW k1 A0_1 c0_1 l0_1 l0_1 _ (Kd.C_below HR1.out HB.out) HC1.out K1.out).mono ?_; rintro e wc1 ⟨v1, rfl, _, hb, hw⟩; have hw := Aside0.mk (hw.lower (base' := w.heap.size) HB.out.size); have HBn := Aside0.mk (below_then HB.out HB.out.size hb); have BOn := Aside0.mk (blk_below BO.out hb); have BRn := Aside0.mk (blk_below BR.out hb); clear HB BO BR hq0 hq1 hq2 hq3 hq4 hq5; have HB := HBn; have BO := BOn; have BR := BRn; have HW1 := hw; clear HBn BOn BRn hw hb; obtain ⟨Ao1, co1, eo1⟩ := HW1.out.slice; subst eo1; have hq0 := blk_cell BO.out 0; have hq1 := blk_cell BO.out 1; have hq2 := blk_cell BO.out 2; have hq3 := blk_cell BO.out 3; have hq4 := blk_cell BO.out 4; have hq5 := blk_cell BO.out 5) | ((with_reducible refine gate_store (t := 57) rfl ?_); refine wpList_store_arr rfl rfl rfl gb 1 _ _ (.slice Ao1 l0_1.length co1) rfl rfl rfl rfl (sizeSlWords _) BO.out (show 1 < 6 by decide) ?_; intro ws1 hp; have HBn := Aside0.mk (hp.below HB.out GB.out); have BOn := Aside0.mk (show ws1.heap[gb]? = some (.cells #[.string a0_0, .slice Ao1 l0_1.length co1, .int .i64 a0_2, .slice A0_3 l0_3.length c0_3, .slice A0_4 l0_4.length c0_4, .slice A0_5 l0_5.length c0_5] 88 (0, 0)) from hp.blk); have BRn := Aside0.mk (blk_grown BR.out (put_grownN hp) (fun e => by have := NR.out; have := Option.some.inj e; omega)); have HW1n := Aside0.mk (HW1.out.put rfl BO.out (by decide) hp); clear HB BO BR hq0 hq1 hq2 hq3 hq4 hq5 hp HW1; have HB := HBn; have BO := BOn; have BR := BRn; clear HBn BOn BRn; have HW1 := HW1n; clear HW1n; have hq0 := blk_cell BO.out 0; have hq1 := blk_cell BO.out 1; have hq2 := blk_cell BO.out 2; have hq3 := blk_cell BO.out 3; have hq4 := blk_cell BO.out 4; have hq5 := blk_cell BO.out 5) | (go_at_call 106; refine (pleatref00_WideLongs.callsW k3 A0_3 c0_3 l0_3 l0_3 _ (Kd.C_below HR3.out HB.out) HC3.out K3.out).mono ?_; rintro e wc3 ⟨v3, rfl, _, hb, hw⟩; have hw := Aside0.mk (hw.lower (base' := w.heap.size) HB.out.size); have HBn := Aside0.mk (below_then HB.out HB.out.size hb); have BOn := Aside0.mk (blk_below BO.out hb); have BRn := Aside0.mk (blk_below BR.out hb); have HW1n := Aside0.mk (HW1.out.below hb); clear HB BO BR hq0 hq1 hq2 hq3 hq4 hq5 HW1; have HW1 := HW1n; clear HW1n; have HB := HBn; have BO := BOn; have BR := BRn; have HW3 := hw; clear HBn BOn BRn hw hb; obtain ⟨Ao3, co3, eo3⟩ := HW3.out.slice; subst eo3; have hq0 := blk_cell BO.out 0; have hq1 := blk_cell BO.out 1; have hq2 := blk_cell BO.out 2; have hq3 := blk_cell BO.out 3; have hq4 := blk_cell BO.out 4; have hq5 := blk_cell BO.out 5) | ((with_reducible refine gate_store (t := 67) rfl ?_); refine wpList_store_arr rfl rfl rfl gb 3 _ _ (.slice Ao3 l0_3.length co3) rfl rfl rfl rfl (sizeSlLongs _) BO.out (show 3 < 6 by decide) ?_; intro ws3 hp; have HBn := Aside0.mk (hp.below HB.out GB.out); have BOn := Aside0.mk (show ws3.heap[gb]? = some (.cells #[.string a0_0, .slice Ao1 l0_1.length co1, .int .i64 a0_2, .slice Ao3 l0_3.length co3, .slice A0_4 l0_4.length c0_4, .slice A0_5 l0_5.length c0_5] 88 (0, 0)) from hp.blk); have BRn := Aside0.mk (blk_grown BR.out (put_grownN hp) (fun e => by have := NR.out; have := Option.some.inj e; omega)); have HW1n := Aside0.mk (HW1.out.put rfl BO.out (by decide) hp); have HW3n := Aside0.mk (HW3.out.put rfl BO.out (by decide) hp); clear HB BO BR hq0 hq1 hq2 hq3 hq4 hq5 hp HW1 HW3; have HB := HBn; have BO := BOn; have BR := BRn; clear HBn BOn BRn; have HW1 := HW1n; clear HW1n; have HW3 := HW3n; clear HW3n; have hq0 := blk_cell BO.out 0; have hq1 := blk_cell BO.out 1; have hq2 := blk_cell BO.out 2; have hq3 := blk_cell BO.out 3; have hq4 := blk_cell BO.out 4; have hq5 := blk_cell BO.out 5) | (go_at_call 107; refine (pleatref00_WideSymbols.callsW k4 A0_4 c0_4 l0_4 l0_4 _ (Kd.C_below HR4.out HB.out) HC4.out K4.out).mono ?_; rintro e wc4 ⟨v4, rfl, _, hb, hw⟩; have hw := Aside0.mk (hw.lower (base' := w.heap.size) HB.out.size); have HBn := Aside0.mk (below_then HB.out HB.out.size hb); have BOn := Aside0.mk (blk_below BO.out hb); have BRn := Aside0.mk (blk_below BR.out hb); have HW1n := Aside0.mk (HW1.out.below hb); have HW3n := Aside0.mk (HW3.out.below hb); clear HB BO BR hq0 hq1 hq2 hq3 hq4 hq5 HW1 HW3; have HW1 := HW1n; clear HW1n; have HW3 := HW3n; clear HW3n; have HB := HBn; have BO := BOn; have BR := BRn; have HW4 := hw; clear HBn BOn BRn hw hb; obtain ⟨Ao4, co4, eo4⟩ := HW4.out.slice; subst eo4; have hq0 := blk_cell BO.out 0; have hq1 := blk_cell BO.out 1; have hq2 := blk_cell BO.out 2; have hq3 := blk_cell BO.out 3; have hq4 := blk_cell BO.out 4; have hq5 := blk_cell BO.out 5) | ((with_reducible refine gate_store (t := 85) rfl ?_); refine wpList_store_arr rfl rfl rfl gb 4 _ _ (.slice Ao4 l0_4.length co4) rfl rfl rfl rfl (sizeSlSymbols _) BO.out (show 4 < 6 by decide) ?_; intro ws4 hp; have HBn := Aside0.mk (hp.below HB.out GB.out); have BOn := Aside0.mk (show ws4.heap[gb]? = some (.cells #[.string a0_0, .slice Ao1 l0_1.length co1, .int .i64 a0_2, .slice Ao3 l0_3.length co3, .slice Ao4 l0_4.length co4, .slice A0_5 l0_5.length c0_5] 88 (0, 0)) from hp.blk); have BRn := Aside0.mk (blk_grown BR.out (put_grownN hp) (fun e => by have := NR.out; have := Option.some.inj e; omega)); have HW1n := Aside0.mk (HW1.out.put rfl BO.out (by decide) hp); have HW3n := Aside0.mk (HW3.out.put rfl BO.out (by decide) hp); have HW4n := Aside0.mk (HW4.out.put rfl BO.out (by decide) hp); clear HB BO BR hq0 hq1 hq2 hq3 hq4 hq5 hp HW1 HW3 HW4; have HB := HBn; have BO := BOn; have BR := BRn; clear HBn BOn BRn; have HW1 := HW1n; clear HW1n; have HW3 := HW3n; clear HW3n; have HW4 := HW4n; clear HW4n; have hq0 := blk_cell BO.out 0; have hq1 := blk_cell BO.out 1; have hq2 := blk_cell BO.out 2; have hq3 := blk_cell BO.out 3; have hq4 := blk_cell BO.out 4; have hq5 := blk_cell BO.out 5) | (go_at_call 108; refine (pleatref00_WideRelocs.callsW k5 A0_5 c0_5 l0_5 l0_5 _ (Kd.C_below HR5.out HB.out) HC5.out K5.out).mono ?_; rintro e wc5 ⟨v5, rfl, _, hb, hw⟩; have hw := Aside0.mk (hw.lower (base' := w.heap.size) HB.out.size); have HBn := Aside0.mk (below_then HB.out HB.out.size hb); have BOn := Aside0.mk (blk_below BO.out hb); have BRn := Aside0.mk (blk_below BR.out hb); have HW1n := Aside0.mk (HW1.out.below hb); have HW3n := Aside0.mk (HW3.out.below hb); have HW4n := Aside0.mk (HW4.out.below hb); clear HB BO BR hq0 hq1 hq2 hq3 hq4 hq5 HW1 HW3 HW4; have HW1 := HW1n; clear HW1n; have HW3 := HW3n; clear HW3n; have HW4 := HW4n; clear HW4n; have HB := HBn; have BO := BOn; have BR := BRn; have HW5 := hw; clear HBn BOn BRn hw hb; obtain ⟨Ao5, co5, eo5⟩ := HW5.out.slice; subst eo5; have hq0 := blk_cell BO.out 0; have hq1 := blk_cell BO.out 1; have hq2 := blk_cell BO.out 2; have hq3 := blk_cell BO.out 3; have hq4 := blk_cell BO.out 4; have hq5 := blk_cell BO.out 5) | ((with_reducible refine gate_store (t := 86) rfl ?_); refine wpList_store_arr rfl rfl rfl gb 5 _ _ (.slice Ao5 l0_5.length co5) rfl rfl rfl rfl (sizeSlRelocs _) BO.out (show 5 < 6 by decide) ?_; intro ws5 hp; have HBn := Aside0.mk (hp.below HB.out GB.out); have BOn := Aside0.mk (show ws5.heap[gb]? = some (.cells #[.string a0_0, .slice Ao1 l0_1.length co1, .int .i64 a0_2, .slice Ao3 l0_3.length co3, .slice Ao4 l0_4.length co4, .slice Ao5 l0_5.length co5] 88 (0, 0)) from hp.blk); have BRn := Aside0.mk (blk_grown BR.out (put_grownN hp) (fun e => by have := NR.out; have := Option.some.inj e; omega)); have HW1n := Aside0.mk (HW1.out.put rfl BO.out (by decide) hp); have HW3n := Aside0.mk (HW3.out.put rfl BO.out (by decide) hp); have HW4n := Aside0.mk (HW4.out.put rfl BO.out (by decide) hp); have HW5n := Aside0.mk (HW5.out.put rfl BO.out (by decide) hp); clear HB BO BR hq0 hq1 hq2 hq3 hq4 hq5 hp HW1 HW3 HW4 HW5; have HB := HBn; have BO := BOn; have BR := BRn; clear HBn BOn BRn; have HW1 := HW1n; clear HW1n; have HW3 := HW3n; clear HW3n; have HW4 := HW4n; clear HW4n; have HW5 := HW5n; clear HW5n; have hq0 := blk_cell BO.out 0; have hq1 := blk_cell BO.out 1; have hq2 := blk_cell BO.out 2; have hq3 := blk_cell BO.out 3; have hq4 := blk_cell BO.out 4; have hq5 := blk_cell BO.out 5) | ((with_reducible refine gate_store (t := 88) rfl ?_); refine wpList_store_whole rfl rfl rfl gr _ #[.string a0_0, .slice Ao1 l0_1.length co1, .int .i64 a0_2, .slice Ao3 l0_3.length co3, .slice Ao4 l0_4.length co4, .slice Ao5 l0_5.length co5] _ rfl rfl BR.out (by kernel_rfl) rfl (obj_one _ _ _ _ _ _ _ _ _ _ _ _ _ _) ?_; intro w9 hp; have HE := Aside0.mk (hp.below HB.out GR.out); have HP := Aside0.mk hp.blk; have HE1 := Aside0.mk (HW1.out.put rfl BR.out (by decide) hp); have HE3 := Aside0.mk (HW3.out.put rfl BR.out (by decide) hp); have HE4 := Aside0.mk (HW4.out.put rfl BR.out (by decide) hp); have HE5 := Aside0.mk (HW5.out.put rfl BR.out (by decide) hp); clear hp))
    refine bodyPost_ret (results_cell_row rfl _ _ gr 88 #[.string a0_0, .slice Ao1 l0_1.length co1, .int .i64 a0_2, .slice Ao3 l0_3.length co3, .slice Ao4 l0_4.length co4, .slice Ao5 l0_5.length co5] (0, 0) _ rfl HP.out Try.underlying88 rfl (by kernel_rfl)) rfl ?_
    exact ⟨_, _, _, _, rfl, HE1.out.R, HE3.out.R, HE4.out.R, HE5.out.R, HE.out, ⟨HE1.out, HE3.out, HE4.out, HE5.out⟩⟩
  · rw [if_neg hs] at h; cases h
theorem pleatref00_WideObject.calls (a0_0 : ByteArray) (A0_1 : Option Addr) (c0_1 : Nat) (l0_1 : List Int) (a0_2 : Int) (A0_3 : Option Addr) (c0_3 : Nat) (l0_3 : List Int) (A0_4 : Option Addr) (c0_4 : Nat) (l0_4 : List (S120)) (A0_5 : Option Addr) (c0_5 : Nat) (l0_5 : List (S130)) (r1 : ByteArray) (r2 : List Int) (r3 : Int) (r4 : List Int) (r5 : List S120) (r6 : List S130) (w : World) (hr0_1 : Kd.C (Kd.int .u32) w A0_1 l0_1.length l0_1) (hc0_1 : l0_1.length ≤ c0_1) (hr0_3 : Kd.C (Kd.int .i64) w A0_3 l0_3.length l0_3) (hc0_3 : l0_3.length ≤ c0_3) (hr0_4 : Kd.C k120 w A0_4 l0_4.length l0_4) (hc0_4 : l0_4.length ≤ c0_4) (hr0_5 : Kd.C k130 w A0_5 l0_5.length l0_5) (hc0_5 : l0_5.length ≤ c0_5) (h : pleatref00_WideObject.f a0_0 l0_1 a0_2 l0_3 l0_4 l0_5 = some (r1, r2, r3, r4, r5, r6)) :
    Calls Try.prog 74 #[.agg #[.string a0_0, .slice A0_1 l0_1.length c0_1, .int .i64 a0_2, .slice A0_3 l0_3.length c0_3, .slice A0_4 l0_4.length c0_4, .slice A0_5 l0_5.length c0_5]] w fun e w' => ∃ v0_ v1_ v2_ v3_ : Value, e = .returned (.agg #[.string r1, v0_, .int .i64 r3, v1_, v2_, v3_]) ∧ Kd.R (Kd.int .u32) 34 w' w.heap.size (fun _ => True) v0_ r2 ∧ Kd.R (Kd.int .i64) 2 w' w.heap.size (fun _ => True) v1_ r4 ∧ Kd.R k120 120 w' w.heap.size (fun _ => True) v2_ r5 ∧ Kd.R k130 130 w' w.heap.size (fun _ => True) v3_ r6 ∧ Below w.heap.size w w' :=
  (pleatref00_WideObject.callsW a0_0 A0_1 c0_1 l0_1 a0_2 A0_3 c0_3 l0_3 A0_4 c0_4 l0_4 A0_5 c0_5 l0_5 r1 r2 r3 r4 r5 r6 w hr0_1 hc0_1 hr0_3 hc0_3 hr0_4 hc0_4 hr0_5 hc0_5 h).mono fun _ _ ⟨a, b, c, d, h1, h2, h3, h4, h5, h6, _⟩ => ⟨a, b, c, d, h1, h2, h3, h4, h5, h6⟩
end Go.Proofs.Ytiaohbbafaaibaa.P

/- OWN TEXT: what looks at the marks behind the lists of an object: they stand. -/
namespace Go.Proofs.Ytiaohbbafaaibaa.P
open Go.RowKit Go.Maps Go.Proofs.YtiaohbbafaaibaaW.PrintWords Go.Proofs.YtiaohbbafaaibaaW.PrintLast Go.Proofs.YtiaohbbafaaibaaW.PrintMore Go.Proofs.Ytiaohbbafaaibaa.Arr Go.Proofs.Ytiaohbbafaaibaa.MapB
set_option linter.unusedVariables false
set_option linter.unusedSimpArgs false

theorem mark_get {α : Type} {l : List α} {mk : Nat → α} {z : α} {i : Nat} (h0 : l.length ≤ i) (h1 : i < l.length + 64) : (l ++ marksL mk l.length).getD i z = mk i := by
  rw [List.getD_eq_getElem?_getD, List.getElem?_append_right h0, marksL_at _ _ _ (by omega), show l.length + (i - l.length) = i by omega]
  rfl
theorem num_mark {i : Nat} (h : i ≤ 2000000000000000) : pleatref00_num.f 9 (i : Int) = some (markN i) := by
  have : ∃ t, pleatref00_num.f 9 (i : Int) = some t := ⟨_, rfl⟩
  obtain ⟨t, ht⟩ := this
  rw [ht, numW (by omega) (by omega) ht, Int.toNat_natCast]
theorem spareWords_ev {l : List Int} (hl : l.length ≤ 1000000000) : Ev (fun k => pleatref00_SpareWords.l0 k (l ++ marksL (fun i => markN i % 4294967296) l.length) (l.length : Int)) true := by
  have hlen : (l ++ marksL (fun i => markN i % 4294967296) l.length).length = l.length + 64 := by rw [List.length_append, marksL_length]
  have : ∀ d i : Nat, i + d = l.length + 64 → l.length ≤ i → Ev (fun k => pleatref00_SpareWords.l0 k (l ++ marksL (fun i => markN i % 4294967296) l.length) (i : Int)) true := by
    intro d
    induction d with
    | zero => intro i hi h0; exact Ev.succ (Ev.iteF (by omega) (Ev.val rfl))
    | succ d ih =>
      intro i hi h0
      have hw : wrap64 ((i : Int) + 1) = ((i + 1 : Nat) : Int) := by rw [wrap64_id (by omega) (by omega)]; rfl
      have hr : rd (l ++ marksL (fun i => markN i % 4294967296) l.length) (i : Int) = (fun i => markN i % 4294967296) i := by
        unfold rd
        rw [Int.toNat_natCast]
        exact mark_get h0 (by omega)
      refine Ev.succ (Ev.iteT (by omega) (Ev.iteT (by omega) (Ev.bind0 (num_mark (by omega)) (Ev.iteT (by rw [hr]) ?_))))
      simp only [hw]
      exact ih (i + 1) (by omega) (by omega)
  exact this 64 l.length rfl (Nat.le_refl _)
theorem spareLongs_ev {l : List Int} (hl : l.length ≤ 1000000000) : Ev (fun k => pleatref00_SpareLongs.l0 k (l ++ marksL markN l.length) (l.length : Int)) true := by
  have hlen : (l ++ marksL markN l.length).length = l.length + 64 := by rw [List.length_append, marksL_length]
  have : ∀ d i : Nat, i + d = l.length + 64 → l.length ≤ i → Ev (fun k => pleatref00_SpareLongs.l0 k (l ++ marksL markN l.length) (i : Int)) true := by
    intro d
    induction d with
    | zero => intro i hi h0; exact Ev.succ (Ev.iteF (by omega) (Ev.val rfl))
    | succ d ih =>
      intro i hi h0
      have hw : wrap64 ((i : Int) + 1) = ((i + 1 : Nat) : Int) := by rw [wrap64_id (by omega) (by omega)]; rfl
      have hr : rd (l ++ marksL markN l.length) (i : Int) = markN i := by
        unfold rd
        rw [Int.toNat_natCast]
        exact mark_get h0 (by omega)
      refine Ev.succ (Ev.iteT (by omega) (Ev.iteT (by omega) (Ev.bind0 (num_mark (by omega)) (Ev.iteT (by rw [hr]) ?_))))
      simp only [hw]
      exact ih (i + 1) (by omega) (by omega)
  exact this 64 l.length rfl (Nat.le_refl _)
theorem spareSymbols_ev {l : List S120} (hl : l.length ≤ 1000000000) : Ev (fun k => pleatref00_SpareSymbols.l0 k (l ++ marksL (fun i => (⟨⟨#[]⟩, 0, markN i⟩ : S120)) l.length) (l.length : Int)) true := by
  have hlen : (l ++ marksL (fun i => (⟨⟨#[]⟩, 0, markN i⟩ : S120)) l.length).length = l.length + 64 := by rw [List.length_append, marksL_length]
  have : ∀ d i : Nat, i + d = l.length + 64 → l.length ≤ i → Ev (fun k => pleatref00_SpareSymbols.l0 k (l ++ marksL (fun i => (⟨⟨#[]⟩, 0, markN i⟩ : S120)) l.length) (i : Int)) true := by
    intro d
    induction d with
    | zero => intro i hi h0; exact Ev.succ (Ev.iteF (by omega) (Ev.val rfl))
    | succ d ih =>
      intro i hi h0
      have hw : wrap64 ((i : Int) + 1) = ((i + 1 : Nat) : Int) := by rw [wrap64_id (by omega) (by omega)]; rfl
      have hr : rd_T120 (l ++ marksL (fun i => (⟨⟨#[]⟩, 0, markN i⟩ : S120)) l.length) (i : Int) = (fun i => (⟨⟨#[]⟩, 0, markN i⟩ : S120)) i := by
        unfold rd_T120
        rw [Int.toNat_natCast]
        exact mark_get h0 (by omega)
      refine Ev.succ (Ev.iteT (by omega) (Ev.iteT (by omega) (Ev.bind0 (num_mark (by omega)) (Ev.iteT (by rw [hr]; simp) ?_))))
      simp only [hw]
      exact ih (i + 1) (by omega) (by omega)
  exact this 64 l.length rfl (Nat.le_refl _)
theorem spareRelocs_ev {l : List S130} (hl : l.length ≤ 1000000000) : Ev (fun k => pleatref00_SpareRelocs.l0 k (l ++ marksL (fun i => (⟨markN i, 0⟩ : S130)) l.length) (l.length : Int)) true := by
  have hlen : (l ++ marksL (fun i => (⟨markN i, 0⟩ : S130)) l.length).length = l.length + 64 := by rw [List.length_append, marksL_length]
  have : ∀ d i : Nat, i + d = l.length + 64 → l.length ≤ i → Ev (fun k => pleatref00_SpareRelocs.l0 k (l ++ marksL (fun i => (⟨markN i, 0⟩ : S130)) l.length) (i : Int)) true := by
    intro d
    induction d with
    | zero => intro i hi h0; exact Ev.succ (Ev.iteF (by omega) (Ev.val rfl))
    | succ d ih =>
      intro i hi h0
      have hw : wrap64 ((i : Int) + 1) = ((i + 1 : Nat) : Int) := by rw [wrap64_id (by omega) (by omega)]; rfl
      have hr : rd_T130 (l ++ marksL (fun i => (⟨markN i, 0⟩ : S130)) l.length) (i : Int) = (fun i => (⟨markN i, 0⟩ : S130)) i := by
        unfold rd_T130
        rw [Int.toNat_natCast]
        exact mark_get h0 (by omega)
      refine Ev.succ (Ev.iteT (by omega) (Ev.iteT (by omega) (Ev.bind0 (num_mark (by omega)) (Ev.iteT (by rw [hr]; simp) ?_))))
      simp only [hw]
      exact ih (i + 1) (by omega) (by omega)
  exact this 64 l.length rfl (Nat.le_refl _)
def pleatref00_SpareObject.f (a0_0 : ByteArray) (l0_1 : List Int) (a0_2 : Int) (l0_3 : List Int) (l0_4 : List S120) (l0_5 : List S130) : Option Bool := if smallO a0_0 l0_1 a0_2 l0_3 l0_4 l0_5 = true then some true else none
theorem WideC.full {α : Type} {d : Kd α} {e : Nat} {W : World} {base : Nat} {A : Option Addr} {n c : Nat} {l : List α} {mk : Nat → α} (h : WideC d e W base (.slice A n c) l mk) : l.length + 64 ≤ c ∧ Kd.C d W A (l ++ marksL mk l.length).length (l ++ marksL mk l.length) := by
  obtain ⟨A', c', he, hR⟩ := h
  injection he with h1 h2 h3
  subst h1 h3
  obtain ⟨q1, q2, q3⟩ := Kd.R_reads' hR
  refine ⟨q2, ?_⟩
  rw [← q1]
  rw [← q1] at q3
  exact q3
set_option maxHeartbeats 8000000 in
set_option maxRecDepth 100000 in
theorem pleatref00_SpareObject.callsW (a0_0 : ByteArray) (A0_1 : Option Addr) (c0_1 : Nat) (l0_1 : List Int) (a0_2 : Int) (A0_3 : Option Addr) (c0_3 : Nat) (l0_3 : List Int) (A0_4 : Option Addr) (c0_4 : Nat) (l0_4 : List (S120)) (A0_5 : Option Addr) (c0_5 : Nat) (l0_5 : List (S130)) (r : Bool) (w : World) (hr0_1 : Kd.C (Kd.int .u32) w A0_1 l0_1.length l0_1) (hc0_1 : l0_1.length ≤ c0_1) (hr0_3 : Kd.C (Kd.int .i64) w A0_3 l0_3.length l0_3) (hc0_3 : l0_3.length ≤ c0_3) (hr0_4 : Kd.C k120 w A0_4 l0_4.length l0_4) (hc0_4 : l0_4.length ≤ c0_4) (hr0_5 : Kd.C k130 w A0_5 l0_5.length l0_5) (hc0_5 : l0_5.length ≤ c0_5) (h : pleatref00_SpareObject.f a0_0 l0_1 a0_2 l0_3 l0_4 l0_5 = some r) (hx : ∃ base, WideO w base (.slice A0_1 l0_1.length c0_1) (.slice A0_3 l0_3.length c0_3) (.slice A0_4 l0_4.length c0_4) (.slice A0_5 l0_5.length c0_5) a0_0 l0_1 a0_2 l0_3 l0_4 l0_5) :
    Calls Try.prog 82 #[.agg #[.string a0_0, .slice A0_1 l0_1.length c0_1, .int .i64 a0_2, .slice A0_3 l0_3.length c0_3, .slice A0_4 l0_4.length c0_4, .slice A0_5 l0_5.length c0_5]] w fun e w' => e = .returned (.bool r) ∧ Below w.heap.size w w' := by
  have hu1 := Try.underlying88
  unfold pleatref00_SpareObject.f at h
  by_cases hs : smallO a0_0 l0_1 a0_2 l0_3 l0_4 l0_5 = true
  · rw [if_pos hs] at h
    have h := Option.some.inj h
    subst h
    unfold smallO at hs
    simp only [Bool.and_eq_true, decide_eq_true_eq] at hs
    obtain ⟨s1, s3, s4, s5⟩ := hs
    obtain ⟨base, hx⟩ := hx
    obtain ⟨k1, hk1⟩ := Ev.rounds (spareWords_ev s1)
    obtain ⟨k3, hk3⟩ := Ev.rounds (spareLongs_ev s3)
    obtain ⟨k4, hk4⟩ := Ev.rounds (spareSymbols_ev s4)
    obtain ⟨k5, hk5⟩ := Ev.rounds (spareRelocs_ev s5)
    have K1 := Aside0.mk hk1
    have K3 := Aside0.mk hk3
    have K4 := Aside0.mk hk4
    have K5 := Aside0.mk hk5
    have B1 := Aside0.mk (show l0_1.length ≤ 1000000000000000 by omega)
    have B3 := Aside0.mk (show l0_3.length ≤ 1000000000000000 by omega)
    have B4 := Aside0.mk (show l0_4.length ≤ 1000000000000000 by omega)
    have B5 := Aside0.mk (show l0_5.length ≤ 1000000000000000 by omega)
    have HX := Aside0.mk hx
    have HB := Aside0.mk (Below.refl w.heap.size w)
    clear hr0_1 hc0_1 hr0_3 hc0_3 hr0_4 hc0_4 hr0_5 hc0_5 hk1 hk3 hk4 hk5 s1 s3 s4 s5 hx
    go_enter Try.func82, Try.ntmps82
    go_wp2_with (first | ((with_reducible refine gate_dst (N := 1) rfl ?_); refine box_event ?hg (N := 1) ?hd (cs := #[.string a0_0, .slice A0_1 l0_1.length c0_1, .int .i64 a0_2, .slice A0_3 l0_3.length c0_3, .slice A0_4 l0_4.length c0_4, .slice A0_5 l0_5.length c0_5]) (t := 88) ?hr ?_; (case hd => rfl); (case hg => rfl); (case hr => first | (go_simp; done) | (go_simp; rfl)); intro gb hgb w1 BK1 hb1; have HXn := Aside0.mk (HX.out.below hb1); have HBn := Aside0.mk (below_then HB.out HB.out.size hb1); have BO := Aside0.mk (show w1.heap[gb]? = some (objCell a0_0 A0_1 l0_1.length c0_1 a0_2 A0_3 l0_3.length c0_3 A0_4 l0_4.length c0_4 A0_5 l0_5.length c0_5) from BK1); clear HB HX hb1 hgb BK1; have HB := HBn; have HX := HXn; clear HBn HXn; have hq0 := blk_cell BO.out 0; have hq1 := blk_cell BO.out 1; have hq2 := blk_cell BO.out 2; have hq3 := blk_cell BO.out 3; have hq4 := blk_cell BO.out 4; have hq5 := blk_cell BO.out 5) | (go_at_call 120; refine (pleatref00_SpareWords.callsS k1 A0_1 c0_1 l0_1.length (l0_1 ++ marksL (fun i => markN i % 4294967296) l0_1.length) true _ HX.out.w1.full.2 (by rw [List.length_append, marksL_length]) B1.out HX.out.w1.full.1 K1.out rfl).mono ?_; rintro e w7 ⟨rfl, hd⟩; have hb := hd.below; have HXn := Aside0.mk (HX.out.below hb); have HBn := Aside0.mk (below_then HB.out HB.out.size hb); have BOn := Aside0.mk (blk_below BO.out hb); clear HB HX BO hb hq0 hq1 hq2 hq3 hq4 hq5 hd; have HB := HBn; have HX := HXn; have BO := BOn; clear HBn HXn BOn; have hq0 := blk_cell BO.out 0; have hq1 := blk_cell BO.out 1; have hq2 := blk_cell BO.out 2; have hq3 := blk_cell BO.out 3; have hq4 := blk_cell BO.out 4; have hq5 := blk_cell BO.out 5) | (go_at_call 121; refine (pleatref00_SpareLongs.callsS k3 A0_3 c0_3 l0_3.length (l0_3 ++ marksL markN l0_3.length) true _ HX.out.w3.full.2 (by rw [List.length_append, marksL_length]) B3.out HX.out.w3.full.1 K3.out rfl).mono ?_; rintro e w7 ⟨rfl, hd⟩; have hb := hd.below; have HXn := Aside0.mk (HX.out.below hb); have HBn := Aside0.mk (below_then HB.out HB.out.size hb); have BOn := Aside0.mk (blk_below BO.out hb); clear HB HX BO hb hq0 hq1 hq2 hq3 hq4 hq5 hd; have HB := HBn; have HX := HXn; have BO := BOn; clear HBn HXn BOn; have hq0 := blk_cell BO.out 0; have hq1 := blk_cell BO.out 1; have hq2 := blk_cell BO.out 2; have hq3 := blk_cell BO.out 3; have hq4 := blk_cell BO.out 4; have hq5 := blk_cell BO.out 5) | (go_at_call 122; refine (pleatref00_SpareSymbols.callsS k4 A0_4 c0_4 l0_4.length (l0_4 ++ marksL (fun i => (⟨⟨#[]⟩, 0, markN i⟩ : S120)) l0_4.length) true _ HX.out.w4.full.2 (by rw [List.length_append, marksL_length]) B4.out HX.out.w4.full.1 K4.out rfl).mono ?_; rintro e w7 ⟨rfl, hb⟩; have HXn := Aside0.mk (HX.out.below hb); have HBn := Aside0.mk (below_then HB.out HB.out.size hb); have BOn := Aside0.mk (blk_below BO.out hb); clear HB HX BO hb hq0 hq1 hq2 hq3 hq4 hq5; have HB := HBn; have HX := HXn; have BO := BOn; clear HBn HXn BOn; have hq0 := blk_cell BO.out 0; have hq1 := blk_cell BO.out 1; have hq2 := blk_cell BO.out 2; have hq3 := blk_cell BO.out 3; have hq4 := blk_cell BO.out 4; have hq5 := blk_cell BO.out 5) | (go_at_call 123; refine (pleatref00_SpareRelocs.callsS k5 A0_5 c0_5 l0_5.length (l0_5 ++ marksL (fun i => (⟨markN i, 0⟩ : S130)) l0_5.length) true _ HX.out.w5.full.2 (by rw [List.length_append, marksL_length]) B5.out HX.out.w5.full.1 K5.out rfl).mono ?_; rintro e w7 ⟨rfl, hb⟩; have HXn := Aside0.mk (HX.out.below hb); have HBn := Aside0.mk (below_then HB.out HB.out.size hb); have BOn := Aside0.mk (blk_below BO.out hb); clear HB HX BO hb hq0 hq1 hq2 hq3 hq4 hq5; have HB := HBn; have HX := HXn; have BO := BOn; clear HBn HXn BOn; have hq0 := blk_cell BO.out 0; have hq1 := blk_cell BO.out 1; have hq2 := blk_cell BO.out 2; have hq3 := blk_cell BO.out 3; have hq4 := blk_cell BO.out 4; have hq5 := blk_cell BO.out 5))
    go_ret
    exact ⟨rfl, HB.out⟩
  · rw [if_neg hs] at h; cases h
end Go.Proofs.Ytiaohbbafaaibaa.P
