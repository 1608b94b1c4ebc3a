/- OWN TEXT and printed parts of this claim, laid together: P25, HWideO, HWideM, HSpareO, HSpareL, HWideL, P9, HLives8, HSame8. -/
import Derived.Test.YtiaohbbafaaibabZrM0
import Derived.Test.YtiaohbbafaaibabZrM10
import Derived.Test.YtiaohbbafaaibabZrM9
import Derived.Test.YtiaohbbafaaibabZrM1
/- What the Go functions named below come to, as plain functions, each with its proof; written by this session's prt.py over the kit's print. -/
namespace Go.Proofs.Ytiaohbbafaaibab.P
open Go.RowKit Go.Proofs.YtiaohbbafaaibabW.PrintWords Go.Proofs.YtiaohbbafaaibabW.PrintLast Go.Proofs.YtiaohbbafaaibabW.PrintMore
attribute [local go_sem] max2_int min2_int max_two min_two max_three min_three max_four min_four   -- for this text's walks alone
set_option linter.unusedVariables false
set_option linter.unusedSimpArgs false

attribute [local go_sem high] eqA41
/-! ### pleatref00_SpareRelocs: function 63 -/
def pleatref00_SpareRelocs.l0 : Nat → List (S41) → Int → Option (Bool)
 | 0, _, _ => none
 | k + 1, x3, x4 => if x4 < (x3.length : Int) then (if 0 ≤ x4 then ((pleatref00_num.f 9 x4).bind fun t607 => (if ((((rd_T41 x3 x4).f0) == t607 && (((rd_T41 x3 x4).f1) == 0)) = true) then (pleatref00_SpareRelocs.l0 k x3 (wrap64 (x4 + 1))) else (some false))) else (none)) else (some true)
def pleatref00_SpareRelocs.f (k : Nat) (l0 : List (S41)) : Option (Bool) := if 0 ≤ (wrap64 ((l0.length : Int) + 64)) then (if (wrap64 ((l0.length : Int) + 64)) ≤ (l0.length : Int) then (pleatref00_SpareRelocs.l0 k (l0.take ((wrap64 ((l0.length : Int) + 64)) : Int).toNat) (l0.length : Int)) else (none)) else (none)
theorem pleatref00_SpareRelocs.mono_l : ∀ k, (∀ y0 y1, LeO (pleatref00_SpareRelocs.l0 k y0 y1) (pleatref00_SpareRelocs.l0 (k + 1) y0 y1))
 | 0 => fun _ _ r h => by simp [pleatref00_SpareRelocs.l0] at h
 | k + 1 => by
  have ih0 := pleatref00_SpareRelocs.mono_l k
  ·
   intro y0 y1
   unfold pleatref00_SpareRelocs.l0
   repeat' first
   | (with_reducible first | exact ih0 _ _ | exact LeO.refl _ | exact LeO.none _ | refine LeO.ite ?_ ?_ | refine LeO.bind ?_ (fun _ => ?_))
theorem pleatref00_SpareRelocs.mono : ∀ a0 k, LeO (pleatref00_SpareRelocs.f k a0) (pleatref00_SpareRelocs.f (k + 1) a0) := by
 intro a0 k
 have ih0 := pleatref00_SpareRelocs.mono_l k
 unfold pleatref00_SpareRelocs.f
 repeat' first
   | (with_reducible first | exact ih0 _ _ | exact LeO.refl _ | exact LeO.none _ | refine LeO.ite ?_ ?_ | refine LeO.bind ?_ (fun _ => ?_))
set_option maxHeartbeats 8000000 in
set_option maxRecDepth 100000 in
theorem pleatref00_SpareRelocs.callsS (k : Nat) (A0 : Option Addr) (c0 n0 : Nat) (y601 : List (S41)) (r : Bool) (w : World) (hr0 : Kd.C k41 w A0 y601.length y601) (hn : y601.length = n0 + 64) (hn2 : n0 ≤ 1000000000000000) (hc0 : n0 + 64 ≤ c0) (h : pleatref00_SpareRelocs.l0 k y601 (n0 : Int) = some r) (hrt : r = true) :
  Calls Try.prog 63 #[.slice A0 n0 c0] w fun e w' => e = .returned (.bool r) ∧ Below w.heap.size w w' := by
 have hu41 := Try.underlying41
 have HRT := Aside0.mk hrt
 have HR604 := Aside0.mk hr0
 have H' := Aside0.mk h
 have HB := Aside0.mk (Below.refl w.heap.size w)
 obtain ⟨ji2, hji2⟩ : ∃ j_ : Int, (wrap64 ((n0 : Int) + 64)) = j_ := ⟨_, rfl⟩
 have hjv : ji2 = (y601.length : Int) := by rw [← hji2, wrap64_id (by omega) (by omega), hn]; omega
 have hji2w : (IntKind.i64.wrap ((n0 : Int) + 64)) = ji2 := (i64_w _).trans hji2
 have c3b0 := eq_true (show 0 ≤ ji2 by omega)
 obtain ⟨i0_, hi05, _, _, _⟩ := info_parts info41
 have hcut5 := cut_wide (P := Try.prog) 25 41 .i64 Try.underlying25 hi05 A0 n0 c0 ji2 (by omega) (by omega)
 rw [show ji2.toNat = y601.length by omega] at hcut5
 clear hrt hr0 h hjv hi05 hc0 hn
 go_enter Try.func63, Try.ntmps63
 go_wp2
 repeat (go_quiet (fail); try go_wp2)
 go_loopg [4] k (fun kq v4 w' => ∃ (x4_1 : Int), v4 = .int .i64 x4_1 ∧ Aside0 (pleatref00_SpareRelocs.l0 kq y601 x4_1 = some r) ∧ Aside0 (kq ≤ k) ∧ Aside0 (Below w.heap.size w w'))
 case atStart => exact ⟨((n0 : Int)), (by first | rfl | (simp; done) | (simp [*]; done)), H', ⟨Nat.le_refl _⟩, ⟨bwQ HB.out⟩⟩
 case round =>
  clear H'
  try clear p2
  try clear c3
  try clear c3b0
  try clear c3b1
  try clear c4
  try clear c4b0
  try clear c4b1
  try clear q5
  try clear q5
  obtain ⟨x4_1, rfl, HA, HK1, HB⟩ := hrel
  cases gk with
  | zero => exact absurd HA.out (by simp [pleatref00_SpareRelocs.l0])
  | succ k1 =>
   have H := HA.out
   clear HA
   simp only [pleatref00_SpareRelocs.l0] at H
   by_cases c6 : x4_1 < (y601.length : Int)
   ·
    rw [if_pos c6] at H
    have c6b0 : decide (x4_1 < (y601.length : Int)) = true := decide_eq_true c6
    clear c6
    by_cases c7 : 0 ≤ x4_1
    ·
     rw [if_pos c7] at H
     have c7b0 : decide (0 ≤ x4_1) = true := decide_eq_true c7
     clear c7
     replace H := Option.bind_eq_some_iff.mp H
     obtain ⟨t607, A80, H⟩ := H
     try dsimp only at H
     have A8 := Aside0.mk A80
     clear A80
     by_cases c9 : ((((rd_T41 y601 x4_1).f0) == t607 && (((rd_T41 y601 x4_1).f1) == 0)) = true)
     ·
      rw [if_pos c9] at H
      have c9b0 : (((rd_T41 y601 x4_1).f0) == t607 && (((rd_T41 y601 x4_1).f1) == 0)) = true := c9
      (try (have c9b1 : decide (((rd_T41 y601 x4_1).f0) = t607 && (((rd_T41 y601 x4_1).f1) == 0)) = true := by simpa using c9))
      (try (have c9b2 : (((rd_T41 y601 x4_1).f0) == t607 && (((rd_T41 y601 x4_1).f1) == 0)) = true := by simpa using c9))
      clear c9
      have H' := Aside0.mk H
      clear H
      have p605 : 0 ≤ (x4_1 : Int) := of_decide_eq_true ‹_›
      have q605 : x4_1 < (y601.length : Int) := of_decide_eq_true ‹_›
      obtain ⟨ad605, e605, hx605_0, hx605_1⟩ := atQ41 HR604.out HB.out x4_1 p605 q605
      cases e605
      replace p605 := eq_true p605
      replace q605 := eq_true q605
      go_wp2_with (first | ((with_reducible refine gate_dst (N := 5) rfl ?_); refine box_event ?hg (N := 5) ?hd (cs := #[.int .i64 0, .int .i64 0]) (t := 41) ?hr ?_; (case hd => rfl); (case hg => rfl); (case hr => go_simp; try rfl); intro gb606 hg w10 hbox hb; have BK606 := Aside0.mk (hbox); have GW606 := Aside0.mk (gwQ hg HB.out); have GE606 := Aside0.mk (gwQ hg HB.out); replace HB := Aside0.mk (bsQ hb HB.out); clear hb hbox hg; obtain ⟨hcz11_0, hcz11_1⟩ := bcQ2 BK606.out; obtain ⟨hfz11_0, hfz11_1⟩ := fzQ2 BK606.out) | (go_at_call 39; (with_reducible refine (pleatref00_num.calls 9 x4_1 t607 _ A8.out).mono ?_); rintro e w' ⟨rfl, ⟨nd, rfl⟩⟩; (try first | exact ⟨rfl, _, World.drewN_drewN _ _ _⟩ | exact ⟨rfl, _, Eq.trans (World.drewN_drewN _ _ _) (congrArg (World.drewN _) (Nat.add_assoc _ _ _))⟩)))
      repeat (go_quiet (first | ((with_reducible refine gate_dst (N := 5) rfl ?_); refine box_event ?hg (N := 5) ?hd (cs := #[.int .i64 0, .int .i64 0]) (t := 41) ?hr ?_; (case hd => rfl); (case hg => rfl); (case hr => go_simp; try rfl); intro gb606 hg w10 hbox hb; have BK606 := Aside0.mk (hbox); have GW606 := Aside0.mk (gwQ hg HB.out); have GE606 := Aside0.mk (gwQ hg HB.out); replace HB := Aside0.mk (bsQ hb HB.out); clear hb hbox hg; obtain ⟨hcz11_0, hcz11_1⟩ := bcQ2 BK606.out; obtain ⟨hfz11_0, hfz11_1⟩ := fzQ2 BK606.out) | (go_at_call 39; (with_reducible refine (pleatref00_num.calls 9 x4_1 t607 _ A8.out).mono ?_); rintro e w' ⟨rfl, ⟨nd, rfl⟩⟩; (try first | exact ⟨rfl, _, World.drewN_drewN _ _ _⟩ | exact ⟨rfl, _, Eq.trans (World.drewN_drewN _ _ _) (congrArg (World.drewN _) (Nat.add_assoc _ _ _))⟩))); try go_wp2_with (first | ((with_reducible refine gate_dst (N := 5) rfl ?_); refine box_event ?hg (N := 5) ?hd (cs := #[.int .i64 0, .int .i64 0]) (t := 41) ?hr ?_; (case hd => rfl); (case hg => rfl); (case hr => go_simp; try rfl); intro gb606 hg w10 hbox hb; have BK606 := Aside0.mk (hbox); have GW606 := Aside0.mk (gwQ hg HB.out); have GE606 := Aside0.mk (gwQ hg HB.out); replace HB := Aside0.mk (bsQ hb HB.out); clear hb hbox hg; obtain ⟨hcz11_0, hcz11_1⟩ := bcQ2 BK606.out; obtain ⟨hfz11_0, hfz11_1⟩ := fzQ2 BK606.out) | (go_at_call 39; (with_reducible refine (pleatref00_num.calls 9 x4_1 t607 _ A8.out).mono ?_); rintro e w' ⟨rfl, ⟨nd, rfl⟩⟩; (try first | exact ⟨rfl, _, World.drewN_drewN _ _ _⟩ | exact ⟨rfl, _, Eq.trans (World.drewN_drewN _ _ _) (congrArg (World.drewN _) (Nat.add_assoc _ _ _))⟩))))
      go_roundg k1
      case measure => have := HK1.out; omega
      case rel => exact ⟨(wrap64 (x4_1 + 1)), (by first | rfl | (simp; done) | (simp [*]; done)), H', ⟨by have := HK1.out; omega⟩, ⟨by repeat with_reducible first | exact HB.out | apply pw_below_drewN | apply below_drew1 | refine below_set ?_ GE606.out⟩⟩
     ·
      rw [if_neg c9] at H
      exact absurd ((Option.some.inj H).trans HRT.out) (by decide)
    ·
     rw [if_neg c7] at H
     exact absurd H (by simp)
   ·
    rw [if_neg c6] at H
    have c6b0 : decide (x4_1 < (y601.length : Int)) = false := decide_eq_false c6
    clear c6
    obtain rfl := Option.some.inj H
    go_wp2
    repeat (go_quiet (fail); try go_wp2)
    go_ret
    exact ⟨by first | rfl | (simp [errW_none, errW_some] <;> rfl) | (simp only [← hji2]; first | rfl | (simp [errW_none, errW_some] <;> rfl)) | (simp [*, errW_none, errW_some] <;> rfl), bwQ HB.out⟩
end Go.Proofs.Ytiaohbbafaaibab.P

/- OWN TEXT: an object whose lists have marks behind them: what makes it, and what looks at the marks. -/
namespace Go.Proofs.Ytiaohbbafaaibab.P
open Go.RowKit Go.Maps Go.Proofs.YtiaohbbafaaibabW.PrintWords Go.Proofs.YtiaohbbafaaibabW.PrintLast Go.Proofs.YtiaohbbafaaibabW.PrintMore Go.Proofs.Ytiaohbbafaaibab.Arr Go.Proofs.Ytiaohbbafaaibab.MapB
set_option linter.unusedVariables false
set_option linter.unusedSimpArgs false

theorem WideC.R {α : Type} {d : Kd α} {e : Nat} {W : World} {base : Nat} {v : Value} {l : List α} {mk : Nat → α} (h : WideC d e W base v l mk) : Kd.R d e W base (fun _ => True) v l := by
 obtain ⟨A, c, rfl, hR⟩ := h
 have := Kd.R_take (m := l.length) hR (by rw [List.length_append]; omega)
 rwa [List.take_left'] at this
 rfl
theorem WideC.put {α : Type} {d : Kd α} {e : Nat} {W W1 : World} {base : Nat} {v : Value} {l : List α} {mk : Nat → α} (h : WideC d e W base v l mk) (hE : d.E = []) {g t : Nat} {cs cs' : Array Value} {t' : TypeId} (hb : W.heap[g]? = some (.cells cs t (0, 0))) (hne : e ≠ t) (hp : Put W W1 g cs' t') : WideC d e W1 base v l mk := by
 obtain ⟨A, c, rfl, hR⟩ := h
 exact ⟨A, c, rfl, Kd.R_grown1 hR hE (put_grownN hp) (Kd.R_ne hR hb hne)⟩
theorem WideC.slice {α : Type} {d : Kd α} {e : Nat} {W : World} {base : Nat} {v : Value} {l : List α} {mk : Nat → α} (h : WideC d e W base v l mk) : ∃ A c, v = .slice A l.length c := by
 obtain ⟨A, c, h1, _⟩ := h
 exact ⟨A, c, h1⟩
theorem sizeSlWords (W : World) : (sizeOf 22).run Try.prog W = .ok 1 W := by kernel_rfl
theorem sizeSlLongs (W : World) : (sizeOf 23).run Try.prog W = .ok 1 W := by kernel_rfl
theorem sizeSlSymbols (W : World) : (sizeOf 24).run Try.prog W = .ok 1 W := by kernel_rfl
theorem sizeSlRelocs (W : World) : (sizeOf 25).run Try.prog W = .ok 1 W := by kernel_rfl
theorem obj_one (s : ByteArray) (A1 : Option Addr) (n1 c1 : Nat) (a : Int) (A3 : Option Addr) (n3 c3 : Nat) (A4 : Option Addr) (n4 c4 : Nat) (A5 : Option Addr) (n5 c5 : Nat) : ((#[.string s, .slice A1 n1 c1, .int .i64 a, .slice A3 n3 c3, .slice A4 n4 c4, .slice A5 n5 c5] : Array Value).all fun v => v.oneCell') = true := by kernel_rfl

theorem wideWords_l {l : List Int} (hl : l.length ≤ 1000000000) : ∀ d : Nat, ∀ x : List Int, ∀ i : Nat, i + d = l.length + 64 → FillW l (fun i => markN i % 4294967296) x (i : Int) → Ev (fun k => pleatref00_WideWords.l0 k l x (i : Int)) l := by
 intro d
 induction d with
 | zero =>
  intro x i hi hf
  have hx := hf.done (decide_eq_false (by have := hf.len; omega))
  refine Ev.succ (Ev.iteF (by have := hf.len; omega) (Ev.iteT (by omega) (Ev.iteT (by have := hf.len; omega) (Ev.val ?_))))
  rw [hx]
  simp
 | succ d ih =>
  intro x i hi hf
  have hw : wrap64 ((i : Int) + 1) = ((i + 1 : Nat) : Int) := by rw [wrap64_id (by omega) (by omega)]; rfl
  refine Ev.succ (Ev.iteT (by have := hf.len; omega) (Ev.ite2 (fun h => Ev.iteT (by omega) ?_) (fun h => ?_)))
  ·
   have hf2 := hf.copy (decide_eq_true h) (getW (z := 0) hf.lo (decide_eq_true h)) rfl
   rw [hw] at hf2
   simp only [hw]
   exact ih _ (i + 1) (by omega) hf2
  ·
   have hnum : pleatref00_num.f 9 (i : Int) = some (markN i) := by
    have : ∃ t, pleatref00_num.f 9 (i : Int) = some t := ⟨_, rfl⟩
    obtain ⟨t, ht⟩ := this
    rw [ht, numW (by omega) (by omega) ht, Int.toNat_natCast]
   have hf2 := hf.mark (decide_eq_false h) (decide_eq_true (by have := hf.len; omega)) rfl rfl
   rw [hw] at hf2
   refine Ev.bind0 hnum (Ev.iteT (by omega) ?_)
   simp only [hw]
   exact ih _ (i + 1) (by omega) hf2
theorem wideWords_ev {l : List Int} (hl : l.length ≤ 1000000000) : Ev (fun k => pleatref00_WideWords.f k l) l := by
 unfold pleatref00_WideWords.f
 have hw : wrap64 ((l.length : Int) + 64) = (l.length : Int) + 64 := wrap64_id (by omega) (by omega)
 simp only [hw]
 refine Ev.iteT (by omega) (Ev.iteT (by omega) ?_)
 exact wideWords_l hl (l.length + 64) _ 0 (by omega) (FillW.start (by omega) hw (decide_eq_true (by omega)) (decide_eq_true (by omega)) rfl)
theorem wideLongs_l {l : List Int} (hl : l.length ≤ 1000000000) : ∀ d : Nat, ∀ x : List Int, ∀ i : Nat, i + d = l.length + 64 → FillW l markN x (i : Int) → Ev (fun k => pleatref00_WideLongs.l0 k l x (i : Int)) l := by
 intro d
 induction d with
 | zero =>
  intro x i hi hf
  have hx := hf.done (decide_eq_false (by have := hf.len; omega))
  refine Ev.succ (Ev.iteF (by have := hf.len; omega) (Ev.iteT (by omega) (Ev.iteT (by have := hf.len; omega) (Ev.val ?_))))
  rw [hx]
  simp
 | succ d ih =>
  intro x i hi hf
  have hw : wrap64 ((i : Int) + 1) = ((i + 1 : Nat) : Int) := by rw [wrap64_id (by omega) (by omega)]; rfl
  refine Ev.succ (Ev.iteT (by have := hf.len; omega) (Ev.ite2 (fun h => Ev.iteT (by omega) ?_) (fun h => ?_)))
  ·
   have hf2 := hf.copy (decide_eq_true h) (getW (z := 0) hf.lo (decide_eq_true h)) rfl
   rw [hw] at hf2
   simp only [hw]
   exact ih _ (i + 1) (by omega) hf2
  ·
   have hnum : pleatref00_num.f 9 (i : Int) = some (markN i) := by
    have : ∃ t, pleatref00_num.f 9 (i : Int) = some t := ⟨_, rfl⟩
    obtain ⟨t, ht⟩ := this
    rw [ht, numW (by omega) (by omega) ht, Int.toNat_natCast]
   have hf2 := hf.mark (decide_eq_false h) (decide_eq_true (by have := hf.len; omega)) rfl rfl
   rw [hw] at hf2
   refine Ev.bind0 hnum (Ev.iteT (by omega) ?_)
   simp only [hw]
   exact ih _ (i + 1) (by omega) hf2
theorem wideLongs_ev {l : List Int} (hl : l.length ≤ 1000000000) : Ev (fun k => pleatref00_WideLongs.f k l) l := by
 unfold pleatref00_WideLongs.f
 have hw : wrap64 ((l.length : Int) + 64) = (l.length : Int) + 64 := wrap64_id (by omega) (by omega)
 simp only [hw]
 refine Ev.iteT (by omega) (Ev.iteT (by omega) ?_)
 exact wideLongs_l hl (l.length + 64) _ 0 (by omega) (FillW.start (by omega) hw (decide_eq_true (by omega)) (decide_eq_true (by omega)) rfl)
theorem wideSymbols_l {l : List S37} (hl : l.length ≤ 1000000000) : ∀ d : Nat, ∀ x : List S37, ∀ i : Nat, i + d = l.length + 64 → FillW l (fun i => (⟨⟨#[]⟩, 0, markN i⟩ : S37)) x (i : Int) → Ev (fun k => pleatref00_WideSymbols.l0 k l x (i : Int)) l := by
 intro d
 induction d with
 | zero =>
  intro x i hi hf
  have hx := hf.done (decide_eq_false (by have := hf.len; omega))
  refine Ev.succ (Ev.iteF (by have := hf.len; omega) (Ev.iteT (by omega) (Ev.iteT (by have := hf.len; omega) (Ev.val ?_))))
  rw [hx]
  simp
 | succ d ih =>
  intro x i hi hf
  have hw : wrap64 ((i : Int) + 1) = ((i + 1 : Nat) : Int) := by rw [wrap64_id (by omega) (by omega)]; rfl
  refine Ev.succ (Ev.iteT (by have := hf.len; omega) (Ev.ite2 (fun h => Ev.iteT (by omega) ?_) (fun h => ?_)))
  ·
   have hf2 := hf.copy (decide_eq_true h) (getW (z := z37) hf.lo (decide_eq_true h)) rfl
   rw [hw] at hf2
   simp only [hw]
   exact ih _ (i + 1) (by omega) hf2
  ·
   have hnum : pleatref00_num.f 9 (i : Int) = some (markN i) := by
    have : ∃ t, pleatref00_num.f 9 (i : Int) = some t := ⟨_, rfl⟩
    obtain ⟨t, ht⟩ := this
    rw [ht, numW (by omega) (by omega) ht, Int.toNat_natCast]
   have hf2 := hf.mark (decide_eq_false h) (decide_eq_true (by have := hf.len; omega)) rfl rfl
   rw [hw] at hf2
   refine Ev.bind0 hnum (Ev.iteT (by omega) ?_)
   simp only [hw]
   exact ih _ (i + 1) (by omega) hf2
theorem wideSymbols_ev {l : List S37} (hl : l.length ≤ 1000000000) : Ev (fun k => pleatref00_WideSymbols.f k l) l := by
 unfold pleatref00_WideSymbols.f
 have hw : wrap64 ((l.length : Int) + 64) = (l.length : Int) + 64 := wrap64_id (by omega) (by omega)
 simp only [hw]
 refine Ev.iteT (by omega) (Ev.iteT (by omega) ?_)
 exact wideSymbols_l hl (l.length + 64) _ 0 (by omega) (FillW.start (by omega) hw (decide_eq_true (by omega)) (decide_eq_true (by omega)) rfl)
theorem wideRelocs_l {l : List S41} (hl : l.length ≤ 1000000000) : ∀ d : Nat, ∀ x : List S41, ∀ i : Nat, i + d = l.length + 64 → FillW l (fun i => (⟨markN i, 0⟩ : S41)) x (i : Int) → Ev (fun k => pleatref00_WideRelocs.l0 k l x (i : Int)) l := by
 intro d
 induction d with
 | zero =>
  intro x i hi hf
  have hx := hf.done (decide_eq_false (by have := hf.len; omega))
  refine Ev.succ (Ev.iteF (by have := hf.len; omega) (Ev.iteT (by omega) (Ev.iteT (by have := hf.len; omega) (Ev.val ?_))))
  rw [hx]
  simp
 | succ d ih =>
  intro x i hi hf
  have hw : wrap64 ((i : Int) + 1) = ((i + 1 : Nat) : Int) := by rw [wrap64_id (by omega) (by omega)]; rfl
  refine Ev.succ (Ev.iteT (by have := hf.len; omega) (Ev.ite2 (fun h => Ev.iteT (by omega) ?_) (fun h => ?_)))
  ·
   have hf2 := hf.copy (decide_eq_true h) (getW (z := z41) hf.lo (decide_eq_true h)) rfl
   rw [hw] at hf2
   simp only [hw]
   exact ih _ (i + 1) (by omega) hf2
  ·
   have hnum : pleatref00_num.f 9 (i : Int) = some (markN i) := by
    have : ∃ t, pleatref00_num.f 9 (i : Int) = some t := ⟨_, rfl⟩
    obtain ⟨t, ht⟩ := this
    rw [ht, numW (by omega) (by omega) ht, Int.toNat_natCast]
   have hf2 := hf.mark (decide_eq_false h) (decide_eq_true (by have := hf.len; omega)) rfl rfl
   rw [hw] at hf2
   refine Ev.bind0 hnum (Ev.iteT (by omega) ?_)
   simp only [hw]
   exact ih _ (i + 1) (by omega) hf2
theorem wideRelocs_ev {l : List S41} (hl : l.length ≤ 1000000000) : Ev (fun k => pleatref00_WideRelocs.f k l) l := by
 unfold pleatref00_WideRelocs.f
 have hw : wrap64 ((l.length : Int) + 64) = (l.length : Int) + 64 := wrap64_id (by omega) (by omega)
 simp only [hw]
 refine Ev.iteT (by omega) (Ev.iteT (by omega) ?_)
 exact wideRelocs_l hl (l.length + 64) _ 0 (by omega) (FillW.start (by omega) hw (decide_eq_true (by omega)) (decide_eq_true (by omega)) rfl)
def smallO (a0_0 : ByteArray) (l0_1 : List Int) (a0_2 : Int) (l0_3 : List Int) (l0_4 : List S37) (l0_5 : List S41) : Bool := decide (l0_1.length ≤ 1000000000) && (decide (l0_3.length ≤ 1000000000) && (decide (l0_4.length ≤ 1000000000) && decide (l0_5.length ≤ 1000000000)))
def pleatref00_WideObject.f (a0_0 : ByteArray) (l0_1 : List Int) (a0_2 : Int) (l0_3 : List Int) (l0_4 : List S37) (l0_5 : List S41) : Option (ByteArray × List Int × Int × List Int × (List S37) × (List S41)) := if smallO a0_0 l0_1 a0_2 l0_3 l0_4 l0_5 = true then some (a0_0, l0_1, a0_2, l0_3, l0_4, l0_5) else none
/-- the lists of an object, each with its marks behind it. -/
structure WideO (W : World) (base : Nat) (v1 v3 v4 v5 : Value) (a0_0 : ByteArray) (l0_1 : List Int) (a0_2 : Int) (l0_3 : List Int) (l0_4 : List S37) (l0_5 : List S41) : Prop where
  w1 : WideC (Kd.int .u32) 42 W base v1 l0_1 (fun i => markN i % 4294967296)
  w3 : WideC (Kd.int .i64) 2 W base v3 l0_3 markN
  w4 : WideC k37 37 W base v4 l0_4 (fun i => (⟨⟨#[]⟩, 0, markN i⟩ : S37))
  w5 : WideC k41 41 W base v5 l0_5 (fun i => (⟨markN i, 0⟩ : S41))
theorem WideO.below {W W1 : World} {base : Nat} {v1 v3 v4 v5 : Value} {l0_1 : List Int} {l0_3 : List Int} {l0_4 : List S37} {l0_5 : List S41} {a0_0 : ByteArray} {a0_2 : Int} (h : WideO W base v1 v3 v4 v5 a0_0 l0_1 a0_2 l0_3 l0_4 l0_5) (hb : Below W.heap.size W W1) : WideO W1 base v1 v3 v4 v5 a0_0 l0_1 a0_2 l0_3 l0_4 l0_5 := ⟨h.w1.below hb, h.w3.below hb, h.w4.below hb, h.w5.below hb⟩
set_option maxHeartbeats 8000000 in
set_option maxRecDepth 100000 in
theorem pleatref00_WideObject.callsW (a0_0 : ByteArray) (A0_1 : Option Addr) (c0_1 : Nat) (l0_1 : List Int) (a0_2 : Int) (A0_3 : Option Addr) (c0_3 : Nat) (l0_3 : List Int) (A0_4 : Option Addr) (c0_4 : Nat) (l0_4 : List (S37)) (A0_5 : Option Addr) (c0_5 : Nat) (l0_5 : List (S41)) (r1 : ByteArray) (r2 : List Int) (r3 : Int) (r4 : List Int) (r5 : List S37) (r6 : List S41) (w : World) (hr0_1 : Kd.C (Kd.int .u32) w A0_1 l0_1.length l0_1) (hc0_1 : l0_1.length ≤ c0_1) (hr0_3 : Kd.C (Kd.int .i64) w A0_3 l0_3.length l0_3) (hc0_3 : l0_3.length ≤ c0_3) (hr0_4 : Kd.C k37 w A0_4 l0_4.length l0_4) (hc0_4 : l0_4.length ≤ c0_4) (hr0_5 : Kd.C k41 w A0_5 l0_5.length l0_5) (hc0_5 : l0_5.length ≤ c0_5) (h : pleatref00_WideObject.f a0_0 l0_1 a0_2 l0_3 l0_4 l0_5 = some (r1, r2, r3, r4, r5, r6)) :
  Calls Try.prog 38 #[.agg #[.string a0_0, .slice A0_1 l0_1.length c0_1, .int .i64 a0_2, .slice A0_3 l0_3.length c0_3, .slice A0_4 l0_4.length c0_4, .slice A0_5 l0_5.length c0_5]] w fun e w' => ∃ v0_ v1_ v2_ v3_ : Value, e = .returned (.agg #[.string r1, v0_, .int .i64 r3, v1_, v2_, v3_]) ∧ Kd.R (Kd.int .u32) 42 w' w.heap.size (fun _ => True) v0_ r2 ∧ Kd.R (Kd.int .i64) 2 w' w.heap.size (fun _ => True) v1_ r4 ∧ Kd.R k37 37 w' w.heap.size (fun _ => True) v2_ r5 ∧ Kd.R k41 41 w' w.heap.size (fun _ => True) v3_ r6 ∧ Below w.heap.size w w' ∧ WideO w' w.heap.size v0_ v1_ v2_ v3_ r1 r2 r3 r4 r5 r6 := by
 have hu1 := Try.underlying27
 unfold pleatref00_WideObject.f at h
 by_cases hs : smallO a0_0 l0_1 a0_2 l0_3 l0_4 l0_5 = true
 ·
  rw [if_pos hs] at h
  have h := Option.some.inj h
  injection h with e1 h
  injection h with e2 h
  injection h with e3 h
  injection h with e4 h
  injection h with e5 e6
  subst e1 e2 e3 e4 e5 e6
  unfold smallO at hs
  simp only [Bool.and_eq_true, decide_eq_true_eq] at hs
  obtain ⟨s1, s3, s4, s5⟩ := hs
  obtain ⟨k1, hk1⟩ := Ev.rounds (wideWords_ev s1)
  obtain ⟨k3, hk3⟩ := Ev.rounds (wideLongs_ev s3)
  obtain ⟨k4, hk4⟩ := Ev.rounds (wideSymbols_ev s4)
  obtain ⟨k5, hk5⟩ := Ev.rounds (wideRelocs_ev s5)
  have K1 := Aside0.mk hk1
  have K3 := Aside0.mk hk3
  have K4 := Aside0.mk hk4
  have K5 := Aside0.mk hk5
  have HR1 := Aside0.mk hr0_1
  have HC1 := Aside0.mk hc0_1
  have HR3 := Aside0.mk hr0_3
  have HC3 := Aside0.mk hc0_3
  have HR4 := Aside0.mk hr0_4
  have HC4 := Aside0.mk hc0_4
  have HR5 := Aside0.mk hr0_5
  have HC5 := Aside0.mk hc0_5
  have HB := Aside0.mk (Below.refl w.heap.size w)
  clear hr0_1 hc0_1 hr0_3 hc0_3 hr0_4 hc0_4 hr0_5 hc0_5 hk1 hk3 hk4 hk5 s1 s3 s4 s5
  go_enter Try.func38, Try.ntmps38
  go_wp2_with (first | ((with_reducible refine gate_dst (N := 1) rfl ?_); refine box_event ?hg (N := 1) ?hd (cs := #[.string a0_0, .slice A0_1 l0_1.length c0_1, .int .i64 a0_2, .slice A0_3 l0_3.length c0_3, .slice A0_4 l0_4.length c0_4, .slice A0_5 l0_5.length c0_5]) (t := 27) ?hr ?_; (case hd => rfl); (case hg => rfl); (case hr => first | (go_simp; done) | (go_simp; rfl)); intro gb hgb w1 BK1 hb1; have GB := Aside0.mk (show w.heap.size ≤ gb by rw [hgb]; exact HB.out.size); have HBn := Aside0.mk (below_then HB.out HB.out.size hb1); have BO := Aside0.mk BK1; clear HB hb1 hgb BK1; have HB := HBn; clear HBn; have hq0 := blk_cell BO.out 0; have hq1 := blk_cell BO.out 1; have hq2 := blk_cell BO.out 2; have hq3 := blk_cell BO.out 3; have hq4 := blk_cell BO.out 4; have hq5 := blk_cell BO.out 5) | ((with_reducible refine gate_dst (N := 2) rfl ?_); refine box_event ?hg (N := 2) ?hd (cs := #[.string (⟨#[]⟩ : ByteArray), .slice none 0 0, .int .i64 0, .slice none 0 0, .slice none 0 0, .slice none 0 0]) (t := 27) ?hr ?_; (case hd => rfl); (case hg => rfl); (case hr => first | (go_simp; done) | (go_simp; rfl)); intro gr hgr w2 BK2 hb2; have GR := Aside0.mk (show w.heap.size ≤ gr by rw [hgr]; exact HB.out.size); have NR := Aside0.mk (show gb < gr by rw [hgr]; exact blk_lt BO.out); have HBn := Aside0.mk (below_then HB.out HB.out.size hb2); have BOn := Aside0.mk (blk_below BO.out hb2); have BR := Aside0.mk BK2; clear HB BO hb2 hgr BK2 hq0 hq1 hq2 hq3 hq4 hq5; have HB := HBn; have BO := BOn; clear HBn BOn; have hq0 := blk_cell BO.out 0; have hq1 := blk_cell BO.out 1; have hq2 := blk_cell BO.out 2; have hq3 := blk_cell BO.out 3; have hq4 := blk_cell BO.out 4; have hq5 := blk_cell BO.out 5) | (go_at_call 50; refine (pleatref00_WideWords.callsW k1 A0_1 c0_1 l0_1 l0_1 _ (Kd.C_below HR1.out HB.out) HC1.out K1.out).mono ?_; rintro e wc1 ⟨v1, rfl, _, hb, hw⟩; have hw := Aside0.mk (hw.lower (base' := w.heap.size) HB.out.size); have HBn := Aside0.mk (below_then HB.out HB.out.size hb); have BOn := Aside0.mk (blk_below BO.out hb); have BRn := Aside0.mk (blk_below BR.out hb); clear HB BO BR hq0 hq1 hq2 hq3 hq4 hq5; have HB := HBn; have BO := BOn; have BR := BRn; have HW1 := hw; clear HBn BOn BRn hw hb; obtain ⟨Ao1, co1, eo1⟩ := HW1.out.slice; subst eo1; have hq0 := blk_cell BO.out 0; have hq1 := blk_cell BO.out 1; have hq2 := blk_cell BO.out 2; have hq3 := blk_cell BO.out 3; have hq4 := blk_cell BO.out 4; have hq5 := blk_cell BO.out 5) | ((with_reducible refine gate_store (t := 22) rfl ?_); refine wpList_store_arr rfl rfl rfl gb 1 _ _ (.slice Ao1 l0_1.length co1) rfl rfl rfl rfl (sizeSlWords _) BO.out (show 1 < 6 by decide) ?_; intro ws1 hp; have HBn := Aside0.mk (hp.below HB.out GB.out); have BOn := Aside0.mk (show ws1.heap[gb]? = some (.cells #[.string a0_0, .slice Ao1 l0_1.length co1, .int .i64 a0_2, .slice A0_3 l0_3.length c0_3, .slice A0_4 l0_4.length c0_4, .slice A0_5 l0_5.length c0_5] 27 (0, 0)) from hp.blk); have BRn := Aside0.mk (blk_grown BR.out (put_grownN hp) (fun e => by have := NR.out; have := Option.some.inj e; omega)); have HW1n := Aside0.mk (HW1.out.put rfl BO.out (by decide) hp); clear HB BO BR hq0 hq1 hq2 hq3 hq4 hq5 hp HW1; have HB := HBn; have BO := BOn; have BR := BRn; clear HBn BOn BRn; have HW1 := HW1n; clear HW1n; have hq0 := blk_cell BO.out 0; have hq1 := blk_cell BO.out 1; have hq2 := blk_cell BO.out 2; have hq3 := blk_cell BO.out 3; have hq4 := blk_cell BO.out 4; have hq5 := blk_cell BO.out 5) | (go_at_call 51; refine (pleatref00_WideLongs.callsW k3 A0_3 c0_3 l0_3 l0_3 _ (Kd.C_below HR3.out HB.out) HC3.out K3.out).mono ?_; rintro e wc3 ⟨v3, rfl, _, hb, hw⟩; have hw := Aside0.mk (hw.lower (base' := w.heap.size) HB.out.size); have HBn := Aside0.mk (below_then HB.out HB.out.size hb); have BOn := Aside0.mk (blk_below BO.out hb); have BRn := Aside0.mk (blk_below BR.out hb); have HW1n := Aside0.mk (HW1.out.below hb); clear HB BO BR hq0 hq1 hq2 hq3 hq4 hq5 HW1; have HW1 := HW1n; clear HW1n; have HB := HBn; have BO := BOn; have BR := BRn; have HW3 := hw; clear HBn BOn BRn hw hb; obtain ⟨Ao3, co3, eo3⟩ := HW3.out.slice; subst eo3; have hq0 := blk_cell BO.out 0; have hq1 := blk_cell BO.out 1; have hq2 := blk_cell BO.out 2; have hq3 := blk_cell BO.out 3; have hq4 := blk_cell BO.out 4; have hq5 := blk_cell BO.out 5) | ((with_reducible refine gate_store (t := 23) rfl ?_); refine wpList_store_arr rfl rfl rfl gb 3 _ _ (.slice Ao3 l0_3.length co3) rfl rfl rfl rfl (sizeSlLongs _) BO.out (show 3 < 6 by decide) ?_; intro ws3 hp; have HBn := Aside0.mk (hp.below HB.out GB.out); have BOn := Aside0.mk (show ws3.heap[gb]? = some (.cells #[.string a0_0, .slice Ao1 l0_1.length co1, .int .i64 a0_2, .slice Ao3 l0_3.length co3, .slice A0_4 l0_4.length c0_4, .slice A0_5 l0_5.length c0_5] 27 (0, 0)) from hp.blk); have BRn := Aside0.mk (blk_grown BR.out (put_grownN hp) (fun e => by have := NR.out; have := Option.some.inj e; omega)); have HW1n := Aside0.mk (HW1.out.put rfl BO.out (by decide) hp); have HW3n := Aside0.mk (HW3.out.put rfl BO.out (by decide) hp); clear HB BO BR hq0 hq1 hq2 hq3 hq4 hq5 hp HW1 HW3; have HB := HBn; have BO := BOn; have BR := BRn; clear HBn BOn BRn; have HW1 := HW1n; clear HW1n; have HW3 := HW3n; clear HW3n; have hq0 := blk_cell BO.out 0; have hq1 := blk_cell BO.out 1; have hq2 := blk_cell BO.out 2; have hq3 := blk_cell BO.out 3; have hq4 := blk_cell BO.out 4; have hq5 := blk_cell BO.out 5) | (go_at_call 52; refine (pleatref00_WideSymbols.callsW k4 A0_4 c0_4 l0_4 l0_4 _ (Kd.C_below HR4.out HB.out) HC4.out K4.out).mono ?_; rintro e wc4 ⟨v4, rfl, _, hb, hw⟩; have hw := Aside0.mk (hw.lower (base' := w.heap.size) HB.out.size); have HBn := Aside0.mk (below_then HB.out HB.out.size hb); have BOn := Aside0.mk (blk_below BO.out hb); have BRn := Aside0.mk (blk_below BR.out hb); have HW1n := Aside0.mk (HW1.out.below hb); have HW3n := Aside0.mk (HW3.out.below hb); clear HB BO BR hq0 hq1 hq2 hq3 hq4 hq5 HW1 HW3; have HW1 := HW1n; clear HW1n; have HW3 := HW3n; clear HW3n; have HB := HBn; have BO := BOn; have BR := BRn; have HW4 := hw; clear HBn BOn BRn hw hb; obtain ⟨Ao4, co4, eo4⟩ := HW4.out.slice; subst eo4; have hq0 := blk_cell BO.out 0; have hq1 := blk_cell BO.out 1; have hq2 := blk_cell BO.out 2; have hq3 := blk_cell BO.out 3; have hq4 := blk_cell BO.out 4; have hq5 := blk_cell BO.out 5) | ((with_reducible refine gate_store (t := 24) rfl ?_); refine wpList_store_arr rfl rfl rfl gb 4 _ _ (.slice Ao4 l0_4.length co4) rfl rfl rfl rfl (sizeSlSymbols _) BO.out (show 4 < 6 by decide) ?_; intro ws4 hp; have HBn := Aside0.mk (hp.below HB.out GB.out); have BOn := Aside0.mk (show ws4.heap[gb]? = some (.cells #[.string a0_0, .slice Ao1 l0_1.length co1, .int .i64 a0_2, .slice Ao3 l0_3.length co3, .slice Ao4 l0_4.length co4, .slice A0_5 l0_5.length c0_5] 27 (0, 0)) from hp.blk); have BRn := Aside0.mk (blk_grown BR.out (put_grownN hp) (fun e => by have := NR.out; have := Option.some.inj e; omega)); have HW1n := Aside0.mk (HW1.out.put rfl BO.out (by decide) hp); have HW3n := Aside0.mk (HW3.out.put rfl BO.out (by decide) hp); have HW4n := Aside0.mk (HW4.out.put rfl BO.out (by decide) hp); clear HB BO BR hq0 hq1 hq2 hq3 hq4 hq5 hp HW1 HW3 HW4; have HB := HBn; have BO := BOn; have BR := BRn; clear HBn BOn BRn; have HW1 := HW1n; clear HW1n; have HW3 := HW3n; clear HW3n; have HW4 := HW4n; clear HW4n; have hq0 := blk_cell BO.out 0; have hq1 := blk_cell BO.out 1; have hq2 := blk_cell BO.out 2; have hq3 := blk_cell BO.out 3; have hq4 := blk_cell BO.out 4; have hq5 := blk_cell BO.out 5) | (go_at_call 53; refine (pleatref00_WideRelocs.callsW k5 A0_5 c0_5 l0_5 l0_5 _ (Kd.C_below HR5.out HB.out) HC5.out K5.out).mono ?_; rintro e wc5 ⟨v5, rfl, _, hb, hw⟩; have hw := Aside0.mk (hw.lower (base' := w.heap.size) HB.out.size); have HBn := Aside0.mk (below_then HB.out HB.out.size hb); have BOn := Aside0.mk (blk_below BO.out hb); have BRn := Aside0.mk (blk_below BR.out hb); have HW1n := Aside0.mk (HW1.out.below hb); have HW3n := Aside0.mk (HW3.out.below hb); have HW4n := Aside0.mk (HW4.out.below hb); clear HB BO BR hq0 hq1 hq2 hq3 hq4 hq5 HW1 HW3 HW4; have HW1 := HW1n; clear HW1n; have HW3 := HW3n; clear HW3n; have HW4 := HW4n; clear HW4n; have HB := HBn; have BO := BOn; have BR := BRn; have HW5 := hw; clear HBn BOn BRn hw hb; obtain ⟨Ao5, co5, eo5⟩ := HW5.out.slice; subst eo5; have hq0 := blk_cell BO.out 0; have hq1 := blk_cell BO.out 1; have hq2 := blk_cell BO.out 2; have hq3 := blk_cell BO.out 3; have hq4 := blk_cell BO.out 4; have hq5 := blk_cell BO.out 5) | ((with_reducible refine gate_store (t := 25) rfl ?_); refine wpList_store_arr rfl rfl rfl gb 5 _ _ (.slice Ao5 l0_5.length co5) rfl rfl rfl rfl (sizeSlRelocs _) BO.out (show 5 < 6 by decide) ?_; intro ws5 hp; have HBn := Aside0.mk (hp.below HB.out GB.out); have BOn := Aside0.mk (show ws5.heap[gb]? = some (.cells #[.string a0_0, .slice Ao1 l0_1.length co1, .int .i64 a0_2, .slice Ao3 l0_3.length co3, .slice Ao4 l0_4.length co4, .slice Ao5 l0_5.length co5] 27 (0, 0)) from hp.blk); have BRn := Aside0.mk (blk_grown BR.out (put_grownN hp) (fun e => by have := NR.out; have := Option.some.inj e; omega)); have HW1n := Aside0.mk (HW1.out.put rfl BO.out (by decide) hp); have HW3n := Aside0.mk (HW3.out.put rfl BO.out (by decide) hp); have HW4n := Aside0.mk (HW4.out.put rfl BO.out (by decide) hp); have HW5n := Aside0.mk (HW5.out.put rfl BO.out (by decide) hp); clear HB BO BR hq0 hq1 hq2 hq3 hq4 hq5 hp HW1 HW3 HW4 HW5; have HB := HBn; have BO := BOn; have BR := BRn; clear HBn BOn BRn; have HW1 := HW1n; clear HW1n; have HW3 := HW3n; clear HW3n; have HW4 := HW4n; clear HW4n; have HW5 := HW5n; clear HW5n; have hq0 := blk_cell BO.out 0; have hq1 := blk_cell BO.out 1; have hq2 := blk_cell BO.out 2; have hq3 := blk_cell BO.out 3; have hq4 := blk_cell BO.out 4; have hq5 := blk_cell BO.out 5) | ((with_reducible refine gate_store (t := 27) rfl ?_); refine wpList_store_whole rfl rfl rfl gr _ #[.string a0_0, .slice Ao1 l0_1.length co1, .int .i64 a0_2, .slice Ao3 l0_3.length co3, .slice Ao4 l0_4.length co4, .slice Ao5 l0_5.length co5] _ rfl rfl BR.out (by kernel_rfl) rfl (obj_one _ _ _ _ _ _ _ _ _ _ _ _ _ _) ?_; intro w9 hp; have HE := Aside0.mk (hp.below HB.out GR.out); have HP := Aside0.mk hp.blk; have HE1 := Aside0.mk (HW1.out.put rfl BR.out (by decide) hp); have HE3 := Aside0.mk (HW3.out.put rfl BR.out (by decide) hp); have HE4 := Aside0.mk (HW4.out.put rfl BR.out (by decide) hp); have HE5 := Aside0.mk (HW5.out.put rfl BR.out (by decide) hp); clear hp))
  refine bodyPost_ret (results_cell_row rfl _ _ gr 27 #[.string a0_0, .slice Ao1 l0_1.length co1, .int .i64 a0_2, .slice Ao3 l0_3.length co3, .slice Ao4 l0_4.length co4, .slice Ao5 l0_5.length co5] (0, 0) _ rfl HP.out Try.underlying27 rfl (by kernel_rfl)) rfl ?_
  exact ⟨_, _, _, _, rfl, HE1.out.R, HE3.out.R, HE4.out.R, HE5.out.R, HE.out, ⟨HE1.out, HE3.out, HE4.out, HE5.out⟩⟩
 ·
  rw [if_neg hs] at h; cases h
theorem pleatref00_WideObject.calls (a0_0 : ByteArray) (A0_1 : Option Addr) (c0_1 : Nat) (l0_1 : List Int) (a0_2 : Int) (A0_3 : Option Addr) (c0_3 : Nat) (l0_3 : List Int) (A0_4 : Option Addr) (c0_4 : Nat) (l0_4 : List (S37)) (A0_5 : Option Addr) (c0_5 : Nat) (l0_5 : List (S41)) (r1 : ByteArray) (r2 : List Int) (r3 : Int) (r4 : List Int) (r5 : List S37) (r6 : List S41) (w : World) (hr0_1 : Kd.C (Kd.int .u32) w A0_1 l0_1.length l0_1) (hc0_1 : l0_1.length ≤ c0_1) (hr0_3 : Kd.C (Kd.int .i64) w A0_3 l0_3.length l0_3) (hc0_3 : l0_3.length ≤ c0_3) (hr0_4 : Kd.C k37 w A0_4 l0_4.length l0_4) (hc0_4 : l0_4.length ≤ c0_4) (hr0_5 : Kd.C k41 w A0_5 l0_5.length l0_5) (hc0_5 : l0_5.length ≤ c0_5) (h : pleatref00_WideObject.f a0_0 l0_1 a0_2 l0_3 l0_4 l0_5 = some (r1, r2, r3, r4, r5, r6)) :
  Calls Try.prog 38 #[.agg #[.string a0_0, .slice A0_1 l0_1.length c0_1, .int .i64 a0_2, .slice A0_3 l0_3.length c0_3, .slice A0_4 l0_4.length c0_4, .slice A0_5 l0_5.length c0_5]] w fun e w' => ∃ v0_ v1_ v2_ v3_ : Value, e = .returned (.agg #[.string r1, v0_, .int .i64 r3, v1_, v2_, v3_]) ∧ Kd.R (Kd.int .u32) 42 w' w.heap.size (fun _ => True) v0_ r2 ∧ Kd.R (Kd.int .i64) 2 w' w.heap.size (fun _ => True) v1_ r4 ∧ Kd.R k37 37 w' w.heap.size (fun _ => True) v2_ r5 ∧ Kd.R k41 41 w' w.heap.size (fun _ => True) v3_ r6 ∧ Below w.heap.size w w' :=
 (pleatref00_WideObject.callsW a0_0 A0_1 c0_1 l0_1 a0_2 A0_3 c0_3 l0_3 A0_4 c0_4 l0_4 A0_5 c0_5 l0_5 r1 r2 r3 r4 r5 r6 w hr0_1 hc0_1 hr0_3 hc0_3 hr0_4 hc0_4 hr0_5 hc0_5 h).mono fun _ _ ⟨a, b, c, d, h1, h2, h3, h4, h5, h6, _⟩ => ⟨a, b, c, d, h1, h2, h3, h4, h5, h6⟩
end Go.Proofs.Ytiaohbbafaaibab.P

/- OWN TEXT: a list of objects with marks behind it, whose objects' own lists have marks too: what its making holds, and what is read of it. -/
namespace Go.Proofs.Ytiaohbbafaaibab.P
open Go.RowKit Go.Maps Go.Proofs.YtiaohbbafaaibabW.PrintWords Go.Proofs.YtiaohbbafaaibabW.PrintLast Go.Proofs.YtiaohbbafaaibabW.PrintMore Go.Proofs.Ytiaohbbafaaibab.Arr Go.Proofs.Ytiaohbbafaaibab.SymM
set_option linter.unusedVariables false
set_option linter.unusedSimpArgs false
def objRow (nm : ByteArray) (v1 : Value) (dat : Int) (v3 v4 v5 : Value) : List Value := [.string nm, v1, .int .i64 dat, v3, v4, v5]
def markO (q : Nat) : ObjT := ⟨⟨#[]⟩, [], markN q, [], [], []⟩
def markRow (q : Nat) : List Value := objRow ⟨#[]⟩ (.slice none 0 0) (markN q) (.slice none 0 0) (.slice none 0 0) (.slice none 0 0)
def WRow (W : World) (base : Nat) (l : List ObjT) (q : Nat) (row : List Value) : Prop :=
 (q < l.length → ∃ v1 v3 v4 v5, row = objRow (ob l q).f0 v1 (ob l q).f2 v3 v4 v5 ∧ WideO W base v1 v3 v4 v5 (ob l q).f0 (ob l q).f1 (ob l q).f2 (ob l q).f3 (ob l q).f4 (ob l q).f5) ∧ (l.length ≤ q → row = markRow q)
theorem WRow.below {W W1 : World} {base q : Nat} {l : List ObjT} {row : List Value} (h : WRow W base l q row) (hb : Below W.heap.size W W1) : WRow W1 base l q row :=
 ⟨fun hq => by obtain ⟨v1, v3, v4, v5, e, hw⟩ := h.1 hq; exact ⟨v1, v3, v4, v5, e, hw.below hb⟩, h.2⟩
theorem WideC.grown {α : Type} {d : Kd α} {e : Nat} {W W1 : World} {base : Nat} {v : Value} {l : List α} {mk : Nat → α} (h : WideC d e W base v l mk) (hE : d.E = []) {g t : Nat} {cs : Array Value} (hb : W.heap[g]? = some (.cells cs t (0, 0))) (hne : e ≠ t) (hg : W.grownBy W1 (some g)) : WideC d e W1 base v l mk := by
 obtain ⟨A, c, rfl, hR⟩ := h
 exact ⟨A, c, rfl, Kd.R_grown1 hR hE hg (Kd.R_ne hR hb hne)⟩
theorem WRow.grown {W W1 : World} {base q g : Nat} {l : List ObjT} {row : List Value} {cs : Array Value} (h : WRow W base l q row) (hb : W.heap[g]? = some (.cells cs 27 (0, 0))) (hg : W.grownBy W1 (some g)) : WRow W1 base l q row :=
  ⟨fun hq => by
    obtain ⟨v1, v3, v4, v5, e, hw⟩ := h.1 hq
    exact ⟨v1, v3, v4, v5, e, hw.w1.grown rfl hb (by decide) hg, hw.w3.grown rfl hb (by decide) hg, hw.w4.grown rfl hb (by decide) hg, hw.w5.grown rfl hb (by decide) hg⟩, h.2⟩
structure WL (w W : World) (gd c : Nat) (l : List ObjT) (rows : List (List Value)) (i : Nat) : Prop where
  low : Below w.heap.size w W
  raw : Kd.R (Kd.raw 6) 27 W w.heap.size (fun _ => True) (.slice (some ⟨gd, 0, none⟩) (l.length + 64) c) rows
  done : ∀ q, q < i → ∀ row, rows[q]? = some row → WRow W w.heap.size l q row
theorem WL.below {w W W1 : World} {gd c i : Nat} {l : List ObjT} {rows : List (List Value)} (h : WL w W gd c l rows i) (hb : Below W.heap.size W W1) : WL w W1 gd c l rows i :=
 ⟨below_then h.low h.low.size hb, Kd.R_below h.raw hb, fun q hq row hr => (h.done q hq row hr).below hb⟩
theorem WL.set {w W W1 : World} {gd c i : Nat} {l : List ObjT} {rows : List (List Value)} {row : List Value} (h : WL w W gd c l rows i) (hi : i < l.length + 64) (hg : W.grownBy W1 (some gd)) (hb : Below w.heap.size w W1)
  (hR : Kd.R (Kd.raw 6) 27 W1 w.heap.size (fun _ => True) (.slice (some ⟨gd, 0, none⟩) (l.length + 64) c) (rows.set i row)) (hrow : WRow W1 w.heap.size l i row) : WL w W1 gd c l (rows.set i row) (i + 1) := by
 refine ⟨hb, hR, fun q hq r hr => ?_⟩
 obtain ⟨cs, hcs⟩ := Kd.R_typed h.raw gd (by simp [Value.ownBlock])
 have hn : l.length + 64 = rows.length := (Kd.R_reads' h.raw).1
 by_cases e : q = i
 ·
  subst e
  rw [List.getElem?_set_self (by omega)] at hr
  rw [← Option.some.inj hr]
  exact hrow
 ·
  rw [List.getElem?_set_ne (Ne.symm e)] at hr
  exact (h.done q (by omega) r hr).grown hcs hg
/-- what is held of such a list once it is made. -/
structure WideL (W : World) (base : Nat) (A : Option Addr) (c : Nat) (l : List ObjT) : Prop where
  cap : l.length + 64 ≤ c
  all : Kd.C k27 W A (l.length + 64) (l ++ marksL markO l.length)
  inn : ∀ q, q < l.length → ∃ ad v1 v3 v4 v5, A = some ad ∧ (∀ (j : Nat) (u : Value), (objRow (ob l q).f0 v1 (ob l q).f2 v3 v4 v5)[j]? = some u → W.cell? (ad.add (q * 6 + j)) = some u) ∧ WideO W base v1 v3 v4 v5 (ob l q).f0 (ob l q).f1 (ob l q).f2 (ob l q).f3 (ob l q).f4 (ob l q).f5
theorem WideL.below {W W1 : World} {base c : Nat} {A : Option Addr} {l : List ObjT} (h : WideL W base A c l) (hb : Below W.heap.size W W1) : WideL W1 base A c l :=
  ⟨h.cap, Kd.C_below h.all hb, fun q hq => by
    obtain ⟨ad, v1, v3, v4, v5, e, hc, hw⟩ := h.inn q hq
    exact ⟨ad, v1, v3, v4, v5, e, fun j u hu => pw_cell_below hb (hc j u hu), hw.below hb⟩⟩
theorem wide_reads {α : Type} {d : Kd α} {e : Nat} {W : World} {base : Nat} {v : Value} {l : List α} {mk : Nat → α} (h : WideC d e W base v l mk) : ∃ A c, v = .slice A l.length c ∧ l.length ≤ c ∧ Kd.C d W A l.length l := Kd.R_reads h.R
theorem nil_C {α : Type} (d : Kd α) (W : World) : Kd.C d W none 0 ([] : List α) := ⟨rfl, by omega, fun h => absurd h (by omega)⟩
theorem WL.finish {w W : World} {gd c : Nat} {l : List ObjT} {rows : List (List Value)} (h : WL w W gd c l rows (l.length + 64)) : WideL W w.heap.size (some ⟨gd, 0, none⟩) c l := by
 obtain ⟨hn, hc, hC⟩ := Kd.R_reads' h.raw
 have hrow : ∀ q, q < l.length + 64 → ∃ row, row.length = 6 ∧ WRow W w.heap.size l q row ∧ ∀ (j : Nat) (u : Value), row[j]? = some u → W.cell? ((⟨gd, 0, none⟩ : Addr).add (q * 6 + j)) = some u := by
  intro q hq
  obtain ⟨ad, e, hcell⟩ := hC.2.2 (by omega)
  have ead := Option.some.inj e
  subst ead
  obtain ⟨cs, h1, ⟨h2, _, _⟩, h3⟩ := hcell q _ (List.getElem?_eq_getElem (by omega))
  refine ⟨rows[q]'(by omega), by rw [← h2]; exact h1, h.done q hq _ (List.getElem?_eq_getElem (by omega)), fun j u hu => ?_⟩
  rw [← h2] at hu
  exact h3 j u hu
 refine ⟨hc, ⟨by rw [List.length_append, marksL_length], by have := hC.2.1; omega, fun _ => ⟨_, rfl, fun j p hj => ?_⟩⟩, fun q hq => ?_⟩
 ·
  have hjl : j < l.length + 64 := by
   have := (List.getElem?_eq_some_iff.1 hj).1
   rw [List.length_append, marksL_length] at this
   exact this
  obtain ⟨row, hl, hw, hcell⟩ := hrow j hjl
  refine ⟨row, hl, ?_, fun i u hu => hcell i u hu⟩
  by_cases hjn : j < l.length
  ·
   obtain ⟨v1, v3, v4, v5, e, hwo⟩ := hw.1 hjn
   rw [List.getElem?_append_left hjn] at hj
   have hp : p = ob l j := by
    unfold ob rd_T27
    rw [Int.toNat_natCast, List.getD_eq_getElem?_getD, hj]
    rfl
   rw [hp, e]
   obtain ⟨A1, c1, e1, l1, g1⟩ := wide_reads hwo.w1
   obtain ⟨A3, c3, e3, l3, g3⟩ := wide_reads hwo.w3
   obtain ⟨A4, c4, e4, l4, g4⟩ := wide_reads hwo.w4
   obtain ⟨A5, c5, e5, l5, g5⟩ := wide_reads hwo.w5
   subst e1 e3 e4 e5
   exact k27_mk W (ob l j) l1 g1 l3 g3 l4 g4 l5 g5
  ·
   have e := hw.2 (by omega)
   rw [List.getElem?_append_right (by omega)] at hj
   have hp : p = markO j := by
    unfold marksL at hj
    rw [List.getElem?_map, List.getElem?_range (by omega)] at hj
    have := Option.some.inj hj
    rw [← this]
    show markO (l.length + (j - l.length)) = markO j
    rw [show l.length + (j - l.length) = j by omega]
   rw [hp, e]
   exact k27_mk W (markO j) (Nat.le_refl 0) (nil_C _ _) (Nat.le_refl 0) (nil_C _ _) (Nat.le_refl 0) (nil_C _ _) (Nat.le_refl 0) (nil_C _ _)
 ·
  obtain ⟨row, hl, hw, hcell⟩ := hrow q (by omega)
  obtain ⟨v1, v3, v4, v5, e, hwo⟩ := hw.1 hq
  refine ⟨_, v1, v3, v4, v5, rfl, fun j u hu => ?_, hwo⟩
  rw [← e] at hu
  exact hcell j u hu
end Go.Proofs.Ytiaohbbafaaibab.P

/- OWN TEXT: what looks at the marks behind the lists of an object: they stand. -/
namespace Go.Proofs.Ytiaohbbafaaibab.P
open Go.RowKit Go.Maps Go.Proofs.YtiaohbbafaaibabW.PrintWords Go.Proofs.YtiaohbbafaaibabW.PrintLast Go.Proofs.YtiaohbbafaaibabW.PrintMore Go.Proofs.Ytiaohbbafaaibab.Arr Go.Proofs.Ytiaohbbafaaibab.MapB
set_option linter.unusedVariables false
set_option linter.unusedSimpArgs false

theorem mark_get {α : Type} {l : List α} {mk : Nat → α} {z : α} {i : Nat} (h0 : l.length ≤ i) (h1 : i < l.length + 64) : (l ++ marksL mk l.length).getD i z = mk i := by
 rw [List.getD_eq_getElem?_getD, List.getElem?_append_right h0, marksL_at _ _ _ (by omega), show l.length + (i - l.length) = i by omega]
 rfl
theorem num_mark {i : Nat} (h : i ≤ 2000000000000000) : pleatref00_num.f 9 (i : Int) = some (markN i) := by
 have : ∃ t, pleatref00_num.f 9 (i : Int) = some t := ⟨_, rfl⟩
 obtain ⟨t, ht⟩ := this
 rw [ht, numW (by omega) (by omega) ht, Int.toNat_natCast]
theorem spareWords_ev {l : List Int} (hl : l.length ≤ 1000000000) : Ev (fun k => pleatref00_SpareWords.l0 k (l ++ marksL (fun i => markN i % 4294967296) l.length) (l.length : Int)) true := by
 have hlen : (l ++ marksL (fun i => markN i % 4294967296) l.length).length = l.length + 64 := by rw [List.length_append, marksL_length]
 have : ∀ d i : Nat, i + d = l.length + 64 → l.length ≤ i → Ev (fun k => pleatref00_SpareWords.l0 k (l ++ marksL (fun i => markN i % 4294967296) l.length) (i : Int)) true := by
  intro d
  induction d with
  | zero => intro i hi h0; exact Ev.succ (Ev.iteF (by omega) (Ev.val rfl))
  | succ d ih =>
   intro i hi h0
   have hw : wrap64 ((i : Int) + 1) = ((i + 1 : Nat) : Int) := by rw [wrap64_id (by omega) (by omega)]; rfl
   have hr : rd (l ++ marksL (fun i => markN i % 4294967296) l.length) (i : Int) = (fun i => markN i % 4294967296) i := by
    unfold rd
    rw [Int.toNat_natCast]
    exact mark_get h0 (by omega)
   refine Ev.succ (Ev.iteT (by omega) (Ev.iteT (by omega) (Ev.bind0 (num_mark (by omega)) (Ev.iteT (by rw [hr]) ?_))))
   simp only [hw]
   exact ih (i + 1) (by omega) (by omega)
 exact this 64 l.length rfl (Nat.le_refl _)
theorem spareLongs_ev {l : List Int} (hl : l.length ≤ 1000000000) : Ev (fun k => pleatref00_SpareLongs.l0 k (l ++ marksL markN l.length) (l.length : Int)) true := by
 have hlen : (l ++ marksL markN l.length).length = l.length + 64 := by rw [List.length_append, marksL_length]
 have : ∀ d i : Nat, i + d = l.length + 64 → l.length ≤ i → Ev (fun k => pleatref00_SpareLongs.l0 k (l ++ marksL markN l.length) (i : Int)) true := by
  intro d
  induction d with
  | zero => intro i hi h0; exact Ev.succ (Ev.iteF (by omega) (Ev.val rfl))
  | succ d ih =>
   intro i hi h0
   have hw : wrap64 ((i : Int) + 1) = ((i + 1 : Nat) : Int) := by rw [wrap64_id (by omega) (by omega)]; rfl
   have hr : rd (l ++ marksL markN l.length) (i : Int) = markN i := by
    unfold rd
    rw [Int.toNat_natCast]
    exact mark_get h0 (by omega)
   refine Ev.succ (Ev.iteT (by omega) (Ev.iteT (by omega) (Ev.bind0 (num_mark (by omega)) (Ev.iteT (by rw [hr]) ?_))))
   simp only [hw]
   exact ih (i + 1) (by omega) (by omega)
 exact this 64 l.length rfl (Nat.le_refl _)
theorem spareSymbols_ev {l : List S37} (hl : l.length ≤ 1000000000) : Ev (fun k => pleatref00_SpareSymbols.l0 k (l ++ marksL (fun i => (⟨⟨#[]⟩, 0, markN i⟩ : S37)) l.length) (l.length : Int)) true := by
 have hlen : (l ++ marksL (fun i => (⟨⟨#[]⟩, 0, markN i⟩ : S37)) l.length).length = l.length + 64 := by rw [List.length_append, marksL_length]
 have : ∀ d i : Nat, i + d = l.length + 64 → l.length ≤ i → Ev (fun k => pleatref00_SpareSymbols.l0 k (l ++ marksL (fun i => (⟨⟨#[]⟩, 0, markN i⟩ : S37)) l.length) (i : Int)) true := by
  intro d
  induction d with
  | zero => intro i hi h0; exact Ev.succ (Ev.iteF (by omega) (Ev.val rfl))
  | succ d ih =>
   intro i hi h0
   have hw : wrap64 ((i : Int) + 1) = ((i + 1 : Nat) : Int) := by rw [wrap64_id (by omega) (by omega)]; rfl
   have hr : rd_T37 (l ++ marksL (fun i => (⟨⟨#[]⟩, 0, markN i⟩ : S37)) l.length) (i : Int) = (fun i => (⟨⟨#[]⟩, 0, markN i⟩ : S37)) i := by
    unfold rd_T37
    rw [Int.toNat_natCast]
    exact mark_get h0 (by omega)
   refine Ev.succ (Ev.iteT (by omega) (Ev.iteT (by omega) (Ev.bind0 (num_mark (by omega)) (Ev.iteT (by rw [hr]; simp) ?_))))
   simp only [hw]
   exact ih (i + 1) (by omega) (by omega)
 exact this 64 l.length rfl (Nat.le_refl _)
theorem spareRelocs_ev {l : List S41} (hl : l.length ≤ 1000000000) : Ev (fun k => pleatref00_SpareRelocs.l0 k (l ++ marksL (fun i => (⟨markN i, 0⟩ : S41)) l.length) (l.length : Int)) true := by
 have hlen : (l ++ marksL (fun i => (⟨markN i, 0⟩ : S41)) l.length).length = l.length + 64 := by rw [List.length_append, marksL_length]
 have : ∀ d i : Nat, i + d = l.length + 64 → l.length ≤ i → Ev (fun k => pleatref00_SpareRelocs.l0 k (l ++ marksL (fun i => (⟨markN i, 0⟩ : S41)) l.length) (i : Int)) true := by
  intro d
  induction d with
  | zero => intro i hi h0; exact Ev.succ (Ev.iteF (by omega) (Ev.val rfl))
  | succ d ih =>
   intro i hi h0
   have hw : wrap64 ((i : Int) + 1) = ((i + 1 : Nat) : Int) := by rw [wrap64_id (by omega) (by omega)]; rfl
   have hr : rd_T41 (l ++ marksL (fun i => (⟨markN i, 0⟩ : S41)) l.length) (i : Int) = (fun i => (⟨markN i, 0⟩ : S41)) i := by
    unfold rd_T41
    rw [Int.toNat_natCast]
    exact mark_get h0 (by omega)
   refine Ev.succ (Ev.iteT (by omega) (Ev.iteT (by omega) (Ev.bind0 (num_mark (by omega)) (Ev.iteT (by rw [hr]; simp) ?_))))
   simp only [hw]
   exact ih (i + 1) (by omega) (by omega)
 exact this 64 l.length rfl (Nat.le_refl _)
def pleatref00_SpareObject.f (a0_0 : ByteArray) (l0_1 : List Int) (a0_2 : Int) (l0_3 : List Int) (l0_4 : List S37) (l0_5 : List S41) : Option Bool := if smallO a0_0 l0_1 a0_2 l0_3 l0_4 l0_5 = true then some true else none
theorem WideC.full {α : Type} {d : Kd α} {e : Nat} {W : World} {base : Nat} {A : Option Addr} {n c : Nat} {l : List α} {mk : Nat → α} (h : WideC d e W base (.slice A n c) l mk) : l.length + 64 ≤ c ∧ Kd.C d W A (l ++ marksL mk l.length).length (l ++ marksL mk l.length) := by
 obtain ⟨A', c', he, hR⟩ := h
 injection he with h1 h2 h3
 subst h1 h3
 obtain ⟨q1, q2, q3⟩ := Kd.R_reads' hR
 refine ⟨q2, ?_⟩
 rw [← q1]
 rw [← q1] at q3
 exact q3
set_option maxHeartbeats 8000000 in
set_option maxRecDepth 100000 in
theorem pleatref00_SpareObject.callsW (a0_0 : ByteArray) (A0_1 : Option Addr) (c0_1 : Nat) (l0_1 : List Int) (a0_2 : Int) (A0_3 : Option Addr) (c0_3 : Nat) (l0_3 : List Int) (A0_4 : Option Addr) (c0_4 : Nat) (l0_4 : List (S37)) (A0_5 : Option Addr) (c0_5 : Nat) (l0_5 : List (S41)) (r : Bool) (w : World) (hr0_1 : Kd.C (Kd.int .u32) w A0_1 l0_1.length l0_1) (hc0_1 : l0_1.length ≤ c0_1) (hr0_3 : Kd.C (Kd.int .i64) w A0_3 l0_3.length l0_3) (hc0_3 : l0_3.length ≤ c0_3) (hr0_4 : Kd.C k37 w A0_4 l0_4.length l0_4) (hc0_4 : l0_4.length ≤ c0_4) (hr0_5 : Kd.C k41 w A0_5 l0_5.length l0_5) (hc0_5 : l0_5.length ≤ c0_5) (h : pleatref00_SpareObject.f a0_0 l0_1 a0_2 l0_3 l0_4 l0_5 = some r) (hx : ∃ base, WideO w base (.slice A0_1 l0_1.length c0_1) (.slice A0_3 l0_3.length c0_3) (.slice A0_4 l0_4.length c0_4) (.slice A0_5 l0_5.length c0_5) a0_0 l0_1 a0_2 l0_3 l0_4 l0_5) :
  Calls Try.prog 48 #[.agg #[.string a0_0, .slice A0_1 l0_1.length c0_1, .int .i64 a0_2, .slice A0_3 l0_3.length c0_3, .slice A0_4 l0_4.length c0_4, .slice A0_5 l0_5.length c0_5]] w fun e w' => e = .returned (.bool r) ∧ Below w.heap.size w w' := by
 have hu1 := Try.underlying27
 unfold pleatref00_SpareObject.f at h
 by_cases hs : smallO a0_0 l0_1 a0_2 l0_3 l0_4 l0_5 = true
 ·
  rw [if_pos hs] at h
  have h := Option.some.inj h
  subst h
  unfold smallO at hs
  simp only [Bool.and_eq_true, decide_eq_true_eq] at hs
  obtain ⟨s1, s3, s4, s5⟩ := hs
  obtain ⟨base, hx⟩ := hx
  obtain ⟨k1, hk1⟩ := Ev.rounds (spareWords_ev s1)
  obtain ⟨k3, hk3⟩ := Ev.rounds (spareLongs_ev s3)
  obtain ⟨k4, hk4⟩ := Ev.rounds (spareSymbols_ev s4)
  obtain ⟨k5, hk5⟩ := Ev.rounds (spareRelocs_ev s5)
  have K1 := Aside0.mk hk1
  have K3 := Aside0.mk hk3
  have K4 := Aside0.mk hk4
  have K5 := Aside0.mk hk5
  have B1 := Aside0.mk (show l0_1.length ≤ 1000000000000000 by omega)
  have B3 := Aside0.mk (show l0_3.length ≤ 1000000000000000 by omega)
  have B4 := Aside0.mk (show l0_4.length ≤ 1000000000000000 by omega)
  have B5 := Aside0.mk (show l0_5.length ≤ 1000000000000000 by omega)
  have HX := Aside0.mk hx
  have HB := Aside0.mk (Below.refl w.heap.size w)
  clear hr0_1 hc0_1 hr0_3 hc0_3 hr0_4 hc0_4 hr0_5 hc0_5 hk1 hk3 hk4 hk5 s1 s3 s4 s5 hx
  go_enter Try.func48, Try.ntmps48
  go_wp2_with (first | ((with_reducible refine gate_dst (N := 1) rfl ?_); refine box_event ?hg (N := 1) ?hd (cs := #[.string a0_0, .slice A0_1 l0_1.length c0_1, .int .i64 a0_2, .slice A0_3 l0_3.length c0_3, .slice A0_4 l0_4.length c0_4, .slice A0_5 l0_5.length c0_5]) (t := 27) ?hr ?_; (case hd => rfl); (case hg => rfl); (case hr => first | (go_simp; done) | (go_simp; rfl)); intro gb hgb w1 BK1 hb1; have HXn := Aside0.mk (HX.out.below hb1); have HBn := Aside0.mk (below_then HB.out HB.out.size hb1); have BO := Aside0.mk (show w1.heap[gb]? = some (objCell a0_0 A0_1 l0_1.length c0_1 a0_2 A0_3 l0_3.length c0_3 A0_4 l0_4.length c0_4 A0_5 l0_5.length c0_5) from BK1); clear HB HX hb1 hgb BK1; have HB := HBn; have HX := HXn; clear HBn HXn; have hq0 := blk_cell BO.out 0; have hq1 := blk_cell BO.out 1; have hq2 := blk_cell BO.out 2; have hq3 := blk_cell BO.out 3; have hq4 := blk_cell BO.out 4; have hq5 := blk_cell BO.out 5) | (go_at_call 60; refine (pleatref00_SpareWords.callsS k1 A0_1 c0_1 l0_1.length (l0_1 ++ marksL (fun i => markN i % 4294967296) l0_1.length) true _ HX.out.w1.full.2 (by rw [List.length_append, marksL_length]) B1.out HX.out.w1.full.1 K1.out rfl).mono ?_; rintro e w7 ⟨rfl, hd⟩; have hb := hd.below; have HXn := Aside0.mk (HX.out.below hb); have HBn := Aside0.mk (below_then HB.out HB.out.size hb); have BOn := Aside0.mk (blk_below BO.out hb); clear HB HX BO hb hq0 hq1 hq2 hq3 hq4 hq5 hd; have HB := HBn; have HX := HXn; have BO := BOn; clear HBn HXn BOn; have hq0 := blk_cell BO.out 0; have hq1 := blk_cell BO.out 1; have hq2 := blk_cell BO.out 2; have hq3 := blk_cell BO.out 3; have hq4 := blk_cell BO.out 4; have hq5 := blk_cell BO.out 5) | (go_at_call 61; refine (pleatref00_SpareLongs.callsS k3 A0_3 c0_3 l0_3.length (l0_3 ++ marksL markN l0_3.length) true _ HX.out.w3.full.2 (by rw [List.length_append, marksL_length]) B3.out HX.out.w3.full.1 K3.out rfl).mono ?_; rintro e w7 ⟨rfl, hd⟩; have hb := hd.below; have HXn := Aside0.mk (HX.out.below hb); have HBn := Aside0.mk (below_then HB.out HB.out.size hb); have BOn := Aside0.mk (blk_below BO.out hb); clear HB HX BO hb hq0 hq1 hq2 hq3 hq4 hq5 hd; have HB := HBn; have HX := HXn; have BO := BOn; clear HBn HXn BOn; have hq0 := blk_cell BO.out 0; have hq1 := blk_cell BO.out 1; have hq2 := blk_cell BO.out 2; have hq3 := blk_cell BO.out 3; have hq4 := blk_cell BO.out 4; have hq5 := blk_cell BO.out 5) | (go_at_call 62; refine (pleatref00_SpareSymbols.callsS k4 A0_4 c0_4 l0_4.length (l0_4 ++ marksL (fun i => (⟨⟨#[]⟩, 0, markN i⟩ : S37)) l0_4.length) true _ HX.out.w4.full.2 (by rw [List.length_append, marksL_length]) B4.out HX.out.w4.full.1 K4.out rfl).mono ?_; rintro e w7 ⟨rfl, hb⟩; have HXn := Aside0.mk (HX.out.below hb); have HBn := Aside0.mk (below_then HB.out HB.out.size hb); have BOn := Aside0.mk (blk_below BO.out hb); clear HB HX BO hb hq0 hq1 hq2 hq3 hq4 hq5; have HB := HBn; have HX := HXn; have BO := BOn; clear HBn HXn BOn; have hq0 := blk_cell BO.out 0; have hq1 := blk_cell BO.out 1; have hq2 := blk_cell BO.out 2; have hq3 := blk_cell BO.out 3; have hq4 := blk_cell BO.out 4; have hq5 := blk_cell BO.out 5) | (go_at_call 63; refine (pleatref00_SpareRelocs.callsS k5 A0_5 c0_5 l0_5.length (l0_5 ++ marksL (fun i => (⟨markN i, 0⟩ : S41)) l0_5.length) true _ HX.out.w5.full.2 (by rw [List.length_append, marksL_length]) B5.out HX.out.w5.full.1 K5.out rfl).mono ?_; rintro e w7 ⟨rfl, hb⟩; have HXn := Aside0.mk (HX.out.below hb); have HBn := Aside0.mk (below_then HB.out HB.out.size hb); have BOn := Aside0.mk (blk_below BO.out hb); clear HB HX BO hb hq0 hq1 hq2 hq3 hq4 hq5; have HB := HBn; have HX := HXn; have BO := BOn; clear HBn HXn BOn; have hq0 := blk_cell BO.out 0; have hq1 := blk_cell BO.out 1; have hq2 := blk_cell BO.out 2; have hq3 := blk_cell BO.out 3; have hq4 := blk_cell BO.out 4; have hq5 := blk_cell BO.out 5))
  go_ret
  exact ⟨rfl, HB.out⟩
 ·
  rw [if_neg hs] at h; cases h
end Go.Proofs.Ytiaohbbafaaibab.P

/- OWN TEXT: pleatref00.SpareObjects, walked: the marks behind a list of objects stand, and those behind each object's lists. -/
namespace Go.Proofs.Ytiaohbbafaaibab.P
open Go.RowKit Go.Maps Go.Proofs.YtiaohbbafaaibabW.PrintWords Go.Proofs.YtiaohbbafaaibabW.PrintLast Go.Proofs.YtiaohbbafaaibabW.PrintMore Go.Proofs.Ytiaohbbafaaibab.Arr Go.Proofs.Ytiaohbbafaaibab.MapB Go.Proofs.Ytiaohbbafaaibab.SymM
set_option linter.unusedVariables false
set_option linter.unusedSimpArgs false
theorem info_objP : (Try.prog.info? 27).map (fun i => (i.zero, i.size, i.bytes)) = some (some (.agg #[(.string ⟨#[]⟩), (.slice none 0 0), (.int .i64 0), (.slice none 0 0), (.slice none 0 0), (.slice none 0 0)]), 6, 120) := by kernel_rfl
theorem wide_reads' {α : Type} {d : Kd α} {e : Nat} {W : World} {base n c : Nat} {A : Option Addr} {l : List α} {mk : Nat → α} (h : WideC d e W base (.slice A n c) l mk) : n = l.length ∧ l.length ≤ c ∧ Kd.C d W A l.length l := by
 obtain ⟨A', c', e, h1, h2⟩ := wide_reads h
 injection e with e1 e2 e3
 subst e1 e3
 exact ⟨e2, h1, h2⟩
/-- an object of such a list: its cells, its lists. -/
structure WObj (W : World) (base : Nat) (ad : Addr) (q : Nat) (x : ObjT) (A1 A3 A4 A5 : Option Addr) (c1 c3 c4 c5 : Nat) : Prop where
  h0 : W.cell? (ad.add (q * 6)) = some (.string x.f0)
  h1 : W.cell? ⟨(ad.add (q * 6)).block, (ad.add (q * 6)).off + 1, none⟩ = some (.slice A1 x.f1.length c1)
  h2 : W.cell? ⟨(ad.add (q * 6)).block, (ad.add (q * 6)).off + 2, none⟩ = some (.int .i64 x.f2)
  h3 : W.cell? ⟨(ad.add (q * 6)).block, (ad.add (q * 6)).off + 3, none⟩ = some (.slice A3 x.f3.length c3)
  h4 : W.cell? ⟨(ad.add (q * 6)).block, (ad.add (q * 6)).off + 4, none⟩ = some (.slice A4 x.f4.length c4)
  h5 : W.cell? ⟨(ad.add (q * 6)).block, (ad.add (q * 6)).off + 5, none⟩ = some (.slice A5 x.f5.length c5)
  w : WideO W base (.slice A1 x.f1.length c1) (.slice A3 x.f3.length c3) (.slice A4 x.f4.length c4) (.slice A5 x.f5.length c5) x.f0 x.f1 x.f2 x.f3 x.f4 x.f5
theorem WideL.obj {W : World} {base c q : Nat} {A : Option Addr} {l : List ObjT} (h : WideL W base A c l) (hq : q < l.length) : ∃ ad A1 A3 A4 A5 c1 c3 c4 c5, A = some ad ∧ WObj W base ad q (ob l q) A1 A3 A4 A5 c1 c3 c4 c5 := by
 obtain ⟨ad, v1, v3, v4, v5, e, hc, hw⟩ := h.inn q hq
 obtain ⟨A1, c1, e1⟩ := hw.w1.slice
 obtain ⟨A3, c3, e3⟩ := hw.w3.slice
 obtain ⟨A4, c4, e4⟩ := hw.w4.slice
 obtain ⟨A5, c5, e5⟩ := hw.w5.slice
 subst e1 e3 e4 e5
 exact ⟨ad, A1, A3, A4, A5, c1, c3, c4, c5, e, hc 0 _ rfl, by rw [← add_field _ _ 1 (by omega)]; exact hc 1 _ rfl, by rw [← add_field _ _ 2 (by omega)]; exact hc 2 _ rfl, by rw [← add_field _ _ 3 (by omega)]; exact hc 3 _ rfl, by rw [← add_field _ _ 4 (by omega)]; exact hc 4 _ rfl, by rw [← add_field _ _ 5 (by omega)]; exact hc 5 _ rfl, hw⟩
theorem mark_ob {l : List ObjT} {i : Nat} (h0 : l.length ≤ i) (h1 : i < l.length + 64) : rd_T27 (l ++ marksL markO l.length) (i : Int) = markO i := by
 unfold rd_T27
 rw [Int.toNat_natCast]
 exact mark_get h0 h1
set_option maxHeartbeats 8000000 in
set_option maxRecDepth 100000 in
theorem spareL.calls (A0 : Option Addr) (c0 : Nat) (l0 : List ObjT) (w : World) (base : Nat) (hx : WideL w base A0 c0 l0) (hl : l0.length ≤ 64) (hsm : ∀ p, p < l0.length → smallO (ob l0 p).f0 (ob l0 p).f1 (ob l0 p).f2 (ob l0 p).f3 (ob l0 p).f4 (ob l0 p).f5 = true) :
  Calls Try.prog 22 #[.slice A0 l0.length c0] w fun e w' => e = .returned (.bool true) ∧ Below w.heap.size w w' := by
 have hu1 := Try.underlying27
 obtain ⟨N, hN⟩ : ∃ N, N = l0.length + 64 := ⟨_, rfl⟩
 obtain ⟨ji2, hji2⟩ : ∃ j_ : Int, (wrap64 ((l0.length : Int) + 64)) = j_ := ⟨_, rfl⟩
 have hjv : ji2 = (N : Int) := by rw [← hji2, wrap64_id (by omega) (by omega), hN]; omega
 have hji2w : (IntKind.i64.wrap ((l0.length : Int) + 64)) = ji2 := (i64_w _).trans hji2
 have c3b0 := eq_true (show 0 ≤ ji2 by omega)
 obtain ⟨i0_, hi05, _, _, _⟩ := info_parts info_objP
 have hcut5 := cut_wide (P := Try.prog) 44 27 .i64 Try.underlying44 hi05 A0 l0.length c0 ji2 (by omega) (by have := hx.cap; omega)
 rw [show ji2.toNat = N by omega] at hcut5
 have HN := Aside0.mk hN
 have HX := Aside0.mk hx
 have HSM := Aside0.mk hsm
 have H64 := Aside0.mk hl
 have HB := Aside0.mk (Below.refl w.heap.size w)
 clear hx hsm hl hN hjv hi05
 go_enter Try.func22, Try.ntmps22
 go_wp2
 clear hcut5 c3b0 hji2w hji2
 repeat (go_quiet (fail); try go_wp2)
 go_loopw [4] (fun u4 wr => ∃ i : Nat, u4 = .int .i64 (i : Int) ∧ l0.length ≤ i ∧ i ≤ N ∧ Aside0 (Below w.heap.size w wr)) (fun u4 _ => N - (intOf u4).toNat)
 case atStart => exact ⟨l0.length, rfl, Nat.le_refl _, by have := HN.out; omega, ⟨by repeat (first | (with_reducible first | exact HB.out | apply below_alloc | apply pw_below_drewN | apply below_drew1) | exact HB.out)⟩⟩
 case round =>
  clear HB
  obtain ⟨i, rfl, hlo, hile, HB⟩ := hrel
  by_cases hlt : i < N
  ·
   have p0 : (0 : Int) ≤ (i : Int) := by omega
   have q0 : (i : Int) < ((l0.length + 64 : Nat) : Int) := by rw [← HN.out]; omega
   obtain ⟨ad, A1, c1, A3, c3, A4, c4, A5, c5, eA, hx0, hx1, hx2, hx3, hx4, hx5, _⟩ := at_T27 HX.out.all (i : Int) p0 q0
   subst eA
   rw [show ((i : Int)).toNat = i by omega] at hx0 hx1 hx2 hx3 hx4 hx5
   rw [mark_ob hlo (by have := HN.out; omega)] at hx0 hx1 hx2 hx3 hx4 hx5
   replace hx0 := pw_cell_below HB.out hx0
   replace hx1 := pw_cell_below HB.out hx1
   replace hx2 := pw_cell_below HB.out hx2
   replace hx3 := pw_cell_below HB.out hx3
   replace hx4 := pw_cell_below HB.out hx4
   replace hx5 := pw_cell_below HB.out hx5
   rw [show (markO i).f0 = ⟨#[]⟩ from rfl] at hx0
   rw [show (markO i).f1.length = 0 from rfl] at hx1
   rw [show (markO i).f2 = markN i from rfl] at hx2
   rw [show (markO i).f3.length = 0 from rfl] at hx3
   rw [show (markO i).f4.length = 0 from rfl] at hx4
   rw [show (markO i).f5.length = 0 from rfl] at hx5
   have NF := Aside0.mk (show pleatref00_num.f 9 (i : Int) = some (markN i) from num_mark (by have := H64.out; have := HN.out; omega))
   have qn : ((i : Int) < (N : Int)) = True := eq_true (by omega)
   have hltb : decide ((i : Int) < (N : Int)) = true := decide_eq_true (by omega)
   have HLT := Aside0.mk hlt
   have HLO := Aside0.mk hlo
   have HWR := Aside0.mk (show wrap64 ((i : Int) + 1) = ((i + 1 : Nat) : Int) by rw [wrap64_id (by have := HN.out; have := H64.out; omega) (by have := HN.out; have := H64.out; omega)]; rfl)
   have p0t := eq_true p0
   have eqm : (markN i == markN i) = true := beq_iff_eq.mpr rfl
   clear hlt hile hlo p0 q0
   go_wp2_with (first | ((with_reducible refine gate_dst (N := 5) rfl ?_); refine box_event ?hg (N := 5) ?hd (cs := #[.string (⟨#[]⟩ : ByteArray), .slice none 0 0, .int .i64 0, .slice none 0 0, .slice none 0 0, .slice none 0 0]) (t := 27) ?hr ?_; (case hd => rfl); (case hg => rfl); (case hr => first | (go_simp; done) | (go_simp; rfl)); intro gb hg_ w10 BK_ hb_; have hgb : w.heap.size ≤ gb := (by rw [hg_]; exact HB.out.size); have GE := Aside0.mk hgb; have HBn := Aside0.mk (below_then HB.out HB.out.size hb_); have BK := Aside0.mk BK_; replace hx0 := pw_cell_below hb_ hx0; replace hx1 := pw_cell_below hb_ hx1; replace hx2 := pw_cell_below hb_ hx2; replace hx3 := pw_cell_below hb_ hx3; replace hx4 := pw_cell_below hb_ hx4; replace hx5 := pw_cell_below hb_ hx5; clear HB hb_ BK_ hg_ hgb; have HB := HBn; clear HBn) | ((with_reducible refine gate_store (t := 27) rfl ?_); refine wpList_store_whole rfl rfl rfl gb _ #[.string (⟨#[]⟩ : ByteArray), .slice A1 0 c1, .int .i64 (markN i), .slice A3 0 c3, .slice A4 0 c4, .slice A5 0 c5] _ rfl rfl BK.out (by kernel_rfl) rfl ((obj_oneS _ _ _ _ _ _ _ _ _ _ _ _ _ _)) ?_; intro w11 hp_; have HBn := Aside0.mk (hp_.below HB.out GE.out); have BO := Aside0.mk hp_.blk; clear HB BK hp_ hx0 hx1 hx2 hx3 hx4 hx5; have HB := HBn; clear HBn; have hq1 := blk_cell BO.out 1; have hq2 := blk_cell BO.out 2))
   repeat (go_quiet ((go_at_call 39; (with_reducible refine (pleatref00_num.calls 9 (i : Int) (markN i) _ NF.out).mono ?_); rintro e w' ⟨rfl, ⟨nd, rfl⟩⟩; (try first | exact ⟨rfl, _, World.drewN_drewN _ _ _⟩ | exact ⟨rfl, _, Eq.trans (World.drewN_drewN _ _ _) (congrArg (World.drewN _) (Nat.add_assoc _ _ _))⟩))); try go_wp2)
   go_roundw
   case measure => have hq := HLT.out; (try rw [HWR.out]); simp only [intOf]; omega
   case rel => exact ⟨i + 1, by first | rfl | (rw [HWR.out]; done), by have := HLO.out; omega, by have := HLT.out; omega, ⟨by repeat (first | (with_reducible first | exact HB.out | apply below_alloc | apply pw_below_drewN | apply below_drew1) | exact HB.out)⟩⟩
  ·
   have hi0 : i = N := by omega
   subst hi0
   have hltb : decide ((i : Int) < (i : Int)) = false := by simp
   clear hlt hile hlo
   go_wp2
   go_loopw [6] (fun u6 wr => ∃ p : Nat, u6 = .int .i64 (p : Int) ∧ p ≤ l0.length ∧ Aside0 (Below w.heap.size w wr)) (fun u6 _ => l0.length - (intOf u6).toNat)
   case atStart => exact ⟨0, rfl, Nat.zero_le _, HB⟩
   case round =>
    clear HB hltb
    obtain ⟨p, rfl, hple, HB⟩ := hrel
    by_cases hlt : p < l0.length
    ·
     obtain ⟨ad, A1, A3, A4, A5, c1, c3, c4, c5, eA, HW⟩ := HX.out.obj hlt
     subst eA
     have hx0 := pw_cell_below HB.out HW.h0
     have hx1 := pw_cell_below HB.out HW.h1
     have hx2 := pw_cell_below HB.out HW.h2
     have hx3 := pw_cell_below HB.out HW.h3
     have hx4 := pw_cell_below HB.out HW.h4
     have hx5 := pw_cell_below HB.out HW.h5
     have HWO := Aside0.mk HW.w
     have HF := Aside0.mk (show pleatref00_SpareObject.f (ob l0 p).f0 (ob l0 p).f1 (ob l0 p).f2 (ob l0 p).f3 (ob l0 p).f4 (ob l0 p).f5 = some true by unfold pleatref00_SpareObject.f; rw [if_pos (HSM.out p hlt)])
     have p0t : ((0 : Int) ≤ (p : Int)) = True := eq_true (by omega)
     have q0t : ((p : Int) < (l0.length : Int)) = True := eq_true (by omega)
     have hltb : decide ((p : Int) < (l0.length : Int)) = true := decide_eq_true (by omega)
     have HLT := Aside0.mk hlt
     have HWR := Aside0.mk (show wrap64 ((p : Int) + 1) = ((p + 1 : Nat) : Int) by rw [wrap64_id (by have := H64.out; omega) (by have := H64.out; omega)]; rfl)
     clear hlt hple HW
     go_wp2_with (first | (go_at_call 48; refine (pleatref00_SpareObject.callsW _ _ _ _ _ _ _ _ _ _ _ _ _ _ true _ (Kd.C_below (wide_reads' HWO.out.w1).2.2 HB.out) (wide_reads' HWO.out.w1).2.1 (Kd.C_below (wide_reads' HWO.out.w3).2.2 HB.out) (wide_reads' HWO.out.w3).2.1 (Kd.C_below (wide_reads' HWO.out.w4).2.2 HB.out) (wide_reads' HWO.out.w4).2.1 (Kd.C_below (wide_reads' HWO.out.w5).2.2 HB.out) (wide_reads' HWO.out.w5).2.1 HF.out ⟨_, HWO.out.below HB.out⟩).mono ?_; rintro e_ w7 ⟨rfl, hb_⟩; have HBn := Aside0.mk (below_then HB.out HB.out.size hb_); clear HB hb_; have HB := HBn; clear HBn))
     go_roundw
     case measure => have hq := HLT.out; (try rw [HWR.out]); simp only [intOf]; omega
     case rel => exact ⟨p + 1, by first | rfl | (rw [HWR.out]; done), by have := HLT.out; omega, HB⟩
    ·
     have hp0 : p = l0.length := by omega
     subst hp0
     have hltb : decide ((l0.length : Int) < (l0.length : Int)) = false := by simp
     clear hlt hple
     go_wp2
     go_ret
     exact ⟨rfl, HB.out⟩
end Go.Proofs.Ytiaohbbafaaibab.P

/- OWN TEXT: pleatref00.WideObjects, walked: a list of objects with marks behind it, each object's lists with theirs. -/
namespace Go.Proofs.Ytiaohbbafaaibab.P
open Go.RowKit Go.Maps Go.Proofs.YtiaohbbafaaibabW.PrintWords Go.Proofs.YtiaohbbafaaibabW.PrintLast Go.Proofs.YtiaohbbafaaibabW.PrintMore Go.Proofs.Ytiaohbbafaaibab.Arr Go.Proofs.Ytiaohbbafaaibab.SymM
set_option linter.unusedVariables false
set_option linter.unusedSimpArgs false
theorem info_objW : (Try.prog.info? 27).map (fun i => (i.zero, i.size, i.bytes)) = some (some (.agg #[(.string ⟨#[]⟩), (.slice none 0 0), (.int .i64 0), (.slice none 0 0), (.slice none 0 0), (.slice none 0 0)]), 6, 120) := by kernel_rfl
def zeroRow : List Value := [.string ⟨#[]⟩, .slice none 0 0, .int .i64 0, .slice none 0 0, .slice none 0 0, .slice none 0 0]
theorem raw_M {W : World} {base : Nat} {ok : Nat → Prop} {row : List Value} (h1 : row.length = 6) (h2 : ∀ u ∈ row, u.oneCell' = true) : (Kd.raw 6).M W base ok row row := ⟨rfl, h1, h2⟩
theorem seg6 {c row : List Value} (hc : c.length = 6) (hr : row.length = 6) : c.take 0 ++ row ++ c.drop (0 + row.length) = row := by
 rw [hr, List.take_zero, List.nil_append, List.drop_eq_nil_of_le (by omega), List.append_nil]
theorem wideO_slices {W : World} {base : Nat} {v1 v3 v4 v5 : Value} {nm : ByteArray} {l1 : List Int} {dat : Int} {l3 : List Int} {l4 : List Sym} {l5 : List (S41)} (h : WideO W base v1 v3 v4 v5 nm l1 dat l3 l4 l5) : ∃ A1 c1 A3 c3 A4 c4 A5 c5, v1 = .slice A1 l1.length c1 ∧ v3 = .slice A3 l3.length c3 ∧ v4 = .slice A4 l4.length c4 ∧ v5 = .slice A5 l5.length c5 := by
 obtain ⟨A1, c1, e1⟩ := h.w1.slice
 obtain ⟨A3, c3, e3⟩ := h.w3.slice
 obtain ⟨A4, c4, e4⟩ := h.w4.slice
 obtain ⟨A5, c5, e5⟩ := h.w5.slice
 exact ⟨A1, c1, A3, c3, A4, c4, A5, c5, e1, e3, e4, e5⟩
theorem WideO.lower {W : World} {base base' : Nat} {v1 v3 v4 v5 : Value} {nm : ByteArray} {l1 : List Int} {dat : Int} {l3 : List Int} {l4 : List Sym} {l5 : List (S41)} (h : WideO W base v1 v3 v4 v5 nm l1 dat l3 l4 l5) (hb : base' ≤ base) : WideO W base' v1 v3 v4 v5 nm l1 dat l3 l4 l5 := ⟨h.w1.lower hb, h.w3.lower hb, h.w4.lower hb, h.w5.lower hb⟩
theorem WL.store {w W W1 : World} {gd c i : Nat} {l : List ObjT} {rows : List (List Value)} {row : List Value} (h : WL w W gd c l rows i) (hi : i < l.length + 64) (hrow : WRow W w.heap.size l i row) (hg : W.grownBy W1 (some gd)) (hb : Below w.heap.size w W1)
  (hR : Kd.R (Kd.raw 6) 27 W1 w.heap.size (fun _ => True) (.slice (some ⟨gd, 0, none⟩) (l.length + 64) c) (rows.set ((i : Int)).toNat row)) : WL w W1 gd c l (rows.set i row) (i + 1) := by
 obtain ⟨cs, hcs⟩ := Kd.R_typed h.raw gd (by simp [Value.ownBlock])
 exact h.set hi hg hb hR (hrow.grown hcs hg)
theorem one6 {nm : ByteArray} {A1 A3 A4 A5 : Option Addr} {n1 c1 n3 c3 n4 c4 n5 c5 : Nat} {dat : Int} : ∀ u ∈ objRow nm (.slice A1 n1 c1) dat (.slice A3 n3 c3) (.slice A4 n4 c4) (.slice A5 n5 c5), u.oneCell' = true := by
 intro u hu
 simp only [objRow, List.mem_cons, List.not_mem_nil, or_false] at hu
 rcases hu with rfl | rfl | rfl | rfl | rfl | rfl <;> rfl
set_option maxHeartbeats 8000000 in
set_option maxRecDepth 100000 in
theorem wideL.calls (A0 : Option Addr) (c0 : Nat) (l0 : List ObjT) (w : World) (hr0 : Kd.C k27 w A0 l0.length l0) (hl : l0.length ≤ 64) (hsm : ∀ p, p < l0.length → smallO (ob l0 p).f0 (ob l0 p).f1 (ob l0 p).f2 (ob l0 p).f3 (ob l0 p).f4 (ob l0 p).f5 = true) :
  Calls Try.prog 15 #[.slice A0 l0.length c0] w fun e w' => ∃ A c, e = .returned (.slice A l0.length c) ∧ WideL w' w.heap.size A c l0 ∧ Below w.heap.size w w' := by
 have hu1 := Try.underlying27
 have HR := Aside0.mk hr0
 have HSM := Aside0.mk hsm
 have H64 := Aside0.mk hl
 clear hr0 hsm hl
 go_enter Try.func15, Try.ntmps15
 go_wp2_with (first | ((with_reducible refine gate_dst (N := 8) rfl ?_); refine Kd.R_make (Kd.raw 6) w.heap.size 27 rfl (N := 8) rfl 44 _ _ rfl _ rfl rfl Try.underlying44 (.agg #[(.string ⟨#[]⟩), (.slice none 0 0), (.int .i64 0), (.slice none 0 0), (.slice none 0 0), (.slice none 0 0)]) 120 info_objW rfl (by decide) (by omega) zeroRow (ok := fun _ => True) (okp := fun _ => True) ?hz (fun _ hk => hk) trivial ?h0 ?hl (Below.refl _ _) (Nat.le_refl _) ?_; (case hz => exact ⟨rfl, rfl, by decide⟩); (case h0 => have := H64.out; (first | omega | (rw [i64_w, wrap64_id (by omega) (by omega)]; omega) | (rw [wrap64_id (by omega) (by omega)]; omega))); (case hl => have := H64.out; (first | omega | (rw [i64_w, wrap64_id (by omega) (by omega)]; omega) | (rw [wrap64_id (by omega) (by omega)]; omega))); intro v1 w1 ho hb hg_ hnew_; clear hg_; rw [show (wrap64 ((l0.length : Int) + 64)).toNat = l0.length + 64 by have := H64.out; rw [wrap64_id (by omega) (by omega)]; omega] at ho; obtain ⟨A2, c2, ev⟩ := Kd.R_slice ho; subst ev; obtain ⟨gd0, hgd, _⟩ := hnew_; obtain ⟨g2, rfl⟩ : ∃ g2, A2 = some g2 := (by cases A2 with | none => (simp [Value.ownBlock] at hgd) | some g2 => exact ⟨g2, rfl⟩); obtain ⟨gd, rfl⟩ := Kd.R_head ho; clear hgd; rw [List.length_replicate] at ho ⊢; have HL := Aside0.mk (show WL w w1 gd c2 l0 (List.replicate (l0.length + 64) zeroRow) 0 from ⟨hb, ho, fun q h => absurd h (Nat.not_lt_zero _)⟩); obtain ⟨N, hN⟩ : ∃ N, N = l0.length + 64 := ⟨_, rfl⟩; rw [← hN]; have HN := Aside0.mk hN; clear hN ho hb))
 obtain ⟨rows0, hrows0⟩ : ∃ rows0, List.replicate (l0.length + 64) zeroRow = rows0 := ⟨_, rfl⟩
 have hl0 := HL.out
 rw [hrows0] at hl0
 clear HL hrows0
 have HL := Aside0.mk hl0
 clear hl0
 go_loopw [4] (fun u4 wr => ∃ (i : Nat) (rows : List (List Value)), u4 = .int .i64 (i : Int) ∧ i ≤ N ∧ Aside0 (WL w wr gd c2 l0 rows i)) (fun u4 _ => N - (intOf u4).toNat)
 case atStart => exact ⟨0, rows0, rfl, Nat.zero_le _, HL⟩
 case round =>
  clear HL
  obtain ⟨i, rows, rfl, hile, HL⟩ := hrel
  by_cases hlt : i < N
  ·
   have p0 : (0 : Int) ≤ (i : Int) := by omega
   have qn : ((i : Int) < (N : Int)) = True := eq_true (by omega)
   have hltb : decide ((i : Int) < (N : Int)) = true := decide_eq_true (by omega)
   have HLT := Aside0.mk hlt
   have HWR := Aside0.mk (show wrap64 ((i : Int) + 1) = ((i + 1 : Nat) : Int) by rw [wrap64_id (by have := HN.out; have := H64.out; omega) (by have := HN.out; have := H64.out; omega)]; rfl)
   clear hlt hile
   have hi64 : i < l0.length + 64 := by rw [← HN.out]; exact HLT.out
   obtain ⟨ce, hcl, _, hcc, hcf⟩ := Kd.R_elem HL.out.raw ([] : List Value) (i : Int) (by omega) (by omega)
   rw [show ((i : Int)).toNat = i by omega] at hcc hcf
   have HCE := Aside0.mk (And.intro hcl hcc)
   clear hcl hcc hcf
   by_cases hin : i < l0.length
   ·
    have q0 : (i : Int) < (l0.length : Int) := by omega
    obtain ⟨ad, A1, c1, A3, c3, A4, c4, A5, c5, eA, hx0, hx1, hx2, hx3, hx4, hx5, hL1, hC1, hL3, hC3, hL4, hC4, hL5, hC5⟩ := at_T27 HR.out (i : Int) p0 q0
    subst eA
    rw [show ((i : Int)).toNat = i by omega] at hx0 hx1 hx2 hx3 hx4 hx5
    rw [show rd_T27 l0 (i : Int) = ob l0 i from rfl] at hx0 hx1 hx2 hx3 hx4 hx5 hL1 hC1 hL3 hC3 hL4 hC4 hL5 hC5
    have hy0 := pw_cell_below HL.out.low hx0
    have hy1 := pw_cell_below HL.out.low hx1
    have hy2 := pw_cell_below HL.out.low hx2
    have hy3 := pw_cell_below HL.out.low hx3
    have hy4 := pw_cell_below HL.out.low hx4
    have hy5 := pw_cell_below HL.out.low hx5
    clear hx0 hx1 hx2 hx3 hx4 hx5
    have HF := Aside0.mk (show pleatref00_WideObject.f (ob l0 i).f0 (ob l0 i).f1 (ob l0 i).f2 (ob l0 i).f3 (ob l0 i).f4 (ob l0 i).f5 = some ((ob l0 i).f0, (ob l0 i).f1, (ob l0 i).f2, (ob l0 i).f3, (ob l0 i).f4, (ob l0 i).f5) by unfold pleatref00_WideObject.f; rw [if_pos (HSM.out i hin)])
    have C1 := Aside0.mk (And.intro hL1 hC1)
    have C3 := Aside0.mk (And.intro hL3 hC3)
    have C4 := Aside0.mk (And.intro hL4 hC4)
    have C5 := Aside0.mk (And.intro hL5 hC5)
    clear hL1 hC1 hL3 hC3 hL4 hC4 hL5 hC5
    have hinb : decide ((i : Int) < (l0.length : Int)) = true := decide_eq_true (by omega)
    have HIN := Aside0.mk hin
    have p0t := eq_true p0
    have q0t := eq_true q0
    clear p0 q0 hin
    go_wp2_with (first | (go_at_call 38; refine (pleatref00_WideObject.callsW _ _ _ _ _ _ _ _ _ _ _ _ _ _ _ _ _ _ _ _ _ (Kd.C_below C1.out.2 HL.out.low) C1.out.1 (Kd.C_below C3.out.2 HL.out.low) C3.out.1 (Kd.C_below C4.out.2 HL.out.low) C4.out.1 (Kd.C_below C5.out.2 HL.out.low) C5.out.1 HF.out).mono ?_; rintro e_ w2 ⟨u1, u3, u4, u5, rfl, _, _, _, _, hb, hwo⟩; obtain ⟨B1, d1, B3, d3, B4, d4, B5, d5, rfl, rfl, rfl, rfl⟩ := wideO_slices hwo; have HWO := Aside0.mk (hwo.lower HL.out.low.size); have HLn := Aside0.mk (HL.out.below hb); have HCn := Aside0.mk (show ce.length = 6 ∧ ∀ j u, ce[j]? = some u → w2.cell? ⟨gd, i * 6 + j, none⟩ = some u from ⟨HCE.out.1, fun j u hu => pw_cell_below hb (HCE.out.2 j u hu)⟩); clear HL HCE hwo hb; have HL := HLn; have HCE := HCn; clear HLn HCn) | ((with_reducible refine gate_store (t := 27) rfl ?_); refine Kd.R_store (Kd.raw 6) (w0 := w) w.heap.size rfl rfl 27 _ _ rfl 27 (i : Int) 0 rows (objRow (ob l0 i).f0 (.slice B1 (ob l0 i).f1.length d1) (ob l0 i).f2 (.slice B3 (ob l0 i).f3.length d3) (.slice B4 (ob l0 i).f4.length d4) (.slice B5 (ob l0 i).f5.length d5)) _ (objRow (ob l0 i).f0 (.slice B1 (ob l0 i).f1.length d1) (ob l0 i).f2 (.slice B3 (ob l0 i).f3.length d3) (.slice B4 (ob l0 i).f4.length d4) (.slice B5 (ob l0 i).f5.length d5)) ce (fun _ => True) (fun _ => False) rfl ?hoff rfl rfl ?hti ?hone HL.out.raw ?hz0 ?hzn HCE.out.1 ?hcc ?hjl ?hM (fun _ hk => hk.elim) HL.out.low ?_; (case hoff => (show _ = ((i : Int)).toNat * 6 + 0; omega)); (case hti => kernel_rfl); (case hone => exact one6); (case hz0 => omega); (case hzn => omega); (case hcc => exact fun j u hu => HCE.out.2 j u hu); (case hjl => (show 0 + 6 ≤ 6; omega)); (case hM => (rw [seg6 HCE.out.1 rfl]; exact raw_M rfl one6)); intro w3 hR hb hg; have HLn := Aside0.mk (HL.out.store hi64 ⟨fun _ => ⟨_, _, _, _, rfl, HWO.out⟩, fun h => absurd h (by have := HIN.out; omega)⟩ hg hb hR); clear HL HCE hR hb hg; have HL := HLn; clear HLn))
    go_roundw
    case measure => have hq := HLT.out; (try rw [HWR.out]); simp only [intOf]; omega
    case rel => exact ⟨i + 1, _, by first | rfl | (rw [HWR.out]; done), by have := HLT.out; omega, HL⟩
   ·
    have hinb : decide ((i : Int) < (l0.length : Int)) = false := decide_eq_false (by omega)
    have hinbn : decide (i < l0.length) = false := decide_eq_false hin
    have HIN := Aside0.mk hin
    clear hin p0
    go_wp2_with (first | (go_at_call 39; refine (pleatref00_num.calls 9 (i : Int) (markN i) _ (show pleatref00_num.f 9 (i : Int) = some (markN i) by unfold pleatref00_num.f markN; have := H64.out; have := HN.out; have := HLT.out; rw [wrap64_id (x := 1048576 * 9) (by omega) (by omega), wrap64_id (x := 1048576 * 9 + (i : Int)) (by omega) (by omega), wrap64_id (by omega) (by omega)]; congr 1; omega)).mono ?_; rintro e_ w2 ⟨rfl, hd⟩; have HLn := Aside0.mk (HL.out.below hd.below); have HCn := Aside0.mk (show ce.length = 6 ∧ ∀ j u, ce[j]? = some u → w2.cell? ⟨gd, i * 6 + j, none⟩ = some u from ⟨HCE.out.1, fun j u hu => pw_cell_below hd.below (HCE.out.2 j u hu)⟩); clear HL HCE hd; have HL := HLn; have HCE := HCn; clear HLn HCn) | ((with_reducible refine gate_store (t := 27) rfl ?_); refine Kd.R_store (Kd.raw 6) (w0 := w) w.heap.size rfl rfl 27 _ _ rfl 27 (i : Int) 0 rows (markRow i) _ (markRow i) ce (fun _ => True) (fun _ => False) rfl ?hoff rfl rfl ?hti ?hone HL.out.raw ?hz0 ?hzn HCE.out.1 ?hcc ?hjl ?hM (fun _ hk => hk.elim) HL.out.low ?_; (case hoff => (show _ = ((i : Int)).toNat * 6 + 0; omega)); (case hti => kernel_rfl); (case hone => exact (show ∀ u ∈ markRow i, u.oneCell' = true from one6)); (case hz0 => omega); (case hzn => omega); (case hcc => exact fun j u hu => HCE.out.2 j u hu); (case hjl => (show 0 + 6 ≤ 6; omega)); (case hM => (rw [seg6 HCE.out.1 rfl]; exact raw_M rfl (show ∀ u ∈ markRow i, u.oneCell' = true from one6))); intro w3 hR hb hg; have HLn := Aside0.mk (HL.out.store hi64 ⟨fun h => absurd h HIN.out, fun _ => rfl⟩ hg hb hR); clear HL HCE hR hb hg; have HL := HLn; clear HLn))
    go_roundw
    case measure => have hq := HLT.out; (try rw [HWR.out]); simp only [intOf]; omega
    case rel => exact ⟨i + 1, _, by first | rfl | (rw [HWR.out]; done), by have := HLT.out; omega, HL⟩
  ·
   have hi0 : i = N := by omega
   subst hi0
   have hltb : decide ((i : Int) < (i : Int)) = false := by simp
   clear hlt hile
   have hfin := HL.out
   rw [HN.out] at hfin
   have HW := Aside0.mk hfin.finish
   obtain ⟨i0, hi0, _, hsz0, _⟩ := info_parts info_objW
   have hcut := cut_to (P := Try.prog) 44 27 .i64 Try.underlying44 hi0 (some ⟨gd, 0, none⟩) i c2 (l0.length : Int) (by omega) (by rw [HN.out]; omega) (by have := HW.out.cap; rw [HN.out]; omega)
   go_wp2
   go_ret
   exact ⟨_, _, rfl, HW.out, HL.out.low⟩
 end Go.Proofs.Ytiaohbbafaaibab.P

/- What the Go functions named below come to, as plain functions, each with its proof; written by this session's prt.py over the kit's print. -/
namespace Go.Proofs.Ytiaohbbafaaibab.P
open Go.RowKit Go.Proofs.YtiaohbbafaaibabW.PrintWords Go.Proofs.YtiaohbbafaaibabW.PrintLast Go.Proofs.YtiaohbbafaaibabW.PrintMore
attribute [local go_sem] max2_int min2_int max_two min_two max_three min_three max_four min_four   -- for this text's walks alone
set_option linter.unusedVariables false
set_option linter.unusedSimpArgs false
/-! ### pleatref00_Long: function 35 -/
def pleatref00_Long.f (a0 : Int) : Option (Bool) := some (decide (a0 > 2147483647))
set_option maxHeartbeats 8000000 in
set_option maxRecDepth 100000 in
theorem pleatref00_Long.calls (a0 : Int) (r : Bool) (w : World) (h : pleatref00_Long.f a0 = some r) :
  Calls Try.prog 35 #[.int .i64 a0] w fun e w' => e = .returned (.bool r) ∧ Drawn0 w w' := by
 have H : (some (decide (a0 > 2147483647))) = some r := h
 clear h
 obtain rfl := Option.some.inj H
 go_enter Try.func35, Try.ntmps35
 go_wp2
 go_ret
 exact ⟨by first | rfl | (simp; done) | (simp [*]; done), by repeat (first | exact Drawn0.refl _ | apply Drawn0.step)⟩


/-! ### pleatref00_SizeObjects: function 36 -/
mutual
def pleatref00_SizeObjects.l0 : Nat → List (S27) → Int → Int → Option (Int)
 | 0, _, _, _ => none
 | k + 1, x0, x3, x4 => if x4 < (x0.length : Int) then (pleatref00_SizeObjects.j1 k x0 x3 x4 (decide (x3 ≤ 2147483647))) else (pleatref00_SizeObjects.j1 k x0 x3 x4 false)
def pleatref00_SizeObjects.j1 : Nat → List (S27) → Int → Int → Bool → Option (Int)
 | 0, _, _, _, _ => none
 | k + 1, x0, x3, x4, x15 => if x15 = true then (if 0 ≤ x4 then (if x4 < (x0.length : Int) then (pleatref00_SizeObjects.l1 k x0 (wrap64 ((wrap64 ((wrap64 ((wrap64 ((wrap64 (x3 + (((rd_T27 x0 x4).f0).size : Int))) + (wrap64 (4 * (((rd_T27 x0 x4).f1).length : Int))))) + (wrap64 (8 * (((rd_T27 x0 x4).f3).length : Int))))) + (((rd_T27 x0 x4).f5).length : Int))) + (((rd_T27 x0 x4).f4).length : Int))) x4 0) else (none)) else (none)) else (some x3)
def pleatref00_SizeObjects.l1 : Nat → List (S27) → Int → Int → Int → Option (Int)
 | 0, _, _, _, _ => none
 | k + 1, x0, x3, x4, x5 => if 0 ≤ x4 then (if x4 < (x0.length : Int) then (if x5 < (((rd_T27 x0 x4).f4).length : Int) then (if x3 ≤ 2147483647 then (if 0 ≤ x5 then (pleatref00_SizeObjects.l1 k x0 (wrap64 (x3 + (((rd_T37 ((rd_T27 x0 x4).f4) x5).f0).size : Int))) x4 (wrap64 (x5 + 1))) else (none)) else (pleatref00_SizeObjects.l0 k x0 x3 (wrap64 (x4 + 1)))) else (pleatref00_SizeObjects.l0 k x0 x3 (wrap64 (x4 + 1)))) else (none)) else (none)
end
def pleatref00_SizeObjects.f (k : Nat) (l0 : List (S27)) : Option (Int) := pleatref00_SizeObjects.l0 k l0 (l0.length : Int) 0
theorem pleatref00_SizeObjects.mono_l : ∀ k, (∀ y0 y1 y2, LeO (pleatref00_SizeObjects.l0 k y0 y1 y2) (pleatref00_SizeObjects.l0 (k + 1) y0 y1 y2)) ∧ (∀ y0 y1 y2 y3, LeO (pleatref00_SizeObjects.j1 k y0 y1 y2 y3) (pleatref00_SizeObjects.j1 (k + 1) y0 y1 y2 y3)) ∧ (∀ y0 y1 y2 y3, LeO (pleatref00_SizeObjects.l1 k y0 y1 y2 y3) (pleatref00_SizeObjects.l1 (k + 1) y0 y1 y2 y3))
 | 0 => ⟨fun _ _ _ r h => by simp [pleatref00_SizeObjects.l0] at h, fun _ _ _ _ r h => by simp [pleatref00_SizeObjects.j1] at h, fun _ _ _ _ r h => by simp [pleatref00_SizeObjects.l1] at h⟩
 | k + 1 => by
  obtain ⟨ih0, ih1, ih2⟩ := pleatref00_SizeObjects.mono_l k
  refine ⟨?_, ?_, ?_⟩
  ·
   intro y0 y1 y2
   unfold pleatref00_SizeObjects.l0
   repeat' first
   | (with_reducible first | exact ih0 _ _ _ | exact ih1 _ _ _ _ | exact ih2 _ _ _ _ | exact LeO.refl _ | exact LeO.none _ | refine LeO.ite ?_ ?_ | refine LeO.bind ?_ (fun _ => ?_))
  ·
   intro y0 y1 y2 y3
   unfold pleatref00_SizeObjects.j1
   repeat' first
   | (with_reducible first | exact ih0 _ _ _ | exact ih1 _ _ _ _ | exact ih2 _ _ _ _ | exact LeO.refl _ | exact LeO.none _ | refine LeO.ite ?_ ?_ | refine LeO.bind ?_ (fun _ => ?_))
  ·
   intro y0 y1 y2 y3
   unfold pleatref00_SizeObjects.l1
   repeat' first
   | (with_reducible first | exact ih0 _ _ _ | exact ih1 _ _ _ _ | exact ih2 _ _ _ _ | exact LeO.refl _ | exact LeO.none _ | refine LeO.ite ?_ ?_ | refine LeO.bind ?_ (fun _ => ?_))
theorem pleatref00_SizeObjects.mono : ∀ a0 k, LeO (pleatref00_SizeObjects.f k a0) (pleatref00_SizeObjects.f (k + 1) a0) := by
 intro a0 k
 obtain ⟨ih0, ih1, ih2⟩ := pleatref00_SizeObjects.mono_l k
 unfold pleatref00_SizeObjects.f
 repeat' first
   | (with_reducible first | exact ih0 _ _ _ | exact ih1 _ _ _ _ | exact ih2 _ _ _ _ | exact LeO.refl _ | exact LeO.none _ | refine LeO.ite ?_ ?_ | refine LeO.bind ?_ (fun _ => ?_))
set_option maxHeartbeats 8000000 in
set_option maxRecDepth 100000 in
theorem pleatref00_SizeObjects.calls (k : Nat) (A0 : Option Addr) (c0 : Nat) (l0 : List (S27)) (r : Int) (w : World) (hr0 : Kd.C k27 w A0 l0.length l0) (hc0 : l0.length ≤ c0) (h : pleatref00_SizeObjects.f k l0 = some r) :
  Calls Try.prog 36 #[.slice A0 l0.length c0] w fun e w' => e = .returned (.int .i64 r) ∧ Drawn0 w w' := by
 have HR0 := Aside0.mk hr0
 have HC0 := Aside0.mk hc0
 clear hr0 hc0
 have H : (pleatref00_SizeObjects.l0 k l0 (l0.length : Int) 0) = some r := h
 clear h
 have H' := Aside0.mk H
 clear H
 go_enter Try.func36, Try.ntmps36
 go_wp2
 repeat (go_quiet (fail); try go_wp2)
 go_loopg [3, 4] k (fun kq v3 v4 w' => ∃ (x3_1 : Int) (x4_1 : Int), v3 = .int .i64 x3_1 ∧ v4 = .int .i64 x4_1 ∧ Aside0 (pleatref00_SizeObjects.l0 kq l0 x3_1 x4_1 = some r) ∧ Aside0 (kq ≤ k) ∧ Drawn0 w w')
 case atStart => exact ⟨((l0.length : Int)), (0), (by first | rfl | (simp; done) | (simp [*]; done)), (by first | rfl | (simp; done) | (simp [*]; done)), H', ⟨Nat.le_refl _⟩, by repeat (first | exact Drawn0.refl _ | apply Drawn0.step)⟩
 case round =>
  clear H'
  obtain ⟨x3_1, x4_1, rfl, rfl, HA, HK1, ⟨m1, rfl⟩⟩ := hrel
  cases gk with
  | zero => exact absurd HA.out (by simp [pleatref00_SizeObjects.l0])
  | succ k1 =>
   have H := HA.out
   clear HA
   simp only [pleatref00_SizeObjects.l0] at H
   have HC2 := Aside0.mk H
   clear H
   go_upto_region 3 with (fail)
   repeat (go_quiet (fail); go_upto_region 3 with (fail))
   go_cut [15] (fun v15 wc => ∃ (kq : Nat) (x15_1 : Bool), v15 = .bool x15_1 ∧ Aside0 (pleatref00_SizeObjects.j1 kq l0 x3_1 x4_1 x15_1 = some r) ∧ Aside0 (kq ≤ k1) ∧ Drawn0 w wc)
   case first =>
    have H := HC2.out
    clear HC2
    by_cases c3 : x4_1 < (l0.length : Int)
    ·
     rw [if_pos c3] at H
     have c3b0 : decide (x4_1 < (l0.length : Int)) = true := decide_eq_true c3
     clear c3
     (first | rw [c3b0] | (simp only [i64_w, i32_w]; rw [c3b0]) | skip)
     have H' := Aside0.mk H
     clear H
     go_wp2
     repeat (go_quiet (fail); try go_wp2)
     go_meet
     case rel => exact ⟨_, (decide (x3_1 ≤ 2147483647)), (by first | rfl | (simp; done) | (simp [*]; done)), H', ⟨by have := HK1.out; first | omega | exact Nat.le_refl _⟩, by repeat (first | exact Drawn0.refl _ | apply Drawn0.step)⟩
    ·
     rw [if_neg c3] at H
     have c3b0 : decide (x4_1 < (l0.length : Int)) = false := decide_eq_false c3
     clear c3
     (first | rw [c3b0] | (simp only [i64_w, i32_w]; rw [c3b0]) | skip)
     have H' := Aside0.mk H
     clear H
     go_wp2
     repeat (go_quiet (fail); try go_wp2)
     go_meet
     case rel => exact ⟨_, (false), (by first | rfl | (simp; done) | (simp [*]; done)), H', ⟨by have := HK1.out; first | omega | exact Nat.le_refl _⟩, by repeat (first | exact Drawn0.refl _ | apply Drawn0.step)⟩
   case rest =>
    clear HC2
    try clear p2
    try clear c3
    try clear c3b0
    obtain ⟨kq, x15_1, rfl, HA, HJ1, ⟨mc1, rfl⟩⟩ := hcut
    cases kq with
    | zero => exact absurd HA.out (by simp [pleatref00_SizeObjects.j1])
    | succ kj1 =>
     have H := HA.out
     clear HA
     simp only [pleatref00_SizeObjects.j1] at H
     by_cases c4 : x15_1 = true
     ·
      subst c4
      rw [if_pos rfl] at H
      by_cases c5 : 0 ≤ x4_1
      ·
       rw [if_pos c5] at H
       have c5b0 : decide (0 ≤ x4_1) = true := decide_eq_true c5
       clear c5
       by_cases c6 : x4_1 < (l0.length : Int)
       ·
        rw [if_pos c6] at H
        have c6b0 : decide (x4_1 < (l0.length : Int)) = true := decide_eq_true c6
        clear c6
        have H' := Aside0.mk H
        clear H
        have p343 : 0 ≤ (x4_1 : Int) := of_decide_eq_true ‹_›
        have q343 : x4_1 < (l0.length : Int) := of_decide_eq_true ‹_›
        obtain ⟨ad343, A343_1, c343_1, A343_3, c343_3, A343_4, c343_4, A343_5, c343_5, e343, hx343_0, hx343_1, hx343_2, hx343_3, hx343_4, hx343_5, -, -, -, -, -, -, -, -⟩ := at_T27 HR0.out x4_1 p343 q343
        cases e343
        replace p343 := eq_true p343
        replace q343 := eq_true q343
        go_wp2
        repeat (go_quiet (fail); try go_wp2)
        go_loopg [3, 5] kj1 (fun kq v3 v5 w' => ∃ (x3_3 : Int) (x5_3 : Int), v3 = .int .i64 x3_3 ∧ v5 = .int .i64 x5_3 ∧ Aside0 (pleatref00_SizeObjects.l1 kq l0 x3_3 x4_1 x5_3 = some r) ∧ Aside0 (kq ≤ kj1) ∧ Drawn0 w w')
        case atStart => exact ⟨(wrap64 ((wrap64 ((wrap64 ((wrap64 ((wrap64 (x3_1 + (((rd_T27 l0 x4_1).f0).size : Int))) + (wrap64 (4 * (((rd_T27 l0 x4_1).f1).length : Int))))) + (wrap64 (8 * (((rd_T27 l0 x4_1).f3).length : Int))))) + (((rd_T27 l0 x4_1).f5).length : Int))) + (((rd_T27 l0 x4_1).f4).length : Int))), (0), (by first | rfl | (simp; done) | (simp [*]; done)), (by first | rfl | (simp; done) | (simp [*]; done)), H', ⟨Nat.le_refl _⟩, by repeat (first | exact Drawn0.refl _ | apply Drawn0.step)⟩
        case round =>
         clear H'
         try clear c1
         try clear p2
         try clear c3
         try clear c3b0
         try clear p3
         try clear q3
         try clear hx3
         try clear c4
         try clear c5
         try clear c5b0
         try clear c6
         try clear c6b0
         try clear p6
         try clear hx343_0
         try clear hx343_1
         try clear hx343_2
         try clear hx343_3
         try clear hx343_4
         try clear hx343_5
         try clear hx343_0
         try clear hx343_1
         try clear hx343_2
         try clear hx343_3
         try clear hx343_4
         try clear hx343_5
         try clear hx343_0
         try clear hx343_1
         try clear hx343_2
         try clear hx343_3
         try clear hx343_4
         try clear hx343_5
         try clear hx343_0
         try clear hx343_1
         try clear hx343_2
         try clear hx343_3
         try clear hx343_4
         try clear hx343_5
         try clear hx343_0
         try clear hx343_1
         try clear hx343_2
         try clear hx343_3
         try clear hx343_4
         try clear hx343_5
         try clear p2
         try clear p343
         try clear p343
         try clear p343
         try clear p343
         try clear p343
         try clear q343
         try clear q343
         try clear q343
         try clear q343
         try clear q343
         obtain ⟨x3_3, x5_3, rfl, rfl, HA, HK3, ⟨m3, rfl⟩⟩ := hrel
         cases gk with
         | zero => exact absurd HA.out (by simp [pleatref00_SizeObjects.l1])
         | succ k3 =>
          have H := HA.out
          clear HA
          simp only [pleatref00_SizeObjects.l1] at H
          by_cases c7 : 0 ≤ x4_1
          ·
           rw [if_pos c7] at H
           have c7b0 : decide (0 ≤ x4_1) = true := decide_eq_true c7
           clear c7
           by_cases c8 : x4_1 < (l0.length : Int)
           ·
            rw [if_pos c8] at H
            have c8b0 : decide (x4_1 < (l0.length : Int)) = true := decide_eq_true c8
            clear c8
            by_cases c9 : x5_3 < (((rd_T27 l0 x4_1).f4).length : Int)
            ·
             rw [if_pos c9] at H
             have c9b0 : decide (x5_3 < (((rd_T27 l0 x4_1).f4).length : Int)) = true := decide_eq_true c9
             clear c9
             by_cases c10 : x3_3 ≤ 2147483647
             ·
              rw [if_pos c10] at H
              have c10b0 : decide (x3_3 ≤ 2147483647) = true := decide_eq_true c10
              clear c10
              by_cases c11 : 0 ≤ x5_3
              ·
               rw [if_pos c11] at H
               have c11b0 : decide (0 ≤ x5_3) = true := decide_eq_true c11
               clear c11
               have H' := Aside0.mk H
               clear H
               have p348 : 0 ≤ (x4_1 : Int) := of_decide_eq_true ‹_›
               have q348 : x4_1 < (l0.length : Int) := of_decide_eq_true ‹_›
               obtain ⟨ad348, A348_1, c348_1, A348_3, c348_3, A348_4, c348_4, A348_5, c348_5, e348, hx348_0, hx348_1, hx348_2, hx348_3, hx348_4, hx348_5, -, -, -, -, -, -, -, -⟩ := at_T27 HR0.out x4_1 p348 q348
               obtain rfl : ad343 = ad348 := (by injection e348)
               replace p348 := eq_true p348
               replace q348 := eq_true q348
               have p349 : 0 ≤ (x4_1 : Int) := of_decide_eq_true ‹_›
               have q349 : x4_1 < (l0.length : Int) := of_decide_eq_true ‹_›
               obtain ⟨ad349, A349_1, c349_1, A349_3, c349_3, A349_4, c349_4, A349_5, c349_5, e349, hx349_0, hx349_1, hx349_2, hx349_3, hx349_4, hx349_5, -, -, -, -, hl349_4, hi349_4, -, -⟩ := at_T27 HR0.out x4_1 p349 q349
               obtain rfl : ad343 = ad349 := (by injection e349)
               have HR349_4 := Aside0.mk hi349_4
               have HC349_4 := Aside0.mk hl349_4
               clear hi349_4 hl349_4
               replace p349 := eq_true p349
               replace q349 := eq_true q349
               have ea_ := Option.some.inj (hx348_1.symm.trans hx349_1)
               injection ea_ with ea_ en_ ec_
               subst ea_
               subst ec_
               clear en_
               have ea_ := Option.some.inj (hx348_3.symm.trans hx349_3)
               injection ea_ with ea_ en_ ec_
               subst ea_
               subst ec_
               clear en_
               have ea_ := Option.some.inj (hx348_4.symm.trans hx349_4)
               injection ea_ with ea_ en_ ec_
               subst ea_
               subst ec_
               clear en_
               have ea_ := Option.some.inj (hx348_5.symm.trans hx349_5)
               injection ea_ with ea_ en_ ec_
               subst ea_
               subst ec_
               clear en_
               have p350 : 0 ≤ (x5_3 : Int) := of_decide_eq_true ‹_›
               have q350 : x5_3 < (((rd_T27 l0 x4_1).f4).length : Int) := of_decide_eq_true ‹_›
               obtain ⟨ad350, e350, hx350_0, hx350_1, hx350_2⟩ := at_T37 HR349_4.out x5_3 p350 q350
               cases e350
               replace p350 := eq_true p350
               replace q350 := eq_true q350
               go_wp2
               repeat (go_quiet (fail); try go_wp2)
               go_roundg k3
               case measure => have := HK1.out; have := HJ1.out; have := HK3.out; omega
               case rel => exact ⟨(wrap64 (x3_3 + (((rd_T37 ((rd_T27 l0 x4_1).f4) x5_3).f0).size : Int))), (wrap64 (x5_3 + 1)), (by first | rfl | (simp; done) | (simp [*]; done)), (by first | rfl | (simp; done) | (simp [*]; done)), H', ⟨by have := HK1.out; have := HJ1.out; have := HK3.out; omega⟩, by repeat (first | exact Drawn0.refl _ | apply Drawn0.step)⟩
              ·
               rw [if_neg c11] at H
               exact absurd H (by simp)
             ·
              rw [if_neg c10] at H
              have c10b0 : decide (x3_3 ≤ 2147483647) = false := decide_eq_false c10
              clear c10
              have H' := Aside0.mk H
              clear H
              have p348 : 0 ≤ (x4_1 : Int) := of_decide_eq_true ‹_›
              have q348 : x4_1 < (l0.length : Int) := of_decide_eq_true ‹_›
              obtain ⟨ad348, A348_1, c348_1, A348_3, c348_3, A348_4, c348_4, A348_5, c348_5, e348, hx348_0, hx348_1, hx348_2, hx348_3, hx348_4, hx348_5, -, -, -, -, -, -, -, -⟩ := at_T27 HR0.out x4_1 p348 q348
              obtain rfl : ad343 = ad348 := (by injection e348)
              replace p348 := eq_true p348
              replace q348 := eq_true q348
              go_wp2
              repeat (go_quiet (fail); try go_wp2)
              go_roundg k3
              case measure => have := HK1.out; have := HJ1.out; have := HK3.out; omega
              case rel => exact ⟨(x3_3), (wrap64 (x4_1 + 1)), (by first | rfl | (simp; done) | (simp [*]; done)), (by first | rfl | (simp; done) | (simp [*]; done)), H', ⟨by have := HK1.out; have := HJ1.out; have := HK3.out; omega⟩, by repeat (first | exact Drawn0.refl _ | apply Drawn0.step)⟩
            ·
             rw [if_neg c9] at H
             have c9b0 : decide (x5_3 < (((rd_T27 l0 x4_1).f4).length : Int)) = false := decide_eq_false c9
             clear c9
             have H' := Aside0.mk H
             clear H
             have p348 : 0 ≤ (x4_1 : Int) := of_decide_eq_true ‹_›
             have q348 : x4_1 < (l0.length : Int) := of_decide_eq_true ‹_›
             obtain ⟨ad348, A348_1, c348_1, A348_3, c348_3, A348_4, c348_4, A348_5, c348_5, e348, hx348_0, hx348_1, hx348_2, hx348_3, hx348_4, hx348_5, -, -, -, -, -, -, -, -⟩ := at_T27 HR0.out x4_1 p348 q348
             obtain rfl : ad343 = ad348 := (by injection e348)
             replace p348 := eq_true p348
             replace q348 := eq_true q348
             go_wp2
             repeat (go_quiet (fail); try go_wp2)
             go_roundg k3
             case measure => have := HK1.out; have := HJ1.out; have := HK3.out; omega
             case rel => exact ⟨(x3_3), (wrap64 (x4_1 + 1)), (by first | rfl | (simp; done) | (simp [*]; done)), (by first | rfl | (simp; done) | (simp [*]; done)), H', ⟨by have := HK1.out; have := HJ1.out; have := HK3.out; omega⟩, by repeat (first | exact Drawn0.refl _ | apply Drawn0.step)⟩
           ·
            rw [if_neg c8] at H
            exact absurd H (by simp)
          ·
           rw [if_neg c7] at H
           exact absurd H (by simp)
       ·
        rw [if_neg c6] at H
        exact absurd H (by simp)
      ·
       rw [if_neg c5] at H
       exact absurd H (by simp)
     ·
      replace c4 := Bool.eq_false_iff.mpr c4
      subst c4
      rw [if_neg Bool.false_ne_true] at H
      obtain rfl := Option.some.inj H
      go_wp2
      repeat (go_quiet (fail); try go_wp2)
      go_ret
      exact ⟨by first | rfl | (simp; done) | (simp [*]; done), by repeat (first | exact Drawn0.refl _ | apply Drawn0.step)⟩


/-! ### pleatlaw08_heavy: function 13 -/
def pleatlaw08_heavy.f (k : Nat) (l0 : List (S27)) : Option (Bool) := if (l0.length : Int) > 64 then (some true) else ((pleatref00_SizeObjects.f k l0).bind fun t351 => ((pleatref00_Long.f t351).bind fun t352 => (if t352 = true then (some true) else ((pleatref00_SizeObjects.f k l0).bind fun t353 => (some (decide (t353 > 524288)))))))
theorem pleatlaw08_heavy.mono : ∀ a0 k, LeO (pleatlaw08_heavy.f k a0) (pleatlaw08_heavy.f (k + 1) a0) := by
 intro a0 k
 unfold pleatlaw08_heavy.f
 repeat' first
   | (with_reducible first | exact pleatref00_SizeObjects.mono _ _ | exact LeO.refl _ | exact LeO.none _ | refine LeO.ite ?_ ?_ | refine LeO.bind ?_ (fun _ => ?_))
set_option maxHeartbeats 8000000 in
set_option maxRecDepth 100000 in
theorem pleatlaw08_heavy.calls (k : Nat) (A0 : Option Addr) (c0 : Nat) (l0 : List (S27)) (r : Bool) (w : World) (hr0 : Kd.C k27 w A0 l0.length l0) (hc0 : l0.length ≤ c0) (h : pleatlaw08_heavy.f k l0 = some r) :
  Calls Try.prog 13 #[.slice A0 l0.length c0] w fun e w' => e = .returned (.bool r) ∧ Drawn0 w w' := by
 have HR0 := Aside0.mk hr0
 have HC0 := Aside0.mk hc0
 clear hr0 hc0
 have H : (if (l0.length : Int) > 64 then (some true) else ((pleatref00_SizeObjects.f k l0).bind fun t351 => ((pleatref00_Long.f t351).bind fun t352 => (if t352 = true then (some true) else ((pleatref00_SizeObjects.f k l0).bind fun t353 => (some (decide (t353 > 524288)))))))) = some r := h
 clear h
 by_cases c2 : (l0.length : Int) > 64
 ·
  rw [if_pos c2] at H
  have c2b0 : decide (64 < (l0.length : Int)) = true := decide_eq_true c2
  have c2b1 : decide (64 < l0.length) = true := decide_eq_true (by omega)
  clear c2
  obtain rfl := Option.some.inj H
  go_enter Try.func13, Try.ntmps13
  go_wp2
  go_ret
  exact ⟨by first | rfl | (simp; done) | (simp [*]; done), by repeat (first | exact Drawn0.refl _ | apply Drawn0.step)⟩
 ·
  rw [if_neg c2] at H
  have c2b0 : decide (64 < (l0.length : Int)) = false := decide_eq_false c2
  have c2b1 : decide (64 < l0.length) = false := decide_eq_false (by omega)
  clear c2
  replace H := Option.bind_eq_some_iff.mp H
  obtain ⟨t351, A30, H⟩ := H
  try dsimp only at H
  have A3 := Aside0.mk A30
  clear A30
  replace H := Option.bind_eq_some_iff.mp H
  obtain ⟨t352, A40, H⟩ := H
  try dsimp only at H
  have A4 := Aside0.mk A40
  clear A40
  by_cases c5 : t352 = true
  ·
   subst c5
   rw [if_pos rfl] at H
   obtain rfl := Option.some.inj H
   go_enter Try.func13, Try.ntmps13
   go_wp2_with (first | (go_at_call 36; (with_reducible refine (pleatref00_SizeObjects.calls k _ _ l0 t351 _ ?side1 ?side2 A3.out).mono ?_); (case side1 => repeat (first | exact HR0.out | (with_reducible refine Kd.C_alloc ?_ _) | (with_reducible refine Kd.C_drewN ?_ _) | (with_reducible refine Kd.C_drew ?_))); (case side2 => exact HC0.out); rintro e w' ⟨rfl, ⟨nd, rfl⟩⟩) | (go_at_call 35; (with_reducible refine (pleatref00_Long.calls t351 true _ A4.out).mono ?_); rintro e w' ⟨rfl, ⟨nd, rfl⟩⟩))
   go_ret
   exact ⟨by first | rfl | (simp; done) | (simp [*]; done), by repeat (first | exact Drawn0.refl _ | apply Drawn0.step)⟩
  ·
   replace c5 := Bool.eq_false_iff.mpr c5
   subst c5
   rw [if_neg Bool.false_ne_true] at H
   replace H := Option.bind_eq_some_iff.mp H
   obtain ⟨t353, A60, H⟩ := H
   try dsimp only at H
   have A6 := Aside0.mk A60
   clear A60
   obtain rfl := Option.some.inj H
   go_enter Try.func13, Try.ntmps13
   go_wp2_with (first | (go_at_call 36; (with_reducible refine (pleatref00_SizeObjects.calls k _ _ l0 t351 _ ?side1 ?side2 A3.out).mono ?_); (case side1 => repeat (first | exact HR0.out | (with_reducible refine Kd.C_alloc ?_ _) | (with_reducible refine Kd.C_drewN ?_ _) | (with_reducible refine Kd.C_drew ?_))); (case side2 => exact HC0.out); rintro e w' ⟨rfl, ⟨nd, rfl⟩⟩) | (go_at_call 35; (with_reducible refine (pleatref00_Long.calls t351 false _ A4.out).mono ?_); rintro e w' ⟨rfl, ⟨nd, rfl⟩⟩) | (go_at_call 36; (with_reducible refine (pleatref00_SizeObjects.calls k _ _ l0 t353 _ ?side1 ?side2 A6.out).mono ?_); (case side1 => repeat (first | exact HR0.out | (with_reducible refine Kd.C_alloc ?_ _) | (with_reducible refine Kd.C_drewN ?_ _) | (with_reducible refine Kd.C_drew ?_))); (case side2 => exact HC0.out); rintro e w' ⟨rfl, ⟨nd, rfl⟩⟩))
   have hq_ : t353 = t351 := Option.some.inj (A6.out.symm.trans A3.out)
   go_ret
   exact ⟨by first | rfl | (simp; done) | (simp [*]; done), by repeat (first | exact Drawn0.refl _ | apply Drawn0.step)⟩
end Go.Proofs.Ytiaohbbafaaibab.P

/- OWN TEXT: the small known run that the laws of symbols ask of the program, walked: it answers true. -/
namespace Go.Proofs.Ytiaohbbafaaibab.P
open Go.RowKit Go.Maps Go.Proofs.YtiaohbbafaaibabW.PrintWords Go.Proofs.YtiaohbbafaaibabW.PrintLast Go.Proofs.YtiaohbbafaaibabW.PrintMore Go.Proofs.Ytiaohbbafaaibab.Arr Go.Proofs.Ytiaohbbafaaibab.MapB Go.Proofs.Ytiaohbbafaaibab.SymM
set_option linter.unusedVariables false
set_option linter.unusedSimpArgs false
attribute [local go_sem high] eqA54
def twoL : List ObjT := [⟨⟨#[97]⟩, [], 0, [], [⟨⟨#[102]⟩, 3, 0⟩], []⟩, ⟨⟨#[98]⟩, [0, 0], 0, [], [⟨⟨#[102]⟩, 1, 2⟩], []⟩]
def oneL : List ObjT := [⟨⟨#[97]⟩, [], 0, [], [⟨⟨#[102]⟩, 3, 0⟩], []⟩]
def twoD : List (List DefT) := [[⟨1, 2⟩], [⟨1, 2⟩]]
theorem two_f : pleatlaw08_two.f = some twoL := by kernel_rfl
theorem two_r : symbol_Resolve.f twoL = some (twoD, 0, 0, 0) := by kernel_rfl
theorem one_r : symbol_Resolve.f oneL = some ([], 40, 0, 0) := by kernel_rfl
theorem two_n : symbol_Find.f twoL ⟨#[102]⟩ = some (1, 2, true) := by kernel_rfl
theorem oneC {W : World} {A : Option Addr} (h : Kd.C k27 W A twoL.length twoL) : Kd.C k27 W A oneL.length oneL := Kd.C_take h (m := 1) (by decide)
theorem info_objV : (Try.prog.info? 27).map (fun i => (i.zero, i.size, i.bytes)) = some (some (.agg #[(.string ⟨#[]⟩), (.slice none 0 0), (.int .i64 0), (.slice none 0 0), (.slice none 0 0), (.slice none 0 0)]), 6, 120) := by kernel_rfl
theorem def_oneL (a b : Int) : ((#[.int .i64 a, .int .i64 b] : Array Value).all fun v => v.oneCell') = true := by kernel_rfl
set_option maxHeartbeats 8000000 in
set_option maxRecDepth 100000 in
theorem lives8.calls (w : World) : Calls Try.prog 14 #[] w fun e w' => e = .returned (.bool true) ∧ Below w.heap.size w w' := by
 have hu1 := Try.underlying54
 have HB := Aside0.mk (Below.refl w.heap.size w)
 obtain ⟨i0_, hi0, _, _, _⟩ := info_parts info_objV
 have HI := Aside0.mk hi0
 clear hi0
 go_enter Try.func14, Try.ntmps14
 go_wp2_with (first | (go_at_call 37; refine (pleatlaw08_two.calls twoL _ two_f).mono ?_; rintro e_ w1 ⟨v1, rfl, ho, hb⟩; obtain ⟨A1, c1, e1, hl1, hC⟩ := Kd.N_reads ho; subst e1; have HT := Aside0.mk (And.intro hl1 hC); have HBn := Aside0.mk (bsQ hb HB.out); clear HB hb ho hC hl1; have HB := HBn; clear HBn))
 go_wp2_with (first | (go_at_call 16; refine (symbol_Resolve.calls _ _ twoL twoD 0 0 0 _ HT.out.2 HT.out.1 two_r).mono ?_; rintro e_ wd ⟨vd, rfl, hod, hb⟩; obtain ⟨Ad, cd, ed, hle, hCd⟩ := Kd.S_reads hod; subst ed; have HD := Aside0.mk hCd; have HBn := Aside0.mk (bsQ hb HB.out); have HL := Aside0.mk (Below.refl wd.heap.size wd); clear HB HT hb hod hCd hle; have HB := HBn; clear HBn))
 go_wp2_with (first | (go_at_call 37; refine (pleatlaw08_two.calls twoL _ two_f).mono ?_; rintro e_ w2 ⟨v2, rfl, ho, hb⟩; obtain ⟨A2, c2, e2, hl2, hC⟩ := Kd.N_reads ho; subst e2; have HT := Aside0.mk (And.intro hl2 hC); have HBn := Aside0.mk (bsQ hb HB.out); have HLn := Aside0.mk (below_then HL.out HL.out.size hb); clear HB hb ho hC hl2 HL; have HB := HBn; clear HBn; have HL := HLn; clear HLn; have hcut := cut_to (P := Try.prog) 44 27 .i64 Try.underlying44 HI.out A2 twoL.length c2 1 (by omega) (by decide) HT.out.1; rw [show ((1 : Int)).toNat = 1 from rfl] at hcut))
 go_wp2_with (first | (go_at_call 16; refine (symbol_Resolve.calls A2 c2 oneL [] 40 0 0 _ (oneC HT.out.2) (Nat.le_trans (show oneL.length ≤ twoL.length by decide) HT.out.1) one_r).mono ?_; rintro e_ w5 ⟨v5, rfl, hod, hb⟩; clear hod HT hcut; have HBn := Aside0.mk (bsQ hb HB.out); have HLn := Aside0.mk (below_then HL.out HL.out.size hb); clear HB HL hb; have HB := HBn; have HL := HLn; clear HBn HLn))
 go_wp2_with (first | (go_at_call 37; refine (pleatlaw08_two.calls twoL _ two_f).mono ?_; rintro e_ w3 ⟨v3, rfl, ho, hb⟩; obtain ⟨A3, c3, e3, hl3, hC⟩ := Kd.N_reads ho; subst e3; have HT := Aside0.mk (And.intro hl3 hC); have HBn := Aside0.mk (bsQ hb HB.out); have HLn := Aside0.mk (below_then HL.out HL.out.size hb); clear HB hb ho hC hl3 HL; have HB := HBn; clear HBn; have HL := HLn; clear HLn))
 go_wp2_with (first | (go_at_call 18; refine (symbol_Find.calls _ _ twoL ⟨#[102]⟩ 1 2 true _ HT.out.2 HT.out.1 two_n).mono ?_; rintro e_ w7 ⟨rfl, hb⟩; clear HT; have HBn := Aside0.mk (bsQ hb HB.out); have HLn := Aside0.mk (below_then HL.out HL.out.size hb); clear HB HL hb; have HB := HBn; have HL := HLn; clear HBn HLn) | ((with_reducible refine gate_dst (N := 9) rfl ?_); refine box_event ?hg (N := 9) ?hd (cs := #[.int .i64 0, .int .i64 0]) (t := 54) ?hr ?_; (case hd => rfl); (case hg => rfl); (case hr => first | (go_simp; done) | (go_simp; rfl)); intro gx hg w8 BK_ hb; have GX := Aside0.mk (gwQ hg HB.out); have GL := Aside0.mk (gwQ hg HL.out); have BX := Aside0.mk BK_; clear BK_ hg; have HBn := Aside0.mk (bsQ hb HB.out); have HLn := Aside0.mk (below_then HL.out HL.out.size hb); clear HB HL hb; have HB := HBn; have HL := HLn; clear HBn HLn) | ((with_reducible refine gate_store (t := 54) rfl ?_); refine wpList_store_whole rfl rfl rfl gx _ #[.int .i64 1, .int .i64 2] _ rfl rfl BX.out (by kernel_rfl) rfl ((def_oneL _ _)) ?_; intro w9 hp; have HBn := Aside0.mk (hp.below HB.out GX.out); have HLn := Aside0.mk (hp.below HL.out GL.out); have BXn := Aside0.mk hp.blk; clear HB HL BX hp; have HB := HBn; have HL := HLn; have BX := BXn; clear HBn HLn BXn; have hq0 := blk_cell BX.out 0; have hq1 := blk_cell BX.out 1))
 obtain ⟨ad, B, dB, eD, hr0, _, hRC⟩ := at_L15 HD.out (0 : Int) (by omega) (by decide)
 obtain ⟨ae, eE, hr1, hr2⟩ := at_T54 hRC (0 : Int) (by omega) (by decide)
 subst eD
 subst eE
 rw [show rd_L15 twoD (0 : Int) = [⟨1, 2⟩] from rfl] at hr0 hr1 hr2
 rw [show (rd_T54 ([⟨1, 2⟩] : List DefT) (0 : Int)) = ⟨1, 2⟩ from rfl] at hr1 hr2
 simp only [show ((0 : Int)).toNat = 0 from rfl, Nat.zero_mul, Addr.add_zero', show ([(⟨1, 2⟩ : DefT)]).length = 1 from rfl] at hr0 hr1 hr2
 replace hr0 := pw_cell_below HL.out hr0
 replace hr1 := pw_cell_below HL.out hr1
 replace hr2 := pw_cell_below HL.out hr2
 clear hRC
 have hl2 : twoD.length = 2 := rfl
 rw [hl2]
 clear hl2
 go_wp2
 repeat (go_quiet (fail); try go_wp2)
 go_ret
 exact ⟨rfl, bwQ HB.out⟩
end Go.Proofs.Ytiaohbbafaaibab.P

/- OWN TEXT: two answers that are one, walked: the law's look finds them the same. -/
namespace Go.Proofs.Ytiaohbbafaaibab.P
open Go.RowKit Go.Maps Go.Proofs.YtiaohbbafaaibabW.PrintWords Go.Proofs.YtiaohbbafaaibabW.PrintLast Go.Proofs.YtiaohbbafaaibabW.PrintMore Go.Proofs.Ytiaohbbafaaibab.Arr Go.Proofs.Ytiaohbbafaaibab.MapB Go.Proofs.Ytiaohbbafaaibab.SymM
set_option linter.unusedVariables false
set_option linter.unusedSimpArgs false
def cvs (d : List (List DefT)) : List (List S57) := d.map fun r => r.map cv
theorem cvs_length (d : List (List DefT)) : (cvs d).length = d.length := List.length_map _
theorem cvs_row (d : List (List DefT)) (i : Nat) : rd_L18 (cvs d) (i : Int) = (rd_L15 d (i : Int)).map cv := by
 unfold cvs rd_L18 rd_L15
 rw [Int.toNat_natCast, List.getD_eq_getElem?_getD, List.getD_eq_getElem?_getD, List.getElem?_map]
 cases d[i]? <;> rfl
theorem cvs_at (r : List DefT) (i : Nat) (h : i < r.length) : rd_T57 (r.map cv) (i : Int) = cv (rd_T54 r (i : Int)) := by
 unfold rd_T57 rd_T54
 rw [Int.toNat_natCast, List.getD_eq_getElem?_getD, List.getD_eq_getElem?_getD, List.getElem?_map, List.getElem?_eq_getElem h]
 rfl
set_option maxHeartbeats 8000000 in
set_option maxRecDepth 100000 in
theorem sameS.calls (A0 A1 : Option Addr) (c0 c1 : Nat) (d : List (List DefT)) (w : World) (hr0 : Kd.C (Kd.slice 54 k54) w A0 d.length d) (hr1 : Kd.C (Kd.slice 57 k57) w A1 (cvs d).length (cvs d)) (hl : d.length ≤ 1000000) (hr : ∀ j, (d.getD j []).length ≤ 1000000000) :
  Calls Try.prog 20 #[.slice A0 d.length c0, .slice A1 (cvs d).length c1] w fun e w' => e = .returned (.bool true) ∧ Below w.heap.size w w' := by
 have hu1 := Try.underlying54
 have hu2 := Try.underlying57
 have hlen := cvs_length d
 rw [hlen] at hr1 ⊢
 have HR0 := Aside0.mk hr0
 have HR1 := Aside0.mk hr1
 have HL := Aside0.mk hl
 have HRR := Aside0.mk hr
 have HB := Aside0.mk (Below.refl w.heap.size w)
 clear hr0 hr1 hl hr hlen
 go_enter Try.func20, Try.ntmps20
 go_wp2
 go_loopw [5] (fun u5 wr => ∃ i : Nat, u5 = .int .i64 (i : Int) ∧ i ≤ d.length ∧ Aside0 (Below w.heap.size w wr)) (fun u5 _ => d.length - (intOf u5).toNat)
 case atStart => exact ⟨0, rfl, Nat.zero_le _, HB⟩
 case round =>
  clear HB
  obtain ⟨i, rfl, hile, HB⟩ := hrel
  by_cases hlt : i < d.length
  ·
   have p0 : (0 : Int) ≤ (i : Int) := by omega
   have q0 : (i : Int) < (d.length : Int) := by omega
   obtain ⟨ad0, B0, d0, e0, h0, _, g0⟩ := at_L15 HR0.out (i : Int) p0 q0
   obtain ⟨ad1, B1, d1, e1, h1, _, g1⟩ := at_L18 HR1.out (i : Int) p0 q0
   subst e0
   subst e1
   rw [show ((i : Int)).toNat = i by omega] at h0 h1
   rw [cvs_row, List.length_map] at h1 g1
   have hri := HRR.out i
   rw [show d.getD i [] = rd_L15 d (i : Int) by unfold rd_L15; rw [Int.toNat_natCast]] at hri
   generalize rd_L15 d (i : Int) = r at h0 h1 g0 g1 hri
   have G0 := Aside0.mk g0
   have G1 := Aside0.mk g1
   have H0 := Aside0.mk h0
   have H1 := Aside0.mk h1
   have HRI := Aside0.mk hri
   clear h0 h1 g0 g1 hri
   have h0 := pw_cell_below HB.out H0.out
   have h1 := pw_cell_below HB.out H1.out
   have hltb : decide ((i : Int) < (d.length : Int)) = true := decide_eq_true q0
   have HLT := Aside0.mk hlt
   have HWR := Aside0.mk (show wrap64 ((i : Int) + 1) = ((i + 1 : Nat) : Int) by rw [wrap64_id (by have := HL.out; omega) (by have := HL.out; omega)]; rfl)
   replace p0 := eq_true p0
   replace q0 := eq_true q0
   clear hlt hile
   go_wp2
   repeat (go_quiet (fail); try go_wp2)
   go_loopw [6] (fun u6 wr => ∃ k : Nat, u6 = .int .i64 (k : Int) ∧ k ≤ r.length ∧ Aside0 (Below w.heap.size w wr)) (fun u6 _ => r.length - (intOf u6).toNat)
   case atStart => exact ⟨0, rfl, Nat.zero_le _, ⟨bwQ HB.out⟩⟩
   case round =>
    clear HB h0 h1
    obtain ⟨k, rfl, hkle, HB⟩ := hrel
    have h0 := pw_cell_below HB.out H0.out
    have h1 := pw_cell_below HB.out H1.out
    by_cases hlk : k < r.length
    ·
     have p1 : (0 : Int) ≤ (k : Int) := by omega
     have q1 : (k : Int) < (r.length : Int) := by omega
     obtain ⟨ae, e2, x0, x1⟩ := at_T54 G0.out (k : Int) p1 q1
     obtain ⟨af, e3, y0, y1⟩ := at_T57 G1.out (k : Int) p1 q1
     subst e2
     subst e3
     rw [show ((k : Int)).toNat = k by omega] at x0 x1 y0 y1
     rw [cvs_at r k hlk] at y0 y1
     rw [show ∀ z : DefT, (cv z).f0 = z.f0 from fun _ => rfl] at y0
     rw [show ∀ z : DefT, (cv z).f1 = z.f1 from fun _ => rfl] at y1
     replace x0 := pw_cell_below HB.out x0
     replace x1 := pw_cell_below HB.out x1
     replace y0 := pw_cell_below HB.out y0
     replace y1 := pw_cell_below HB.out y1
     have hltk : decide ((k : Int) < (r.length : Int)) = true := decide_eq_true q1
     have HLK := Aside0.mk hlk
     have HWK := Aside0.mk (show wrap64 ((k : Int) + 1) = ((k + 1 : Nat) : Int) by rw [wrap64_id (by have := HRI.out; omega) (by have := HRI.out; omega)]; rfl)
     replace p1 := eq_true p1
     replace q1 := eq_true q1
     clear hlk hkle
     go_wp2
     repeat (go_quiet (fail); try go_wp2)
     go_roundw
     case measure => have hq := HLK.out; (try rw [HWK.out]); simp only [intOf]; omega
     case rel => exact ⟨k + 1, by first | rfl | (rw [HWK.out]; done), by have := HLK.out; omega, ⟨bwQ HB.out⟩⟩
    ·
     have hk0 : k = r.length := by omega
     subst hk0
     have hltk : decide ((r.length : Int) < (r.length : Int)) = false := by simp
     clear hlk hkle
     go_wp2
     go_roundw
     case measure => have hq := HLT.out; (try rw [HWR.out]); simp only [intOf]; omega
     case rel => exact ⟨i + 1, by first | rfl | (rw [HWR.out]; done), by have := HLT.out; omega, ⟨bwQ HB.out⟩⟩
  ·
   have hi0 : i = d.length := by omega
   subst hi0
   have hltb : decide ((d.length : Int) < (d.length : Int)) = false := by simp
   clear hlt hile
   go_wp2
   go_ret
   exact ⟨rfl, HB.out⟩
end Go.Proofs.Ytiaohbbafaaibab.P
