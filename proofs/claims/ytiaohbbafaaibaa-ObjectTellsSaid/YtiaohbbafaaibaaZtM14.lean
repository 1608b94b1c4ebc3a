/- OWN TEXT and printed parts of this claim, laid together: P38. -/
import Derived.Test.YtiaohbbafaaibaaZtM0
import Derived.Test.YtiaohbbafaaibaaZtM7
import Derived.Test.YtiaohbbafaaibaaZtM8
import Derived.Test.YtiaohbbafaaibaaZtM11
import Derived.Test.YtiaohbbafaaibaaZtM12
import Derived.Test.YtiaohbbafaaibaaZtM6
import Derived.Test.YtiaohbbafaaibaaZtM13
/- What the Go functions named below come to, as plain functions, each with its proof; written by this session's prt.py over the kit's print. -/
namespace Go.Proofs.Ytiaohbbafaaibaa.P
open Go.RowKit Go.Proofs.YtiaohbbafaaibaaW.PrintWords Go.Proofs.YtiaohbbafaaibaaW.PrintLast Go.Proofs.YtiaohbbafaaibaaW.PrintMore
attribute [local go_sem] max2_int min2_int max_two min_two max_three min_three max_four min_four   -- for this text's walks alone
set_option linter.unusedVariables false
set_option linter.unusedSimpArgs false
/-! ### pleatlaw03_ObjectTells: function 13 -/
mutual
def pleatlaw03_ObjectTells.j0 : Nat → ByteArray → Int → Bool → ByteArray → List Int → Int → List Int → List (S120) → List (S130) → Option (Bool)
 | 0, _, _, _, _, _, _, _, _, _ => none
 | k + 1, x1, x2, x18, x782000, x782001, x782002, x782003, x782004, x782005 => if x18 = true then ((pleatlaw03_lives.f k).bind fun t783 => (some t783)) else ((pleatref00_WideObject.f x782000 x782001 x782002 x782003 x782004 x782005).bind fun bt784 => ((object_Check.f bt784.1 bt784.2.1 bt784.2.2.1 bt784.2.2.2.1 bt784.2.2.2.2.1 bt784.2.2.2.2.2).bind fun bt799 => ((pleatref03_Check.f k x782000 x782001 x782002 x782003 x782004 x782005).bind fun bt801 => (if bt799.1 = bt801.1 then (if bt799.2 = bt801.2 then ((object_Of.f k bt784.1 bt784.2.1 bt784.2.2.1 bt784.2.2.2.1 bt784.2.2.2.2.1 bt784.2.2.2.2.2 x1).bind fun t803 => ((pleatref03_Of.f k x782000 x782001 x782002 x782003 x782004 x782005 x1).bind fun t804 => (if t803 = t804 then ((object_At.f k bt784.1 bt784.2.1 bt784.2.2.1 bt784.2.2.2.1 bt784.2.2.2.2.1 bt784.2.2.2.2.2 x2).bind fun t805 => ((pleatref03_At.f k x782000 x782001 x782002 x782003 x782004 x782005 x2).bind fun t806 => (pleatlaw03_ObjectTells.j1 k (t805 != t806) x782000 x782001 x782002 x782003 x782004 x782005 bt784.1 bt784.2.1 bt784.2.2.1 bt784.2.2.2.1 bt784.2.2.2.2.1 bt784.2.2.2.2.2))) else (pleatlaw03_ObjectTells.j1 k true x782000 x782001 x782002 x782003 x782004 x782005 bt784.1 bt784.2.1 bt784.2.2.1 bt784.2.2.2.1 bt784.2.2.2.2.1 bt784.2.2.2.2.2)))) else (pleatlaw03_ObjectTells.j1 k true x782000 x782001 x782002 x782003 x782004 x782005 bt784.1 bt784.2.1 bt784.2.2.1 bt784.2.2.2.1 bt784.2.2.2.2.1 bt784.2.2.2.2.2)) else (pleatlaw03_ObjectTells.j1 k true x782000 x782001 x782002 x782003 x782004 x782005 bt784.1 bt784.2.1 bt784.2.2.1 bt784.2.2.2.1 bt784.2.2.2.2.1 bt784.2.2.2.2.2)))))
def pleatlaw03_ObjectTells.j1 : Nat → Bool → ByteArray → List Int → Int → List Int → List (S120) → List (S130) → ByteArray → List Int → Int → List Int → List (S120) → List (S130) → Option (Bool)
 | 0, _, _, _, _, _, _, _, _, _, _, _, _, _ => none
 | k + 1, x57, x782000, x782001, x782002, x782003, x782004, x782005, x799000, x799001, x799002, x799003, x799004, x799005 => if x57 = true then (some false) else ((pleatref00_EqObject.f k x799000 x799001 x799002 x799003 x799004 x799005 x782000 x782001 x782002 x782003 x782004 x782005).bind fun t807 => (if t807 = true then ((pleatref00_SpareObject.f x799000 x799001 x799002 x799003 x799004 x799005).bind fun t808 => (if t808 = true then ((pleatlaw03_lives.f k).bind fun t809 => (some t809)) else (some false))) else (some false)))
end
def pleatlaw03_ObjectTells.f (k : Nat) (a0_0 : ByteArray) (l0_1 : List Int) (a0_2 : Int) (l0_3 : List Int) (l0_4 : List (S120)) (l0_5 : List (S130)) (a1 : ByteArray) (a2 : Int) : Option (Bool) := (pleatlaw03_heavy.f k a0_0 l0_1 a0_2 l0_3 l0_4 l0_5).bind fun t782 => (if t782 = true then (pleatlaw03_ObjectTells.j0 k a1 a2 true a0_0 l0_1 a0_2 l0_3 l0_4 l0_5) else (pleatlaw03_ObjectTells.j0 k a1 a2 (decide ((a1.size : Int) > 1048576)) a0_0 l0_1 a0_2 l0_3 l0_4 l0_5))
theorem pleatlaw03_ObjectTells.mono_l : ∀ k, (∀ y0 y1 y2 y3 y4 y5 y6 y7 y8, LeO (pleatlaw03_ObjectTells.j0 k y0 y1 y2 y3 y4 y5 y6 y7 y8) (pleatlaw03_ObjectTells.j0 (k + 1) y0 y1 y2 y3 y4 y5 y6 y7 y8)) ∧ (∀ y0 y1 y2 y3 y4 y5 y6 y7 y8 y9 y10 y11 y12, LeO (pleatlaw03_ObjectTells.j1 k y0 y1 y2 y3 y4 y5 y6 y7 y8 y9 y10 y11 y12) (pleatlaw03_ObjectTells.j1 (k + 1) y0 y1 y2 y3 y4 y5 y6 y7 y8 y9 y10 y11 y12))
 | 0 => ⟨fun _ _ _ _ _ _ _ _ _ r h => by simp [pleatlaw03_ObjectTells.j0] at h, fun _ _ _ _ _ _ _ _ _ _ _ _ _ r h => by simp [pleatlaw03_ObjectTells.j1] at h⟩
 | k + 1 => by
  obtain ⟨ih0, ih1⟩ := pleatlaw03_ObjectTells.mono_l k
  refine ⟨?_, ?_⟩
  ·
   intro y0 y1 y2 y3 y4 y5 y6 y7 y8
   unfold pleatlaw03_ObjectTells.j0
   repeat' first
   | (with_reducible exact ih0 _ _ _ _ _ _ _ _ _)
   | (with_reducible exact ih1 _ _ _ _ _ _ _ _ _ _ _ _ _)
   | (with_reducible exact object_At.mono _ _ _ _ _ _ _ _)
   | (with_reducible exact object_Of.mono _ _ _ _ _ _ _ _)
   | (with_reducible exact pleatlaw03_heavy.mono _ _ _ _ _ _ _)
   | (with_reducible exact pleatlaw03_lives.mono _)
   | (with_reducible exact pleatref00_EqObject.mono _ _ _ _ _ _ _ _ _ _ _ _ _)
   | (with_reducible exact pleatref03_At.mono _ _ _ _ _ _ _ _)
   | (with_reducible exact pleatref03_Check.mono _ _ _ _ _ _ _)
   | (with_reducible exact pleatref03_Of.mono _ _ _ _ _ _ _ _)
   | (with_reducible exact LeO.refl _)
   | (with_reducible exact LeO.none _)
   | (with_reducible refine LeO.ite ?_ ?_)
   | (with_reducible refine LeO.bind ?_ (fun _ => ?_))
   | exact ih0 _ _ _ _ _ _ _ _ _
   | exact ih1 _ _ _ _ _ _ _ _ _ _ _ _ _
   | exact object_At.mono _ _ _ _ _ _ _ _
   | exact object_Of.mono _ _ _ _ _ _ _ _
   | exact pleatlaw03_heavy.mono _ _ _ _ _ _ _
   | exact pleatlaw03_lives.mono _
   | exact pleatref00_EqObject.mono _ _ _ _ _ _ _ _ _ _ _ _ _
   | exact pleatref03_At.mono _ _ _ _ _ _ _ _
   | exact pleatref03_Check.mono _ _ _ _ _ _ _
   | exact pleatref03_Of.mono _ _ _ _ _ _ _ _
   | exact LeO.none _
   | refine LeO.ite ?_ ?_
   | refine LeO.bind ?_ (fun _ => ?_)
  ·
   intro y0 y1 y2 y3 y4 y5 y6 y7 y8 y9 y10 y11 y12
   unfold pleatlaw03_ObjectTells.j1
   repeat' first
   | (with_reducible exact ih0 _ _ _ _ _ _ _ _ _)
   | (with_reducible exact ih1 _ _ _ _ _ _ _ _ _ _ _ _ _)
   | (with_reducible exact object_At.mono _ _ _ _ _ _ _ _)
   | (with_reducible exact object_Of.mono _ _ _ _ _ _ _ _)
   | (with_reducible exact pleatlaw03_heavy.mono _ _ _ _ _ _ _)
   | (with_reducible exact pleatlaw03_lives.mono _)
   | (with_reducible exact pleatref00_EqObject.mono _ _ _ _ _ _ _ _ _ _ _ _ _)
   | (with_reducible exact pleatref03_At.mono _ _ _ _ _ _ _ _)
   | (with_reducible exact pleatref03_Check.mono _ _ _ _ _ _ _)
   | (with_reducible exact pleatref03_Of.mono _ _ _ _ _ _ _ _)
   | (with_reducible exact LeO.refl _)
   | (with_reducible exact LeO.none _)
   | (with_reducible refine LeO.ite ?_ ?_)
   | (with_reducible refine LeO.bind ?_ (fun _ => ?_))
   | exact ih0 _ _ _ _ _ _ _ _ _
   | exact ih1 _ _ _ _ _ _ _ _ _ _ _ _ _
   | exact object_At.mono _ _ _ _ _ _ _ _
   | exact object_Of.mono _ _ _ _ _ _ _ _
   | exact pleatlaw03_heavy.mono _ _ _ _ _ _ _
   | exact pleatlaw03_lives.mono _
   | exact pleatref00_EqObject.mono _ _ _ _ _ _ _ _ _ _ _ _ _
   | exact pleatref03_At.mono _ _ _ _ _ _ _ _
   | exact pleatref03_Check.mono _ _ _ _ _ _ _
   | exact pleatref03_Of.mono _ _ _ _ _ _ _ _
   | exact LeO.none _
   | refine LeO.ite ?_ ?_
   | refine LeO.bind ?_ (fun _ => ?_)
theorem pleatlaw03_ObjectTells.mono : ∀ a0 a1 a2 a3 a4 a5 a6 a7 k, LeO (pleatlaw03_ObjectTells.f k a0 a1 a2 a3 a4 a5 a6 a7) (pleatlaw03_ObjectTells.f (k + 1) a0 a1 a2 a3 a4 a5 a6 a7) := by
 intro a0 a1 a2 a3 a4 a5 a6 a7 k
 obtain ⟨ih0, ih1⟩ := pleatlaw03_ObjectTells.mono_l k
 unfold pleatlaw03_ObjectTells.f
 repeat' first
   | (with_reducible exact ih0 _ _ _ _ _ _ _ _ _)
   | (with_reducible exact ih1 _ _ _ _ _ _ _ _ _ _ _ _ _)
   | (with_reducible exact object_At.mono _ _ _ _ _ _ _ _)
   | (with_reducible exact object_Of.mono _ _ _ _ _ _ _ _)
   | (with_reducible exact pleatlaw03_heavy.mono _ _ _ _ _ _ _)
   | (with_reducible exact pleatlaw03_lives.mono _)
   | (with_reducible exact pleatref00_EqObject.mono _ _ _ _ _ _ _ _ _ _ _ _ _)
   | (with_reducible exact pleatref03_At.mono _ _ _ _ _ _ _ _)
   | (with_reducible exact pleatref03_Check.mono _ _ _ _ _ _ _)
   | (with_reducible exact pleatref03_Of.mono _ _ _ _ _ _ _ _)
   | (with_reducible exact LeO.refl _)
   | (with_reducible exact LeO.none _)
   | (with_reducible refine LeO.ite ?_ ?_)
   | (with_reducible refine LeO.bind ?_ (fun _ => ?_))
   | exact ih0 _ _ _ _ _ _ _ _ _
   | exact ih1 _ _ _ _ _ _ _ _ _ _ _ _ _
   | exact object_At.mono _ _ _ _ _ _ _ _
   | exact object_Of.mono _ _ _ _ _ _ _ _
   | exact pleatlaw03_heavy.mono _ _ _ _ _ _ _
   | exact pleatlaw03_lives.mono _
   | exact pleatref00_EqObject.mono _ _ _ _ _ _ _ _ _ _ _ _ _
   | exact pleatref03_At.mono _ _ _ _ _ _ _ _
   | exact pleatref03_Check.mono _ _ _ _ _ _ _
   | exact pleatref03_Of.mono _ _ _ _ _ _ _ _
   | exact LeO.none _
   | refine LeO.ite ?_ ?_
   | refine LeO.bind ?_ (fun _ => ?_)
def pleatlaw03_ObjectTells.T6 : Bool × List (List Nat × List Nat) := (true, [([], []), ([], []), ([0, 1], [0, 1]), ([2], [2]), ([3], [3]), ([3], [3]), ([4, 5, 3], [3, 4, 5]), ([3, 6], [3, 6]), ([7, 3], [7]), ([8], [8]), ([8], [8]), ([9, 10, 8, 8], [8, 9, 10]), ([8], [8]), ([8], [8]), ([12, 13, 11, 8], [8, 12, 13]), ([11, 14, 8], [8, 11, 14]), ([8, 15], [8, 15]), ([16, 14], [16]), ([17], [17]), ([17], [17]), ([18, 19, 17, 17], [17, 18, 19]), ([17], [17]), ([17], [17]), ([21, 22, 20, 17], [17, 21, 22]), ([20, 23, 17], [17, 20, 23]), ([17, 24], [17, 24])])
def pleatlaw03_ObjectTells.B6 : List Nat := [0, 0, 3, 7, 15, 15, 63, 127, 255, 511, 511, 2047, 511, 511, 16383, 32767, 65535, 131071, 262143, 262143, 1048575, 262143, 262143, 8388607, 16777215, 33554431]
theorem pleatlaw03_ObjectTells.tab6 : rtab .any (opsOf Try.f13 6) = pleatlaw03_ObjectTells.T6 := by kernel_rfl
theorem pleatlaw03_ObjectTells.bits6 : waitsOk pleatlaw03_ObjectTells.T6.2 pleatlaw03_ObjectTells.B6 = true := by kernel_rfl
theorem pleatlaw03_ObjectTells.no {k : Nat} {r : Bool} {a b c d e f a' b' c' d' e' f'} (h : pleatlaw03_ObjectTells.j1 k true a b c d e f a' b' c' d' e' f' = some r) : r = false := by
 cases k with
 | zero => simp [pleatlaw03_ObjectTells.j1] at h
 | succ k =>
  simp only [pleatlaw03_ObjectTells.j1, if_true] at h
  exact (Option.some.inj h).symm
set_option maxHeartbeats 8000000 in
set_option maxRecDepth 100000 in
theorem pleatlaw03_ObjectTells.callsT (k : Nat) (a0_0 : ByteArray) (A0_1 : Option Addr) (c0_1 : Nat) (l0_1 : List Int) (a0_2 : Int) (A0_3 : Option Addr) (c0_3 : Nat) (l0_3 : List Int) (A0_4 : Option Addr) (c0_4 : Nat) (l0_4 : List (S120)) (A0_5 : Option Addr) (c0_5 : Nat) (l0_5 : List (S130)) (a1 : ByteArray) (a2 : Int) (r : Bool) (w : World) (hr0_1 : Kd.C (Kd.int .u32) w A0_1 l0_1.length l0_1) (hc0_1 : l0_1.length ≤ c0_1) (hr0_3 : Kd.C (Kd.int .i64) w A0_3 l0_3.length l0_3) (hc0_3 : l0_3.length ≤ c0_3) (hr0_4 : Kd.C k120 w A0_4 l0_4.length l0_4) (hc0_4 : l0_4.length ≤ c0_4) (hr0_5 : Kd.C k130 w A0_5 l0_5.length l0_5) (hc0_5 : l0_5.length ≤ c0_5) (h : pleatlaw03_ObjectTells.f k a0_0 l0_1 a0_2 l0_3 l0_4 l0_5 a1 a2 = some r) (hrt : r = true) :
  Calls Try.prog 13 #[.agg #[.string a0_0, .slice A0_1 l0_1.length c0_1, .int .i64 a0_2, .slice A0_3 l0_3.length c0_3, .slice A0_4 l0_4.length c0_4, .slice A0_5 l0_5.length c0_5], .string a1, .int .i64 a2] w fun e w' => e = .returned (.bool r) ∧ Below w.heap.size w w' := by
 have HRT := Aside0.mk hrt
 clear hrt
 have hu88 := Try.underlying88
 have HR0_1 := Aside0.mk hr0_1
 have HC0_1 := Aside0.mk hc0_1
 clear hr0_1 hc0_1
 have HR0_3 := Aside0.mk hr0_3
 have HC0_3 := Aside0.mk hc0_3
 clear hr0_3 hc0_3
 have HR0_4 := Aside0.mk hr0_4
 have HC0_4 := Aside0.mk hc0_4
 clear hr0_4 hc0_4
 have HR0_5 := Aside0.mk hr0_5
 have HC0_5 := Aside0.mk hc0_5
 clear hr0_5 hc0_5
 have HB := Aside0.mk (Below.refl w.heap.size w)
 have H : ((pleatlaw03_heavy.f k a0_0 l0_1 a0_2 l0_3 l0_4 l0_5).bind fun t782 => (if t782 = true then (pleatlaw03_ObjectTells.j0 k a1 a2 true a0_0 l0_1 a0_2 l0_3 l0_4 l0_5) else (pleatlaw03_ObjectTells.j0 k a1 a2 (decide ((a1.size : Int) > 1048576)) a0_0 l0_1 a0_2 l0_3 l0_4 l0_5))) = some r := h
 clear h
 have HC4 := Aside0.mk H
 clear H
 go_enter Try.func13, Try.ntmps13
 go_upto_region 1 with (first | ((with_reducible refine gate_dst (N := 3) rfl ?_); (try (refine gate_guard (by rfl) ?_; dsimp only)); refine box_event ?hg (N := 3) ?hd (cs := #[.string a0_0, .slice A0_1 l0_1.length c0_1, .int .i64 a0_2, .slice A0_3 l0_3.length c0_3, .slice A0_4 l0_4.length c0_4, .slice A0_5 l0_5.length c0_5]) (t := 88) ?hr ?_; (case hd => rfl); (case hg => rfl); (case hr => first | (go_simp; done) | (go_simp; rfl)); intro gb781 hg w5 hbox hb; have n0_ := Aside0.mk (below_step (by repeat (first | (with_reducible first | exact HB.out | apply below_alloc | apply pw_below_drewN | apply below_drew1) | exact HB.out)) hb); have n1_ := Aside0.mk (hbox); have n2_ := Aside0.mk ((by rw [hg]; exact (below_size (by repeat (first | (with_reducible first | exact HB.out | apply below_alloc | apply pw_below_drewN | apply below_drew1) | exact HB.out))) : w.heap.size ≤ gb781)); have n3_ := Aside0.mk ((by rw [hg]; exact (below_size (by repeat (first | (with_reducible first | exact HB.out | apply below_alloc | apply pw_below_drewN | apply below_drew1) | exact HB.out))) : w.heap.size ≤ gb781)); clear HB; have HB := n0_; have BK781 := n1_; have GW781 := n2_; have GE781 := n3_; clear n0_ n1_ n2_ n3_; clear hb hbox hg))
 (try simp only [Act.put, List.setIfInBounds_toArray, List.set_cons_zero, List.set_cons_succ])
 go_cut [18] (fun v18 wc => ∃ (kq : Nat) (x18_3 : Bool), v18 = .bool x18_3 ∧ Aside0 (pleatlaw03_ObjectTells.j0 kq a1 a2 x18_3 a0_0 l0_1 a0_2 l0_3 l0_4 l0_5 = some r) ∧ Aside0 (kq ≤ k) ∧ Aside0 (wc.heap[gb781]? = some (.cells #[.string a0_0, (.slice A0_1 l0_1.length c0_1), .int .i64 a0_2, (.slice A0_3 l0_3.length c0_3), (.slice A0_4 l0_4.length c0_4), (.slice A0_5 l0_5.length c0_5)] 88 (0, 0))) ∧ Aside0 (Below w.heap.size w wc))
 case first =>
  have H := HC4.out
  clear HC4
  replace H := Option.bind_eq_some_iff.mp H
  obtain ⟨t782, A60, H⟩ := H
  try dsimp only at H
  have A6 := Aside0.mk A60
  clear A60
  by_cases c7 : t782 = true
  ·
   subst c7
   have H1 : (pleatlaw03_ObjectTells.j0 k a1 a2 true a0_0 l0_1 a0_2 l0_3 l0_4 l0_5) = some r := by rw [if_pos rfl] at H; exact H
   clear H
   have H := H1
   clear H1
   have H' := Aside0.mk H
   clear H
   have hcz8_0 : w5.cell? ⟨gb781, 0, none⟩ = some (.string a0_0) := (blk_cell BK781.out 0).trans rfl
   have hcz8_1 : w5.cell? ⟨gb781, 1, none⟩ = some (.slice A0_1 l0_1.length c0_1) := (blk_cell BK781.out 1).trans rfl
   have hcz8_2 : w5.cell? ⟨gb781, 2, none⟩ = some (.int .i64 a0_2) := (blk_cell BK781.out 2).trans rfl
   have hcz8_3 : w5.cell? ⟨gb781, 3, none⟩ = some (.slice A0_3 l0_3.length c0_3) := (blk_cell BK781.out 3).trans rfl
   have hcz8_4 : w5.cell? ⟨gb781, 4, none⟩ = some (.slice A0_4 l0_4.length c0_4) := (blk_cell BK781.out 4).trans rfl
   have hcz8_5 : w5.cell? ⟨gb781, 5, none⟩ = some (.slice A0_5 l0_5.length c0_5) := (blk_cell BK781.out 5).trans rfl
   have hfz8_0 := blk_frozen BK781.out 0
   have hfz8_1 := blk_frozen BK781.out 1
   have hfz8_2 := blk_frozen BK781.out 2
   have hfz8_3 := blk_frozen BK781.out 3
   have hfz8_4 := blk_frozen BK781.out 4
   have hfz8_5 := blk_frozen BK781.out 5
   go_wp2_with (first | ((with_reducible refine gate_callee (f := 72) rfl ?_); refine goesL_ (some 13) rfl rfl Try.func72 (by kernel_rfl) rfl #[.agg #[.string a0_0, .slice A0_1 l0_1.length c0_1, .int .i64 a0_2, .slice A0_3 l0_3.length c0_3, .slice A0_4 l0_4.length c0_4, .slice A0_5 l0_5.length c0_5]] rfl (by (try simp only [List.map_toArray, List.map_cons, List.map_nil]); first | done | rfl | (simp only [List.length_drop, List.length_take]; rfl)) ?_; (with_reducible refine (pleatlaw03_heavy.calls k a0_0 _ _ l0_1 a0_2 _ _ l0_3 _ _ l0_4 _ _ l0_5 true _ ?side1 ?side2 ?side3 ?side4 ?side5 ?side6 ?side7 ?side8 A6.out).mono ?_); (case side1 => repeat (first | exact (Kd.C_below HR0_1.out HB.out) | (with_reducible refine Kd.C_alloc ?_ _) | (with_reducible refine Kd.C_drewN ?_ _) | (with_reducible refine Kd.C_drew ?_))); (case side2 => exact HC0_1.out); (case side3 => repeat (first | exact (Kd.C_below HR0_3.out HB.out) | (with_reducible refine Kd.C_alloc ?_ _) | (with_reducible refine Kd.C_drewN ?_ _) | (with_reducible refine Kd.C_drew ?_))); (case side4 => exact HC0_3.out); (case side5 => repeat (first | exact (Kd.C_below HR0_4.out HB.out) | (with_reducible refine Kd.C_alloc ?_ _) | (with_reducible refine Kd.C_drewN ?_ _) | (with_reducible refine Kd.C_drew ?_))); (case side6 => exact HC0_4.out); (case side7 => repeat (first | exact (Kd.C_below HR0_5.out HB.out) | (with_reducible refine Kd.C_alloc ?_ _) | (with_reducible refine Kd.C_drewN ?_ _) | (with_reducible refine Kd.C_drew ?_))); (case side8 => exact HC0_5.out); rintro e w9 ⟨rfl, hb⟩; refine ⟨_, rfl, ?_⟩; have n0_ := Aside0.mk (blk_below (g := gb781) (o := .cells #[.string a0_0, .slice A0_1 l0_1.length c0_1, .int .i64 a0_2, .slice A0_3 l0_3.length c0_3, .slice A0_4 l0_4.length c0_4, .slice A0_5 l0_5.length c0_5] 88 (0, 0)) (by (with_reducible repeat (first | refine blk_drewN ?_ _ | refine blk_drew ?_ | refine blk_alloc ?_ _)); exact BK781.out) hb); have n1_ := Aside0.mk (below_step (by repeat (first | (with_reducible first | exact HB.out | apply below_alloc | apply pw_below_drewN | apply below_drew1 | refine below_set ?_ GE781.out) | exact HB.out)) hb); clear BK781; clear HB; have BK781 := n0_; have HB := n1_; clear n0_ n1_; (try clear hb); (try clear hb2); (try clear hk); (try clear hi)))
   go_meet
   case rel => exact ⟨_, (true), (by first | rfl | (simp; done) | (simp [*]; done)), H', ⟨by first | omega | exact Nat.le_refl _⟩, ⟨by (with_reducible repeat (first | refine blk_drewN ?_ _ | refine blk_drew ?_ | refine blk_alloc ?_ _)); exact BK781.out⟩, ⟨by repeat (first | (with_reducible first | exact HB.out | apply below_alloc | apply pw_below_drewN | apply below_drew1 | refine below_set ?_ GE781.out) | exact HB.out)⟩⟩
  ·
   replace c7 := Bool.eq_false_iff.mpr c7
   subst c7
   have H1 : (pleatlaw03_ObjectTells.j0 k a1 a2 (decide ((a1.size : Int) > 1048576)) a0_0 l0_1 a0_2 l0_3 l0_4 l0_5) = some r := by rw [if_neg (show ¬ (false = true) by decide)] at H; exact H
   clear H
   have H := H1
   clear H1
   have H' := Aside0.mk H
   clear H
   have hcz10_0 : w5.cell? ⟨gb781, 0, none⟩ = some (.string a0_0) := (blk_cell BK781.out 0).trans rfl
   have hcz10_1 : w5.cell? ⟨gb781, 1, none⟩ = some (.slice A0_1 l0_1.length c0_1) := (blk_cell BK781.out 1).trans rfl
   have hcz10_2 : w5.cell? ⟨gb781, 2, none⟩ = some (.int .i64 a0_2) := (blk_cell BK781.out 2).trans rfl
   have hcz10_3 : w5.cell? ⟨gb781, 3, none⟩ = some (.slice A0_3 l0_3.length c0_3) := (blk_cell BK781.out 3).trans rfl
   have hcz10_4 : w5.cell? ⟨gb781, 4, none⟩ = some (.slice A0_4 l0_4.length c0_4) := (blk_cell BK781.out 4).trans rfl
   have hcz10_5 : w5.cell? ⟨gb781, 5, none⟩ = some (.slice A0_5 l0_5.length c0_5) := (blk_cell BK781.out 5).trans rfl
   have hfz10_0 := blk_frozen BK781.out 0
   have hfz10_1 := blk_frozen BK781.out 1
   have hfz10_2 := blk_frozen BK781.out 2
   have hfz10_3 := blk_frozen BK781.out 3
   have hfz10_4 := blk_frozen BK781.out 4
   have hfz10_5 := blk_frozen BK781.out 5
   go_wp2_with (first | ((with_reducible refine gate_callee (f := 72) rfl ?_); refine goesL_ (some 13) rfl rfl Try.func72 (by kernel_rfl) rfl #[.agg #[.string a0_0, .slice A0_1 l0_1.length c0_1, .int .i64 a0_2, .slice A0_3 l0_3.length c0_3, .slice A0_4 l0_4.length c0_4, .slice A0_5 l0_5.length c0_5]] rfl (by (try simp only [List.map_toArray, List.map_cons, List.map_nil]); first | done | rfl | (simp only [List.length_drop, List.length_take]; rfl)) ?_; (with_reducible refine (pleatlaw03_heavy.calls k a0_0 _ _ l0_1 a0_2 _ _ l0_3 _ _ l0_4 _ _ l0_5 false _ ?side1 ?side2 ?side3 ?side4 ?side5 ?side6 ?side7 ?side8 A6.out).mono ?_); (case side1 => repeat (first | exact (Kd.C_below HR0_1.out HB.out) | (with_reducible refine Kd.C_alloc ?_ _) | (with_reducible refine Kd.C_drewN ?_ _) | (with_reducible refine Kd.C_drew ?_))); (case side2 => exact HC0_1.out); (case side3 => repeat (first | exact (Kd.C_below HR0_3.out HB.out) | (with_reducible refine Kd.C_alloc ?_ _) | (with_reducible refine Kd.C_drewN ?_ _) | (with_reducible refine Kd.C_drew ?_))); (case side4 => exact HC0_3.out); (case side5 => repeat (first | exact (Kd.C_below HR0_4.out HB.out) | (with_reducible refine Kd.C_alloc ?_ _) | (with_reducible refine Kd.C_drewN ?_ _) | (with_reducible refine Kd.C_drew ?_))); (case side6 => exact HC0_4.out); (case side7 => repeat (first | exact (Kd.C_below HR0_5.out HB.out) | (with_reducible refine Kd.C_alloc ?_ _) | (with_reducible refine Kd.C_drewN ?_ _) | (with_reducible refine Kd.C_drew ?_))); (case side8 => exact HC0_5.out); rintro e w11 ⟨rfl, hb⟩; refine ⟨_, rfl, ?_⟩; have n0_ := Aside0.mk (blk_below (g := gb781) (o := .cells #[.string a0_0, .slice A0_1 l0_1.length c0_1, .int .i64 a0_2, .slice A0_3 l0_3.length c0_3, .slice A0_4 l0_4.length c0_4, .slice A0_5 l0_5.length c0_5] 88 (0, 0)) (by (with_reducible repeat (first | refine blk_drewN ?_ _ | refine blk_drew ?_ | refine blk_alloc ?_ _)); exact BK781.out) hb); have n1_ := Aside0.mk (below_step (by repeat (first | (with_reducible first | exact HB.out | apply below_alloc | apply pw_below_drewN | apply below_drew1 | refine below_set ?_ GE781.out) | exact HB.out)) hb); clear BK781; clear HB; have BK781 := n0_; have HB := n1_; clear n0_ n1_; (try clear hb); (try clear hb2); (try clear hk); (try clear hi)))
   go_meet
   case rel => exact ⟨_, (decide ((a1.size : Int) > 1048576)), (by first | rfl | (simp; done) | (simp [*]; done)), H', ⟨by first | omega | exact Nat.le_refl _⟩, ⟨by (with_reducible repeat (first | refine blk_drewN ?_ _ | refine blk_drew ?_ | refine blk_alloc ?_ _)); exact BK781.out⟩, ⟨by repeat (first | (with_reducible first | exact HB.out | apply below_alloc | apply pw_below_drewN | apply below_drew1 | refine below_set ?_ GE781.out) | exact HB.out)⟩⟩
 case rest =>
  clear HC4
  try clear c1
  try clear p2
  try clear c7
  try clear hcz10_0
  try clear hcz10_1
  try clear hcz10_2
  try clear hcz10_3
  try clear hcz10_4
  try clear hcz10_5
  try clear hcz8_0
  try clear hcz8_1
  try clear hcz8_2
  try clear hcz8_3
  try clear hcz8_4
  try clear hcz8_5
  try clear hfz10_0
  try clear hfz10_1
  try clear hfz10_2
  try clear hfz10_3
  try clear hfz10_4
  try clear hfz10_5
  try clear hfz8_0
  try clear hfz8_1
  try clear hfz8_2
  try clear hfz8_3
  try clear hfz8_4
  try clear hfz8_5
  obtain ⟨kq, x18_3, rfl, HA, HJ3, BK781, HB⟩ := hcut
  cases kq with
  | zero => exact absurd HA.out (by simp [pleatlaw03_ObjectTells.j0])
  | succ kj3 =>
   have H := HA.out
   clear HA
   simp only [pleatlaw03_ObjectTells.j0] at H
   by_cases c12 : x18_3 = true
   ·
    subst c12
    have H1 : ((pleatlaw03_lives.f kj3).bind fun t783 => (some t783)) = some r := by rw [if_pos rfl] at H; exact H
    clear H
    have H := H1
    clear H1
    replace H := Option.bind_eq_some_iff.mp H
    obtain ⟨t783, A130, H⟩ := H
    try dsimp only at H
    have A13 := Aside0.mk A130
    clear A130
    obtain rfl := Option.some.inj H
    go_wp2_with (first | ((with_reducible refine gate_callee (f := 73) rfl ?_); refine goesL_ (some 19) rfl rfl Try.func73 (by kernel_rfl) rfl #[] rfl (by (try simp only [List.map_toArray, List.map_cons, List.map_nil]); first | done | rfl | (simp only [List.length_drop, List.length_take]; rfl)) ?_; (with_reducible refine (pleatlaw03_lives.calls kj3  t783 _ A13.out).mono ?_); rintro e w14 ⟨rfl, hb⟩; refine ⟨_, rfl, ?_⟩; have n0_ := Aside0.mk (blk_below (g := gb781) (o := .cells #[.string a0_0, .slice A0_1 l0_1.length c0_1, .int .i64 a0_2, .slice A0_3 l0_3.length c0_3, .slice A0_4 l0_4.length c0_4, .slice A0_5 l0_5.length c0_5] 88 (0, 0)) (by (with_reducible repeat (first | refine blk_drewN ?_ _ | refine blk_drew ?_ | refine blk_alloc ?_ _)); exact BK781.out) hb); have n1_ := Aside0.mk (below_step (by repeat (first | (with_reducible first | exact HB.out | apply below_alloc | apply pw_below_drewN | apply below_drew1 | refine below_set ?_ GE781.out) | exact HB.out)) hb); clear BK781; clear HB; have BK781 := n0_; have HB := n1_; clear n0_ n1_; (try clear hb); (try clear hb2); (try clear hk); (try clear hi)))
    go_ret
    exact ⟨by first | rfl | (simp [errW_none, errW_some] <;> rfl) | (simp [*, errW_none, errW_some] <;> rfl), by repeat (first | (with_reducible first | exact HB.out | apply below_alloc | apply pw_below_drewN | apply below_drew1 | refine below_set ?_ GE781.out) | exact HB.out)⟩
   ·
    replace c12 := Bool.eq_false_iff.mpr c12
    subst c12
    have H1 : ((pleatref00_WideObject.f a0_0 l0_1 a0_2 l0_3 l0_4 l0_5).bind fun bt784 => ((object_Check.f bt784.1 bt784.2.1 bt784.2.2.1 bt784.2.2.2.1 bt784.2.2.2.2.1 bt784.2.2.2.2.2).bind fun bt799 => ((pleatref03_Check.f kj3 a0_0 l0_1 a0_2 l0_3 l0_4 l0_5).bind fun bt801 => (if bt799.1 = bt801.1 then (if bt799.2 = bt801.2 then ((object_Of.f kj3 bt784.1 bt784.2.1 bt784.2.2.1 bt784.2.2.2.1 bt784.2.2.2.2.1 bt784.2.2.2.2.2 a1).bind fun t803 => ((pleatref03_Of.f kj3 a0_0 l0_1 a0_2 l0_3 l0_4 l0_5 a1).bind fun t804 => (if t803 = t804 then ((object_At.f kj3 bt784.1 bt784.2.1 bt784.2.2.1 bt784.2.2.2.1 bt784.2.2.2.2.1 bt784.2.2.2.2.2 a2).bind fun t805 => ((pleatref03_At.f kj3 a0_0 l0_1 a0_2 l0_3 l0_4 l0_5 a2).bind fun t806 => (pleatlaw03_ObjectTells.j1 kj3 (t805 != t806) a0_0 l0_1 a0_2 l0_3 l0_4 l0_5 bt784.1 bt784.2.1 bt784.2.2.1 bt784.2.2.2.1 bt784.2.2.2.2.1 bt784.2.2.2.2.2))) else (pleatlaw03_ObjectTells.j1 kj3 true a0_0 l0_1 a0_2 l0_3 l0_4 l0_5 bt784.1 bt784.2.1 bt784.2.2.1 bt784.2.2.2.1 bt784.2.2.2.2.1 bt784.2.2.2.2.2)))) else (pleatlaw03_ObjectTells.j1 kj3 true a0_0 l0_1 a0_2 l0_3 l0_4 l0_5 bt784.1 bt784.2.1 bt784.2.2.1 bt784.2.2.2.1 bt784.2.2.2.2.1 bt784.2.2.2.2.2)) else (pleatlaw03_ObjectTells.j1 kj3 true a0_0 l0_1 a0_2 l0_3 l0_4 l0_5 bt784.1 bt784.2.1 bt784.2.2.1 bt784.2.2.2.1 bt784.2.2.2.2.1 bt784.2.2.2.2.2))))) = some r := by rw [if_neg (show ¬ (false = true) by decide)] at H; exact H
    clear H
    have H := H1
    clear H1
    replace H := Option.bind_eq_some_iff.mp H
    obtain ⟨⟨t784, t785, t788, t789, t792, t795⟩, A150, H⟩ := H
    try dsimp only at H
    have A15 := Aside0.mk A150
    clear A150
    replace H := Option.bind_eq_some_iff.mp H
    obtain ⟨⟨t799, t800⟩, A160, H⟩ := H
    try dsimp only at H
    have A16 := Aside0.mk A160
    clear A160
    replace H := Option.bind_eq_some_iff.mp H
    obtain ⟨⟨t801, t802⟩, A170, H⟩ := H
    try dsimp only at H
    have A17 := Aside0.mk A170
    clear A170
    have HC18 := Aside0.mk H
    clear H
    have hcz19_0 : wc.cell? ⟨gb781, 0, none⟩ = some (.string a0_0) := (blk_cell BK781.out 0).trans rfl
    have hcz19_1 : wc.cell? ⟨gb781, 1, none⟩ = some (.slice A0_1 l0_1.length c0_1) := (blk_cell BK781.out 1).trans rfl
    have hcz19_2 : wc.cell? ⟨gb781, 2, none⟩ = some (.int .i64 a0_2) := (blk_cell BK781.out 2).trans rfl
    have hcz19_3 : wc.cell? ⟨gb781, 3, none⟩ = some (.slice A0_3 l0_3.length c0_3) := (blk_cell BK781.out 3).trans rfl
    have hcz19_4 : wc.cell? ⟨gb781, 4, none⟩ = some (.slice A0_4 l0_4.length c0_4) := (blk_cell BK781.out 4).trans rfl
    have hcz19_5 : wc.cell? ⟨gb781, 5, none⟩ = some (.slice A0_5 l0_5.length c0_5) := (blk_cell BK781.out 5).trans rfl
    have hfz19_0 := blk_frozen BK781.out 0
    have hfz19_1 := blk_frozen BK781.out 1
    have hfz19_2 := blk_frozen BK781.out 2
    have hfz19_3 := blk_frozen BK781.out 3
    have hfz19_4 := blk_frozen BK781.out 4
    have hfz19_5 := blk_frozen BK781.out 5
    go_upto_region 6 with (first | ((with_reducible refine gate_callee (f := 74) rfl ?_); refine goesL_ (some 21) rfl rfl Try.func74 (by kernel_rfl) rfl #[.agg #[.string a0_0, .slice A0_1 l0_1.length c0_1, .int .i64 a0_2, .slice A0_3 l0_3.length c0_3, .slice A0_4 l0_4.length c0_4, .slice A0_5 l0_5.length c0_5]] rfl (by (try simp only [List.map_toArray, List.map_cons, List.map_nil]); first | done | rfl | (simp only [List.length_drop, List.length_take]; rfl)) ?_; (with_reducible refine (pleatref00_WideObject.callsW a0_0 _ _ l0_1 a0_2 _ _ l0_3 _ _ l0_4 _ _ l0_5 t784 t785 t788 t789 t792 t795 _ ?side1 ?side2 ?side3 ?side4 ?side5 ?side6 ?side7 ?side8 A15.out).mono ?_); (case side1 => repeat (first | exact (Kd.C_below HR0_1.out HB.out) | (with_reducible refine Kd.C_alloc ?_ _) | (with_reducible refine Kd.C_drewN ?_ _) | (with_reducible refine Kd.C_drew ?_))); (case side2 => exact HC0_1.out); (case side3 => repeat (first | exact (Kd.C_below HR0_3.out HB.out) | (with_reducible refine Kd.C_alloc ?_ _) | (with_reducible refine Kd.C_drewN ?_ _) | (with_reducible refine Kd.C_drew ?_))); (case side4 => exact HC0_3.out); (case side5 => repeat (first | exact (Kd.C_below HR0_4.out HB.out) | (with_reducible refine Kd.C_alloc ?_ _) | (with_reducible refine Kd.C_drewN ?_ _) | (with_reducible refine Kd.C_drew ?_))); (case side6 => exact HC0_4.out); (case side7 => repeat (first | exact (Kd.C_below HR0_5.out HB.out) | (with_reducible refine Kd.C_alloc ?_ _) | (with_reducible refine Kd.C_drewN ?_ _) | (with_reducible refine Kd.C_drew ?_))); (case side8 => exact HC0_5.out); rintro e w20 ⟨v786, v790, v793, v796, rfl, ho0, ho1, ho2, ho3, hb, hwx⟩; refine ⟨_, rfl, ?_⟩; have HWX := Aside0.mk hwx; have HX := Aside0.mk (Below.refl w20.heap.size w20); clear hwx; have n0_ := Aside0.mk (Kd.R_lower ho0 (below_size (by repeat (first | (with_reducible first | exact HB.out | apply below_alloc | apply pw_below_drewN | apply below_drew1 | refine below_set ?_ GE781.out) | exact HB.out)))); have n1_ := Aside0.mk (Kd.R_lower ho1 (below_size (by repeat (first | (with_reducible first | exact HB.out | apply below_alloc | apply pw_below_drewN | apply below_drew1 | refine below_set ?_ GE781.out) | exact HB.out)))); have n2_ := Aside0.mk (Kd.R_lower ho2 (below_size (by repeat (first | (with_reducible first | exact HB.out | apply below_alloc | apply pw_below_drewN | apply below_drew1 | refine below_set ?_ GE781.out) | exact HB.out)))); have n3_ := Aside0.mk (Kd.R_lower ho3 (below_size (by repeat (first | (with_reducible first | exact HB.out | apply below_alloc | apply pw_below_drewN | apply below_drew1 | refine below_set ?_ GE781.out) | exact HB.out)))); have n4_ := Aside0.mk (blk_below (g := gb781) (o := .cells #[.string a0_0, .slice A0_1 l0_1.length c0_1, .int .i64 a0_2, .slice A0_3 l0_3.length c0_3, .slice A0_4 l0_4.length c0_4, .slice A0_5 l0_5.length c0_5] 88 (0, 0)) (by (with_reducible repeat (first | refine blk_drewN ?_ _ | refine blk_drew ?_ | refine blk_alloc ?_ _)); exact BK781.out) hb); have n5_ := Aside0.mk (below_step (by repeat (first | (with_reducible first | exact HB.out | apply below_alloc | apply pw_below_drewN | apply below_drew1 | refine below_set ?_ GE781.out) | exact HB.out)) hb); clear BK781; clear HB; have HO787 := n0_; have HO791 := n1_; have HO794 := n2_; have HO797 := n3_; have BK781 := n4_; have HB := n5_; clear n0_ n1_ n2_ n3_ n4_ n5_; (try clear hb); (try clear hb2); (try clear hk); (try clear hi); (try clear ho0); (try clear ho1); (try clear ho2); (try clear ho3)) | ((with_reducible refine gate_dst (N := 7) rfl ?_); (try (refine gate_guard (by rfl) ?_; dsimp only)); refine box_event ?hg (N := 7) ?hd (cs := #[.string (⟨#[]⟩ : ByteArray), .slice none 0 0, .int .i64 0, .slice none 0 0, .slice none 0 0, .slice none 0 0]) (t := 88) ?hr ?_; (case hd => rfl); (case hg => rfl); (case hr => first | (go_simp; done) | (go_simp; rfl)); intro gb798 hg w21 hbox hb; have n0_ := Aside0.mk (Kd.R_below (by (with_reducible repeat (first | apply Kd.R_alloc | apply Kd.R_drewN | apply Kd.R_drew)); exact HO787.out) hb); have n1_ := Aside0.mk (Kd.R_below (by (with_reducible repeat (first | apply Kd.R_alloc | apply Kd.R_drewN | apply Kd.R_drew)); exact HO791.out) hb); have n2_ := Aside0.mk (Kd.R_below (by (with_reducible repeat (first | apply Kd.R_alloc | apply Kd.R_drewN | apply Kd.R_drew)); exact HO794.out) hb); have n3_ := Aside0.mk (Kd.R_below (by (with_reducible repeat (first | apply Kd.R_alloc | apply Kd.R_drewN | apply Kd.R_drew)); exact HO797.out) hb); have n4_ := Aside0.mk (blk_below (g := gb781) (o := .cells #[.string a0_0, .slice A0_1 l0_1.length c0_1, .int .i64 a0_2, .slice A0_3 l0_3.length c0_3, .slice A0_4 l0_4.length c0_4, .slice A0_5 l0_5.length c0_5] 88 (0, 0)) (by (with_reducible repeat (first | refine blk_drewN ?_ _ | refine blk_drew ?_ | refine blk_alloc ?_ _)); exact BK781.out) hb); have n5_ := Aside0.mk (below_step (by repeat (first | (with_reducible first | exact HB.out | apply below_alloc | apply pw_below_drewN | apply below_drew1 | refine below_set ?_ GE781.out) | exact HB.out)) hb); have nxn5_ := Aside0.mk (below_step (by repeat (first | (with_reducible first | exact HX.out | apply below_alloc | apply pw_below_drewN | apply below_drew1 | refine below_set ?_ GX781.out) | exact HX.out)) hb); have n6_ := Aside0.mk (hbox); have n7_ := Aside0.mk ((by rw [hg]; exact (below_size (by repeat (first | (with_reducible first | exact HB.out | apply below_alloc | apply pw_below_drewN | apply below_drew1 | refine below_set ?_ GE781.out) | exact HB.out))) : w.heap.size ≤ gb798)); have n8_ := Aside0.mk ((by rw [hg]; exact (below_size (by repeat (first | (with_reducible first | exact HB.out | apply below_alloc | apply pw_below_drewN | apply below_drew1 | refine below_set ?_ GE781.out) | exact HB.out))) : w.heap.size ≤ gb798)); have nxn8_ := Aside0.mk ((by rw [hg]; exact (below_size (by repeat (first | (with_reducible first | exact HX.out | apply below_alloc | apply pw_below_drewN | apply below_drew1 | refine below_set ?_ GX781.out) | exact HX.out))) : w20.heap.size ≤ gb798)); have n9_ := Aside0.mk ((by rw [hg]; exact Nat.ne_of_lt (blk_lt (g := gb781) (o := .cells #[.string a0_0, .slice A0_1 l0_1.length c0_1, .int .i64 a0_2, .slice A0_3 l0_3.length c0_3, .slice A0_4 l0_4.length c0_4, .slice A0_5 l0_5.length c0_5] 88 (0, 0)) (by (with_reducible repeat (first | refine blk_drewN ?_ _ | refine blk_drew ?_ | refine blk_alloc ?_ _)); exact BK781.out)) : gb781 ≠ gb798)); have n10_ := Aside0.mk ((by rw [hg]; exact Nat.ne_of_gt (blk_lt (g := gb781) (o := .cells #[.string a0_0, .slice A0_1 l0_1.length c0_1, .int .i64 a0_2, .slice A0_3 l0_3.length c0_3, .slice A0_4 l0_4.length c0_4, .slice A0_5 l0_5.length c0_5] 88 (0, 0)) (by (with_reducible repeat (first | refine blk_drewN ?_ _ | refine blk_drew ?_ | refine blk_alloc ?_ _)); exact BK781.out)) : gb798 ≠ gb781)); clear HO787; clear HO791; clear HO794; clear HO797; clear BK781; clear HB HX; have HO787 := n0_; have HO791 := n1_; have HO794 := n2_; have HO797 := n3_; have BK781 := n4_; have HB := n5_; have HX := nxn5_; have BK798 := n6_; have GW798 := n7_; have GE798 := n8_; have GX798 := nxn8_; have NB781_798 := n9_; have NB798_781 := n10_; clear nxn8_ nxn5_ n0_ n1_ n2_ n3_ n4_ n5_ n6_ n7_ n8_ n9_ n10_; clear hb hbox hg; have hnb22 := NB798_781.out; have hnc22 := NB781_798.out; have hcz23_0 : w21.cell? ⟨gb798, 0, none⟩ = some (.string (⟨#[]⟩ : ByteArray)) := (blk_cell BK798.out 0).trans rfl; have hcz23_1 : w21.cell? ⟨gb798, 1, none⟩ = some (.slice none 0 0) := (blk_cell BK798.out 1).trans rfl; have hcz23_2 : w21.cell? ⟨gb798, 2, none⟩ = some (.int .i64 0) := (blk_cell BK798.out 2).trans rfl; have hcz23_3 : w21.cell? ⟨gb798, 3, none⟩ = some (.slice none 0 0) := (blk_cell BK798.out 3).trans rfl; have hcz23_4 : w21.cell? ⟨gb798, 4, none⟩ = some (.slice none 0 0) := (blk_cell BK798.out 4).trans rfl; have hcz23_5 : w21.cell? ⟨gb798, 5, none⟩ = some (.slice none 0 0) := (blk_cell BK798.out 5).trans rfl; have hfz23_0 := blk_frozen BK798.out 0; have hfz23_1 := blk_frozen BK798.out 1; have hfz23_2 := blk_frozen BK798.out 2; have hfz23_3 := blk_frozen BK798.out 3; have hfz23_4 := blk_frozen BK798.out 4; have hfz23_5 := blk_frozen BK798.out 5; obtain ⟨Ao24, co24, eo24⟩ := Kd.R_slice HO787.out; subst eo24; obtain ⟨Ao25, co25, eo25⟩ := Kd.R_slice HO791.out; subst eo25; obtain ⟨Ao26, co26, eo26⟩ := Kd.R_slice HO794.out; subst eo26; obtain ⟨Ao27, co27, eo27⟩ := Kd.R_slice HO797.out; subst eo27) | ((with_reducible refine gate_callee (f := 75) rfl ?_); refine goesL_ (some 24) rfl rfl Try.func75 (by kernel_rfl) rfl #[.agg #[.string t784, .slice Ao24 t785.length co24, .int .i64 t788, .slice Ao25 t789.length co25, .slice Ao26 t792.length co26, .slice Ao27 t795.length co27]] rfl (by (try simp only [List.map_toArray, List.map_cons, List.map_nil]); first | done | rfl | (simp only [List.length_drop, List.length_take]; rfl)) ?_; (with_reducible refine (object_Check.calls t784 _ _ t785 t788 _ _ t789 _ _ t792 _ _ t795 t799 t800 _ ?side1 ?side2 ?side3 ?side4 ?side5 ?side6 ?side7 ?side8 A16.out).mono ?_); (case side1 => refine (Kd.R_reads' (e := 34) (base := w.heap.size) (ok := fun k_ => True) (n := t785.length) (c := co24) ?_).2.2; exact (by (with_reducible repeat (first | apply Kd.R_alloc | apply Kd.R_drewN | apply Kd.R_drew)); exact (Kd.R_mono (Kd.R_far (p := ⟨gb798, 5, none⟩) (Kd.R_far (p := ⟨gb798, 4, none⟩) (Kd.R_far (p := ⟨gb798, 3, none⟩) (Kd.R_far (p := ⟨gb798, 2, none⟩) (Kd.R_far (p := ⟨gb798, 1, none⟩) (Kd.R_far (p := ⟨gb798, 0, none⟩) (Kd.R_types HO787.out BK798.out (by decide)) (fun _ hk => hk.2) (.string t784)) (fun _ hk => hk.2) (.slice Ao24 t785.length co24)) (fun _ hk => hk.2) (.int .i64 t788)) (fun _ hk => hk.2) (.slice Ao25 t789.length co25)) (fun _ hk => hk.2) (.slice Ao26 t792.length co26)) (fun _ hk => hk.2) (.slice Ao27 t795.length co27)) (fun _ h_ => h_.1)))); (case side2 => exact (Kd.R_reads' HO787.out).2.1); (case side3 => refine (Kd.R_reads' (e := 2) (base := w.heap.size) (ok := fun k_ => True) (n := t789.length) (c := co25) ?_).2.2; exact (by (with_reducible repeat (first | apply Kd.R_alloc | apply Kd.R_drewN | apply Kd.R_drew)); exact (Kd.R_mono (Kd.R_far (p := ⟨gb798, 5, none⟩) (Kd.R_far (p := ⟨gb798, 4, none⟩) (Kd.R_far (p := ⟨gb798, 3, none⟩) (Kd.R_far (p := ⟨gb798, 2, none⟩) (Kd.R_far (p := ⟨gb798, 1, none⟩) (Kd.R_far (p := ⟨gb798, 0, none⟩) (Kd.R_types HO791.out BK798.out (by decide)) (fun _ hk => hk.2) (.string t784)) (fun _ hk => hk.2) (.slice Ao24 t785.length co24)) (fun _ hk => hk.2) (.int .i64 t788)) (fun _ hk => hk.2) (.slice Ao25 t789.length co25)) (fun _ hk => hk.2) (.slice Ao26 t792.length co26)) (fun _ hk => hk.2) (.slice Ao27 t795.length co27)) (fun _ h_ => h_.1)))); (case side4 => exact (Kd.R_reads' HO791.out).2.1); (case side5 => refine (Kd.R_reads' (e := 120) (base := w.heap.size) (ok := fun k_ => True) (n := t792.length) (c := co26) ?_).2.2; exact (by (with_reducible repeat (first | apply Kd.R_alloc | apply Kd.R_drewN | apply Kd.R_drew)); exact (Kd.R_mono (Kd.R_far (p := ⟨gb798, 5, none⟩) (Kd.R_far (p := ⟨gb798, 4, none⟩) (Kd.R_far (p := ⟨gb798, 3, none⟩) (Kd.R_far (p := ⟨gb798, 2, none⟩) (Kd.R_far (p := ⟨gb798, 1, none⟩) (Kd.R_far (p := ⟨gb798, 0, none⟩) (Kd.R_types HO794.out BK798.out (by decide)) (fun _ hk => hk.2) (.string t784)) (fun _ hk => hk.2) (.slice Ao24 t785.length co24)) (fun _ hk => hk.2) (.int .i64 t788)) (fun _ hk => hk.2) (.slice Ao25 t789.length co25)) (fun _ hk => hk.2) (.slice Ao26 t792.length co26)) (fun _ hk => hk.2) (.slice Ao27 t795.length co27)) (fun _ h_ => h_.1)))); (case side6 => exact (Kd.R_reads' HO794.out).2.1); (case side7 => refine (Kd.R_reads' (e := 130) (base := w.heap.size) (ok := fun k_ => True) (n := t795.length) (c := co27) ?_).2.2; exact (by (with_reducible repeat (first | apply Kd.R_alloc | apply Kd.R_drewN | apply Kd.R_drew)); exact (Kd.R_mono (Kd.R_far (p := ⟨gb798, 5, none⟩) (Kd.R_far (p := ⟨gb798, 4, none⟩) (Kd.R_far (p := ⟨gb798, 3, none⟩) (Kd.R_far (p := ⟨gb798, 2, none⟩) (Kd.R_far (p := ⟨gb798, 1, none⟩) (Kd.R_far (p := ⟨gb798, 0, none⟩) (Kd.R_types HO797.out BK798.out (by decide)) (fun _ hk => hk.2) (.string t784)) (fun _ hk => hk.2) (.slice Ao24 t785.length co24)) (fun _ hk => hk.2) (.int .i64 t788)) (fun _ hk => hk.2) (.slice Ao25 t789.length co25)) (fun _ hk => hk.2) (.slice Ao26 t792.length co26)) (fun _ hk => hk.2) (.slice Ao27 t795.length co27)) (fun _ h_ => h_.1)))); (case side8 => exact (Kd.R_reads' HO797.out).2.1); rintro e w28 ⟨rfl, hb⟩; refine ⟨_, rfl, ?_⟩; have n0_ := Aside0.mk (Kd.R_below (by (with_reducible repeat (first | apply Kd.R_alloc | apply Kd.R_drewN | apply Kd.R_drew)); exact (Kd.R_mono (Kd.R_far (p := ⟨gb798, 5, none⟩) (Kd.R_far (p := ⟨gb798, 4, none⟩) (Kd.R_far (p := ⟨gb798, 3, none⟩) (Kd.R_far (p := ⟨gb798, 2, none⟩) (Kd.R_far (p := ⟨gb798, 1, none⟩) (Kd.R_far (p := ⟨gb798, 0, none⟩) (Kd.R_types HO787.out BK798.out (by decide)) (fun _ hk => hk.2) (.string t784)) (fun _ hk => hk.2) (.slice Ao24 t785.length co24)) (fun _ hk => hk.2) (.int .i64 t788)) (fun _ hk => hk.2) (.slice Ao25 t789.length co25)) (fun _ hk => hk.2) (.slice Ao26 t792.length co26)) (fun _ hk => hk.2) (.slice Ao27 t795.length co27)) (fun _ h_ => h_.1))) hb); have n1_ := Aside0.mk (Kd.R_below (by (with_reducible repeat (first | apply Kd.R_alloc | apply Kd.R_drewN | apply Kd.R_drew)); exact (Kd.R_mono (Kd.R_far (p := ⟨gb798, 5, none⟩) (Kd.R_far (p := ⟨gb798, 4, none⟩) (Kd.R_far (p := ⟨gb798, 3, none⟩) (Kd.R_far (p := ⟨gb798, 2, none⟩) (Kd.R_far (p := ⟨gb798, 1, none⟩) (Kd.R_far (p := ⟨gb798, 0, none⟩) (Kd.R_types HO791.out BK798.out (by decide)) (fun _ hk => hk.2) (.string t784)) (fun _ hk => hk.2) (.slice Ao24 t785.length co24)) (fun _ hk => hk.2) (.int .i64 t788)) (fun _ hk => hk.2) (.slice Ao25 t789.length co25)) (fun _ hk => hk.2) (.slice Ao26 t792.length co26)) (fun _ hk => hk.2) (.slice Ao27 t795.length co27)) (fun _ h_ => h_.1))) hb); have n2_ := Aside0.mk (Kd.R_below (by (with_reducible repeat (first | apply Kd.R_alloc | apply Kd.R_drewN | apply Kd.R_drew)); exact (Kd.R_mono (Kd.R_far (p := ⟨gb798, 5, none⟩) (Kd.R_far (p := ⟨gb798, 4, none⟩) (Kd.R_far (p := ⟨gb798, 3, none⟩) (Kd.R_far (p := ⟨gb798, 2, none⟩) (Kd.R_far (p := ⟨gb798, 1, none⟩) (Kd.R_far (p := ⟨gb798, 0, none⟩) (Kd.R_types HO794.out BK798.out (by decide)) (fun _ hk => hk.2) (.string t784)) (fun _ hk => hk.2) (.slice Ao24 t785.length co24)) (fun _ hk => hk.2) (.int .i64 t788)) (fun _ hk => hk.2) (.slice Ao25 t789.length co25)) (fun _ hk => hk.2) (.slice Ao26 t792.length co26)) (fun _ hk => hk.2) (.slice Ao27 t795.length co27)) (fun _ h_ => h_.1))) hb); have n3_ := Aside0.mk (Kd.R_below (by (with_reducible repeat (first | apply Kd.R_alloc | apply Kd.R_drewN | apply Kd.R_drew)); exact (Kd.R_mono (Kd.R_far (p := ⟨gb798, 5, none⟩) (Kd.R_far (p := ⟨gb798, 4, none⟩) (Kd.R_far (p := ⟨gb798, 3, none⟩) (Kd.R_far (p := ⟨gb798, 2, none⟩) (Kd.R_far (p := ⟨gb798, 1, none⟩) (Kd.R_far (p := ⟨gb798, 0, none⟩) (Kd.R_types HO797.out BK798.out (by decide)) (fun _ hk => hk.2) (.string t784)) (fun _ hk => hk.2) (.slice Ao24 t785.length co24)) (fun _ hk => hk.2) (.int .i64 t788)) (fun _ hk => hk.2) (.slice Ao25 t789.length co25)) (fun _ hk => hk.2) (.slice Ao26 t792.length co26)) (fun _ hk => hk.2) (.slice Ao27 t795.length co27)) (fun _ h_ => h_.1))) hb); have n4_ := Aside0.mk (blk_below (g := gb781) (o := .cells #[.string a0_0, .slice A0_1 l0_1.length c0_1, .int .i64 a0_2, .slice A0_3 l0_3.length c0_3, .slice A0_4 l0_4.length c0_4, .slice A0_5 l0_5.length c0_5] 88 (0, 0)) (by (with_reducible repeat (first | refine blk_drewN ?_ _ | refine blk_drew ?_ | refine blk_alloc ?_ _)); refine blk_far ?_ NB781_798.out _; (with_reducible repeat (first | refine blk_drewN ?_ _ | refine blk_drew ?_ | refine blk_alloc ?_ _)); refine blk_far ?_ NB781_798.out _; (with_reducible repeat (first | refine blk_drewN ?_ _ | refine blk_drew ?_ | refine blk_alloc ?_ _)); refine blk_far ?_ NB781_798.out _; (with_reducible repeat (first | refine blk_drewN ?_ _ | refine blk_drew ?_ | refine blk_alloc ?_ _)); refine blk_far ?_ NB781_798.out _; (with_reducible repeat (first | refine blk_drewN ?_ _ | refine blk_drew ?_ | refine blk_alloc ?_ _)); refine blk_far ?_ NB781_798.out _; (with_reducible repeat (first | refine blk_drewN ?_ _ | refine blk_drew ?_ | refine blk_alloc ?_ _)); refine blk_far ?_ NB781_798.out _; (with_reducible repeat (first | refine blk_drewN ?_ _ | refine blk_drew ?_ | refine blk_alloc ?_ _)); exact BK781.out) hb); have n5_ := Aside0.mk (blk_below (g := gb798) (o := .cells #[.string t784, .slice Ao24 t785.length co24, .int .i64 t788, .slice Ao25 t789.length co25, .slice Ao26 t792.length co26, .slice Ao27 t795.length co27] 88 (0, 0)) (by (with_reducible repeat (first | refine blk_drewN ?_ _ | refine blk_drew ?_ | refine blk_alloc ?_ _)); refine blk_put (cs := #[.string t784, .slice Ao24 t785.length co24, .int .i64 t788, .slice Ao25 t789.length co25, .slice Ao26 t792.length co26, .slice none 0 0]) ?_ 5 _ rfl; (with_reducible repeat (first | refine blk_drewN ?_ _ | refine blk_drew ?_ | refine blk_alloc ?_ _)); refine blk_put (cs := #[.string t784, .slice Ao24 t785.length co24, .int .i64 t788, .slice Ao25 t789.length co25, .slice none 0 0, .slice none 0 0]) ?_ 4 _ rfl; (with_reducible repeat (first | refine blk_drewN ?_ _ | refine blk_drew ?_ | refine blk_alloc ?_ _)); refine blk_put (cs := #[.string t784, .slice Ao24 t785.length co24, .int .i64 t788, .slice none 0 0, .slice none 0 0, .slice none 0 0]) ?_ 3 _ rfl; (with_reducible repeat (first | refine blk_drewN ?_ _ | refine blk_drew ?_ | refine blk_alloc ?_ _)); refine blk_put (cs := #[.string t784, .slice Ao24 t785.length co24, .int .i64 0, .slice none 0 0, .slice none 0 0, .slice none 0 0]) ?_ 2 _ rfl; (with_reducible repeat (first | refine blk_drewN ?_ _ | refine blk_drew ?_ | refine blk_alloc ?_ _)); refine blk_put (cs := #[.string t784, .slice none 0 0, .int .i64 0, .slice none 0 0, .slice none 0 0, .slice none 0 0]) ?_ 1 _ rfl; (with_reducible repeat (first | refine blk_drewN ?_ _ | refine blk_drew ?_ | refine blk_alloc ?_ _)); refine blk_put (cs := #[.string (⟨#[]⟩ : ByteArray), .slice none 0 0, .int .i64 0, .slice none 0 0, .slice none 0 0, .slice none 0 0]) ?_ 0 _ rfl; (with_reducible repeat (first | refine blk_drewN ?_ _ | refine blk_drew ?_ | refine blk_alloc ?_ _)); exact BK798.out) hb); have n6_ := Aside0.mk (below_step (by repeat (first | (with_reducible first | exact HB.out | apply below_alloc | apply pw_below_drewN | apply below_drew1 | refine below_set ?_ GE781.out | refine below_set ?_ GE798.out) | exact HB.out)) hb); have nxn6_ := Aside0.mk (below_step (by repeat (first | (with_reducible first | exact HX.out | apply below_alloc | apply pw_below_drewN | apply below_drew1 | refine below_set ?_ GX781.out | refine below_set ?_ GX798.out) | exact HX.out)) hb); clear HO787; clear HO791; clear HO794; clear HO797; clear BK781; clear BK798; clear HB HX; have HO787 := n0_; have HO791 := n1_; have HO794 := n2_; have HO797 := n3_; have BK781 := n4_; have BK798 := n5_; have HB := n6_; have HX := nxn6_; clear nxn6_ n0_ n1_ n2_ n3_ n4_ n5_ n6_; (try clear hb); (try clear hb2); (try clear hk); (try clear hi); have hcz29_0 : w28.cell? ⟨gb781, 0, none⟩ = some (.string a0_0) := (blk_cell BK781.out 0).trans rfl; have hcz29_1 : w28.cell? ⟨gb781, 1, none⟩ = some (.slice A0_1 l0_1.length c0_1) := (blk_cell BK781.out 1).trans rfl; have hcz29_2 : w28.cell? ⟨gb781, 2, none⟩ = some (.int .i64 a0_2) := (blk_cell BK781.out 2).trans rfl; have hcz29_3 : w28.cell? ⟨gb781, 3, none⟩ = some (.slice A0_3 l0_3.length c0_3) := (blk_cell BK781.out 3).trans rfl; have hcz29_4 : w28.cell? ⟨gb781, 4, none⟩ = some (.slice A0_4 l0_4.length c0_4) := (blk_cell BK781.out 4).trans rfl; have hcz29_5 : w28.cell? ⟨gb781, 5, none⟩ = some (.slice A0_5 l0_5.length c0_5) := (blk_cell BK781.out 5).trans rfl; have hfz29_0 := blk_frozen BK781.out 0; have hfz29_1 := blk_frozen BK781.out 1; have hfz29_2 := blk_frozen BK781.out 2; have hfz29_3 := blk_frozen BK781.out 3; have hfz29_4 := blk_frozen BK781.out 4; have hfz29_5 := blk_frozen BK781.out 5) | ((with_reducible refine gate_callee (f := 76) rfl ?_); refine goesL_ (some 29) rfl rfl Try.func76 (by kernel_rfl) rfl #[.agg #[.string a0_0, .slice A0_1 l0_1.length c0_1, .int .i64 a0_2, .slice A0_3 l0_3.length c0_3, .slice A0_4 l0_4.length c0_4, .slice A0_5 l0_5.length c0_5]] rfl (by (try simp only [List.map_toArray, List.map_cons, List.map_nil]); first | done | rfl | (simp only [List.length_drop, List.length_take]; rfl)) ?_; (with_reducible refine (pleatref03_Check.calls kj3 a0_0 _ _ l0_1 a0_2 _ _ l0_3 _ _ l0_4 _ _ l0_5 t801 t802 _ ?side1 ?side2 ?side3 ?side4 ?side5 ?side6 ?side7 ?side8 A17.out).mono ?_); (case side1 => repeat (first | exact (Kd.C_below HR0_1.out HB.out) | (with_reducible refine Kd.C_alloc ?_ _) | (with_reducible refine Kd.C_drewN ?_ _) | (with_reducible refine Kd.C_drew ?_))); (case side2 => exact HC0_1.out); (case side3 => repeat (first | exact (Kd.C_below HR0_3.out HB.out) | (with_reducible refine Kd.C_alloc ?_ _) | (with_reducible refine Kd.C_drewN ?_ _) | (with_reducible refine Kd.C_drew ?_))); (case side4 => exact HC0_3.out); (case side5 => repeat (first | exact (Kd.C_below HR0_4.out HB.out) | (with_reducible refine Kd.C_alloc ?_ _) | (with_reducible refine Kd.C_drewN ?_ _) | (with_reducible refine Kd.C_drew ?_))); (case side6 => exact HC0_4.out); (case side7 => repeat (first | exact (Kd.C_below HR0_5.out HB.out) | (with_reducible refine Kd.C_alloc ?_ _) | (with_reducible refine Kd.C_drewN ?_ _) | (with_reducible refine Kd.C_drew ?_))); (case side8 => exact HC0_5.out); rintro e w30 ⟨rfl, hb⟩; refine ⟨_, rfl, ?_⟩; have n0_ := Aside0.mk (Kd.R_below (by (with_reducible repeat (first | apply Kd.R_alloc | apply Kd.R_drewN | apply Kd.R_drew)); exact HO787.out) hb); have n1_ := Aside0.mk (Kd.R_below (by (with_reducible repeat (first | apply Kd.R_alloc | apply Kd.R_drewN | apply Kd.R_drew)); exact HO791.out) hb); have n2_ := Aside0.mk (Kd.R_below (by (with_reducible repeat (first | apply Kd.R_alloc | apply Kd.R_drewN | apply Kd.R_drew)); exact HO794.out) hb); have n3_ := Aside0.mk (Kd.R_below (by (with_reducible repeat (first | apply Kd.R_alloc | apply Kd.R_drewN | apply Kd.R_drew)); exact HO797.out) hb); have n4_ := Aside0.mk (blk_below (g := gb781) (o := .cells #[.string a0_0, .slice A0_1 l0_1.length c0_1, .int .i64 a0_2, .slice A0_3 l0_3.length c0_3, .slice A0_4 l0_4.length c0_4, .slice A0_5 l0_5.length c0_5] 88 (0, 0)) (by (with_reducible repeat (first | refine blk_drewN ?_ _ | refine blk_drew ?_ | refine blk_alloc ?_ _)); exact BK781.out) hb); have n5_ := Aside0.mk (blk_below (g := gb798) (o := .cells #[.string t784, .slice Ao24 t785.length co24, .int .i64 t788, .slice Ao25 t789.length co25, .slice Ao26 t792.length co26, .slice Ao27 t795.length co27] 88 (0, 0)) (by (with_reducible repeat (first | refine blk_drewN ?_ _ | refine blk_drew ?_ | refine blk_alloc ?_ _)); exact BK798.out) hb); have n6_ := Aside0.mk (below_step (by repeat (first | (with_reducible first | exact HB.out | apply below_alloc | apply pw_below_drewN | apply below_drew1 | refine below_set ?_ GE781.out | refine below_set ?_ GE798.out) | exact HB.out)) hb); have nxn6_ := Aside0.mk (below_step (by repeat (first | (with_reducible first | exact HX.out | apply below_alloc | apply pw_below_drewN | apply below_drew1 | refine below_set ?_ GX781.out | refine below_set ?_ GX798.out) | exact HX.out)) hb); clear HO787; clear HO791; clear HO794; clear HO797; clear BK781; clear BK798; clear HB HX; have HO787 := n0_; have HO791 := n1_; have HO794 := n2_; have HO797 := n3_; have BK781 := n4_; have BK798 := n5_; have HB := n6_; have HX := nxn6_; clear nxn6_ n0_ n1_ n2_ n3_ n4_ n5_ n6_; (try clear hb); (try clear hb2); (try clear hk); (try clear hi)))
    (try simp only [Act.put, List.setIfInBounds_toArray, List.set_cons_zero, List.set_cons_succ])
    go_cut [57] (fun v57 wc => ∃ (kq : Nat) (x57_17 : Bool), v57 = .bool x57_17 ∧ Aside0 (pleatlaw03_ObjectTells.j1 kq x57_17 a0_0 l0_1 a0_2 l0_3 l0_4 l0_5 t784 t785 t788 t789 t792 t795 = some r) ∧ Aside0 (kq ≤ kj3) ∧ Aside0 (Kd.R (Kd.int .u32) 34 wc w.heap.size (fun _ => True) (.slice Ao24 t785.length co24) t785) ∧ Aside0 (Kd.R (Kd.int .i64) 2 wc w.heap.size (fun _ => True) (.slice Ao25 t789.length co25) t789) ∧ Aside0 (Kd.R k120 120 wc w.heap.size (fun _ => True) (.slice Ao26 t792.length co26) t792) ∧ Aside0 (Kd.R k130 130 wc w.heap.size (fun _ => True) (.slice Ao27 t795.length co27) t795) ∧ Aside0 (wc.heap[gb781]? = some (.cells #[.string a0_0, (.slice A0_1 l0_1.length c0_1), .int .i64 a0_2, (.slice A0_3 l0_3.length c0_3), (.slice A0_4 l0_4.length c0_4), (.slice A0_5 l0_5.length c0_5)] 88 (0, 0))) ∧ Aside0 (wc.heap[gb798]? = some (.cells #[.string t784, (.slice Ao24 t785.length co24), .int .i64 t788, (.slice Ao25 t789.length co25), (.slice Ao26 t792.length co26), (.slice Ao27 t795.length co27)] 88 (0, 0))) ∧ Aside0 (Below w.heap.size w wc) ∧ Aside0 (Below w20.heap.size w20 wc))
    case first =>
     have H := HC18.out
     clear HC18
     by_cases c31 : t799 = t801
     ·
      rw [if_pos c31] at H
      have c31b0 : (t799 == t801) = true := beq_iff_eq.mpr c31
      have c31b1 : (t799 != t801) = false := bne_eq_false_iff_eq.mpr c31
      clear c31
      (first | rw [c31b0] | (simp only [i64_w, i32_w]; rw [c31b0]) | skip)
      by_cases c32 : t800 = t802
      ·
       rw [if_pos c32] at H
       have c32b0 : (t800 == t802) = true := beq_iff_eq.mpr c32
       have c32b1 : (t800 != t802) = false := bne_eq_false_iff_eq.mpr c32
       clear c32
       replace H := Option.bind_eq_some_iff.mp H
       obtain ⟨t803, A330, H⟩ := H
       try dsimp only at H
       have A33 := Aside0.mk A330
       clear A330
       replace H := Option.bind_eq_some_iff.mp H
       obtain ⟨t804, A340, H⟩ := H
       try dsimp only at H
       have A34 := Aside0.mk A340
       clear A340
       by_cases c35 : t803 = t804
       ·
        rw [if_pos c35] at H
        have c35b0 : (t803 == t804) = true := beq_iff_eq.mpr c35
        have c35b1 : (t803 != t804) = false := bne_eq_false_iff_eq.mpr c35
        clear c35
        replace H := Option.bind_eq_some_iff.mp H
        obtain ⟨t805, A360, H⟩ := H
        try dsimp only at H
        have A36 := Aside0.mk A360
        clear A360
        replace H := Option.bind_eq_some_iff.mp H
        obtain ⟨t806, A370, H⟩ := H
        try dsimp only at H
        have A37 := Aside0.mk A370
        clear A370
        have H' := Aside0.mk H
        clear H
        try go_wp2
        have n0_ := Aside0.mk (Kd.R_drew HO787.out)
        have n1_ := Aside0.mk (Kd.R_drew HO791.out)
        have n2_ := Aside0.mk (Kd.R_drew HO794.out)
        have n3_ := Aside0.mk (Kd.R_drew HO797.out)
        have n4_ := Aside0.mk (blk_drew BK781.out)
        have n5_ := Aside0.mk (blk_drew BK798.out)
        have n6_ := Aside0.mk (below_drew1 HB.out)
        have nxn6_ := Aside0.mk (below_drew1 HX.out)
        clear HO787
        clear HO791
        clear HO794
        clear HO797
        clear BK781
        clear BK798
        clear HB HX
        have HO787 := n0_
        have HO791 := n1_
        have HO794 := n2_
        have HO797 := n3_
        have BK781 := n4_
        have BK798 := n5_
        have HB := n6_
        have HX := nxn6_
        clear nxn6_ n0_ n1_ n2_ n3_ n4_ n5_ n6_
        refine start_ (n := 26) (S := fun w' => w'.cell? ⟨gb798, 0, none⟩ = some (.string t784) ∧ w'.cell? ⟨gb798, 1, none⟩ = some (.slice Ao24 t785.length co24) ∧ w'.cell? ⟨gb798, 2, none⟩ = some (.int .i64 t788) ∧ w'.cell? ⟨gb798, 3, none⟩ = some (.slice Ao25 t789.length co25) ∧ w'.cell? ⟨gb798, 4, none⟩ = some (.slice Ao26 t792.length co26) ∧ w'.cell? ⟨gb798, 5, none⟩ = some (.slice Ao27 t795.length co27) ∧ w'.cell? ⟨gb781, 0, none⟩ = some (.string a0_0) ∧ w'.cell? ⟨gb781, 1, none⟩ = some (.slice A0_1 l0_1.length c0_1) ∧ w'.cell? ⟨gb781, 2, none⟩ = some (.int .i64 a0_2) ∧ w'.cell? ⟨gb781, 3, none⟩ = some (.slice A0_3 l0_3.length c0_3) ∧ w'.cell? ⟨gb781, 4, none⟩ = some (.slice A0_4 l0_4.length c0_4) ∧ w'.cell? ⟨gb781, 5, none⟩ = some (.slice A0_5 l0_5.length c0_5)) (ds := []) #[false, false, false, false, false, false, false, false, false, false, false, false, false, false, false, false, false, false, false, false, false, false, false, false, false, false] (by kernel_rfl) rfl rfl ⟨(blk_cell BK798.out 0).trans rfl, (blk_cell BK798.out 1).trans rfl, (blk_cell BK798.out 2).trans rfl, (blk_cell BK798.out 3).trans rfl, (blk_cell BK798.out 4).trans rfl, (blk_cell BK798.out 5).trans rfl, (blk_cell BK781.out 0).trans rfl, (blk_cell BK781.out 1).trans rfl, (blk_cell BK781.out 2).trans rfl, (blk_cell BK781.out 3).trans rfl, (blk_cell BK781.out 4).trans rfl, (blk_cell BK781.out 5).trans rfl⟩ (fun hHeld => ?_); refine with_tabW pleatlaw03_ObjectTells.tab6 pleatlaw03_ObjectTells.bits6 (fun HT_ HW_ => ?_)
        generalize w30.drew = w38 at HO787 HO791 HO794 HO797 BK781 BK798 HB HX hHeld ⊢
        refine pure_ (i := 0) (N := some 32) (v := ?_) (a' := ?_) #[true, false, false, false, false, false, false, false, false, false, false, false, false, false, false, false, false, false, false, false, false, false, false, false, false, false] rfl rfl (any_of HT_.out (by kernel_rfl)) (fun _ _ _ h => h) (Or.inl ⟨by rfl, ?_⟩) ?_ ?_
        rotate_left
        ·
         intro w'
         go_simp
         with_reducible rfl
        rotate_left
        ·
         simp only [Act.put, List.setIfInBounds_toArray, List.set_cons_zero, List.set_cons_succ, i64_w, i32_w]
         rfl
        refine pure_ (i := 1) (N := some 33) (v := ?_) (a' := ?_) #[true, true, false, false, false, false, false, false, false, false, false, false, false, false, false, false, false, false, false, false, false, false, false, false, false, false] rfl rfl (any_of HT_.out (by kernel_rfl)) (fun _ _ _ h => h) (Or.inl ⟨by rfl, ?_⟩) ?_ ?_
        rotate_left
        ·
         intro w'
         go_simp
         with_reducible rfl
        rotate_left
        ·
         simp only [Act.put, List.setIfInBounds_toArray, List.set_cons_zero, List.set_cons_succ, i64_w, i32_w]
         rfl
        refine pure_ (i := 2) (N := some 34) (v := ?_) (a' := ?_) #[true, true, true, false, false, false, false, false, false, false, false, false, false, false, false, false, false, false, false, false, false, false, false, false, false, false] rfl rfl (any_of HT_.out (by kernel_rfl)) (fun _ _ _ h => h) (Or.inl ⟨by rfl, ?_⟩) ?_ ?_
        rotate_left
        ·
         intro w'
         go_simp
         with_reducible rfl
        rotate_left
        ·
         simp only [Act.put, List.setIfInBounds_toArray, List.set_cons_zero, List.set_cons_succ, i64_w, i32_w]
         rfl
        refine pure_ (i := 3) (N := some 35) (v := ?_) (a' := ?_) #[true, true, true, true, false, false, false, false, false, false, false, false, false, false, false, false, false, false, false, false, false, false, false, false, false, false] rfl rfl (any_of HT_.out (by kernel_rfl)) (fun _ _ _ h => h) (Or.inl ⟨by rfl, ?_⟩) ?_ ?_
        rotate_left
        ·
         intro w'
         go_simp
         with_reducible rfl
        rotate_left
        ·
         simp only [Act.put, List.setIfInBounds_toArray, List.set_cons_zero, List.set_cons_succ, i64_w, i32_w]
         rfl
        refine pure_ (i := 4) (N := some 36) (v := ?_) (a' := ?_) #[true, true, true, true, true, false, false, false, false, false, false, false, false, false, false, false, false, false, false, false, false, false, false, false, false, false] rfl rfl (any_of HT_.out (by kernel_rfl)) (fun _ _ _ h => h) (Or.inl ⟨by rfl, ?_⟩) ?_ ?_
        rotate_left
        ·
         intro w'
         go_simp
         with_reducible rfl
        rotate_left
        ·
         simp only [Act.put, List.setIfInBounds_toArray, List.set_cons_zero, List.set_cons_succ, i64_w, i32_w]
         rfl
        refine pure_ (i := 5) (N := some 37) (v := ?_) (a' := ?_) #[true, true, true, true, true, true, false, false, false, false, false, false, false, false, false, false, false, false, false, false, false, false, false, false, false, false] rfl rfl (any_of HT_.out (by kernel_rfl)) (fun _ _ _ h => h) (Or.inl ⟨by rfl, ?_⟩) ?_ ?_
        rotate_left
        ·
         intro w'
         go_simp
         with_reducible rfl
        rotate_left
        ·
         simp only [Act.put, List.setIfInBounds_toArray, List.set_cons_zero, List.set_cons_succ, i64_w, i32_w]
         rfl
        refine pure_ (i := 6) (N := some 38) (v := ?_) (a' := ?_) #[true, true, true, true, true, true, true, false, false, false, false, false, false, false, false, false, false, false, false, false, false, false, false, false, false, false] rfl rfl (any_of HT_.out (by kernel_rfl)) (fun _ _ _ h => h) (Or.inl ⟨by rfl, ?_⟩) ?_ ?_
        rotate_left
        ·
         intro w'
         go_simp
         with_reducible rfl
        rotate_left
        ·
         simp only [Act.put, List.setIfInBounds_toArray, List.set_cons_zero, List.set_cons_succ, i64_w, i32_w]
         rfl
        refine pure_ (i := 7) (N := some 39) (v := ?_) (a' := ?_) #[true, true, true, true, true, true, true, true, false, false, false, false, false, false, false, false, false, false, false, false, false, false, false, false, false, false] rfl rfl (any_of HT_.out (by kernel_rfl)) (fun _ _ _ h => h) (Or.inl ⟨by rfl, ?_⟩) ?_ ?_
        rotate_left
        ·
         intro w'
         go_simp
         with_reducible rfl
        rotate_left
        ·
         simp only [Act.put, List.setIfInBounds_toArray, List.set_cons_zero, List.set_cons_succ, i64_w, i32_w]
         rfl
        refine pure_ (i := 8) (N := some 40) (v := ?_) (a' := ?_) #[true, true, true, true, true, true, true, true, true, false, false, false, false, false, false, false, false, false, false, false, false, false, false, false, false, false] rfl rfl (any_of HT_.out (by kernel_rfl)) (fun _ _ _ h => h) (Or.inl ⟨by rfl, ?_⟩) ?_ ?_
        rotate_left
        ·
         intro w'
         go_simp
         with_reducible rfl
        rotate_left
        ·
         simp only [Act.put, List.setIfInBounds_toArray, List.set_cons_zero, List.set_cons_succ, i64_w, i32_w]
         rfl
        refine pure_ (i := 10) (N := some 42) (v := ?_) (a' := ?_) #[true, true, true, true, true, true, true, true, true, false, true, false, false, false, false, false, false, false, false, false, false, false, false, false, false, false] rfl rfl (any_of HT_.out (by kernel_rfl)) (fun _ _ _ h => h) (Or.inl ⟨by rfl, ?_⟩) ?_ ?_
        rotate_left
        ·
         intro w'
         go_simp
         with_reducible rfl
        rotate_left
        ·
         simp only [Act.put, List.setIfInBounds_toArray, List.set_cons_zero, List.set_cons_succ, i64_w, i32_w]
         rfl
        refine pure_ (i := 13) (N := some 45) (v := ?_) (a' := ?_) #[true, true, true, true, true, true, true, true, true, false, true, false, false, true, false, false, false, false, false, false, false, false, false, false, false, false] rfl rfl (any_of HT_.out (by kernel_rfl)) (fun _ _ _ h => h) (Or.inl ⟨by rfl, ?_⟩) ?_ ?_
        rotate_left
        ·
         intro w'
         go_simp
         with_reducible rfl
        rotate_left
        ·
         simp only [Act.put, List.setIfInBounds_toArray, List.set_cons_zero, List.set_cons_succ, i64_w, i32_w]
         rfl
        refine take_ (i := 9) (N := some 41) (v := ?_) (a' := ?_) #[true, true, true, true, true, true, true, true, true, true, true, false, false, true, false, false, false, false, false, false, false, false, false, false, false, false] rfl rfl (take_ofW HT_.out HW_.out (by kernel_rfl)) (fun _ _ _ h => h) (Or.inl ⟨by rfl, ?_⟩) hHeld ?_ ?_
        rotate_left
        ·
         rintro w' ⟨s0, s1, s2, s3, s4, s5, s6, s7, s8, s9, s10, s11⟩
         go_simp
         with_reducible rfl
        rotate_left
        ·
         simp only [Act.put, List.setIfInBounds_toArray, List.set_cons_zero, List.set_cons_succ, i64_w, i32_w]
         rfl
        refine take_ (i := 12) (N := some 44) (v := ?_) (a' := ?_) #[true, true, true, true, true, true, true, true, true, true, true, false, true, true, false, false, false, false, false, false, false, false, false, false, false, false] rfl rfl (take_ofW HT_.out HW_.out (by kernel_rfl)) (fun _ _ _ h => h) (Or.inl ⟨by rfl, ?_⟩) hHeld ?_ ?_
        rotate_left
        ·
         rintro w' ⟨s0, s1, s2, s3, s4, s5, s6, s7, s8, s9, s10, s11⟩
         go_simp
         with_reducible rfl
        rotate_left
        ·
         simp only [Act.put, List.setIfInBounds_toArray, List.set_cons_zero, List.set_cons_succ, i64_w, i32_w]
         rfl
        refine one_ (i := 11) (N := some 43) #[true, true, true, true, true, true, true, true, true, true, true, true, true, true, false, false, false, false, false, false, false, false, false, false, false, false] rfl rfl (one_of HT_.out (by kernel_rfl)) (by decide) (fun K hK => ?_)
        refine goes_ Try.func77 (by kernel_rfl) rfl #[.agg #[.string t784, .slice Ao24 t785.length co24, .int .i64 t788, .slice Ao25 t789.length co25, .slice Ao26 t792.length co26, .slice Ao27 t795.length co27], .string a1] (by rfl) rfl rfl (by (try simp only [List.map_toArray, List.map_cons, List.map_nil]); first | done | rfl | (simp only [List.length_drop, List.length_take]; rfl)) ?_
        with_reducible refine (object_Of.calls kj3 t784 _ _ t785 t788 _ _ t789 _ _ t792 _ _ t795 a1 t803 _ ?side1 ?side2 ?side3 ?side4 ?side5 ?side6 ?side7 ?side8 A33.out).mono ?_
        (case side1 => repeat (first | exact (Kd.R_reads' HO787.out).2.2 | (with_reducible refine Kd.C_alloc ?_ _) | (with_reducible refine Kd.C_drewN ?_ _) | (with_reducible refine Kd.C_drew ?_)))
        (case side2 => exact (Kd.R_reads' HO787.out).2.1)
        (case side3 => repeat (first | exact (Kd.R_reads' HO791.out).2.2 | (with_reducible refine Kd.C_alloc ?_ _) | (with_reducible refine Kd.C_drewN ?_ _) | (with_reducible refine Kd.C_drew ?_)))
        (case side4 => exact (Kd.R_reads' HO791.out).2.1)
        (case side5 => repeat (first | exact (Kd.R_reads' HO794.out).2.2 | (with_reducible refine Kd.C_alloc ?_ _) | (with_reducible refine Kd.C_drewN ?_ _) | (with_reducible refine Kd.C_drew ?_)))
        (case side6 => exact (Kd.R_reads' HO794.out).2.1)
        (case side7 => repeat (first | exact (Kd.R_reads' HO797.out).2.2 | (with_reducible refine Kd.C_alloc ?_ _) | (with_reducible refine Kd.C_drewN ?_ _) | (with_reducible refine Kd.C_drew ?_)))
        (case side8 => exact (Kd.R_reads' HO797.out).2.1)
        rintro e w39 ⟨rfl, hb⟩
        refine ⟨_, rfl, ?_⟩
        have n0_ := Aside0.mk (Kd.R_below (by (with_reducible repeat (first | apply Kd.R_alloc | apply Kd.R_drewN | apply Kd.R_drew)); exact HO787.out) hb)
        have n1_ := Aside0.mk (Kd.R_below (by (with_reducible repeat (first | apply Kd.R_alloc | apply Kd.R_drewN | apply Kd.R_drew)); exact HO791.out) hb)
        have n2_ := Aside0.mk (Kd.R_below (by (with_reducible repeat (first | apply Kd.R_alloc | apply Kd.R_drewN | apply Kd.R_drew)); exact HO794.out) hb)
        have n3_ := Aside0.mk (Kd.R_below (by (with_reducible repeat (first | apply Kd.R_alloc | apply Kd.R_drewN | apply Kd.R_drew)); exact HO797.out) hb)
        have n4_ := Aside0.mk (blk_below (g := gb781) (o := .cells #[.string a0_0, .slice A0_1 l0_1.length c0_1, .int .i64 a0_2, .slice A0_3 l0_3.length c0_3, .slice A0_4 l0_4.length c0_4, .slice A0_5 l0_5.length c0_5] 88 (0, 0)) (by (with_reducible repeat (first | refine blk_drewN ?_ _ | refine blk_drew ?_ | refine blk_alloc ?_ _)); exact BK781.out) hb)
        have n5_ := Aside0.mk (blk_below (g := gb798) (o := .cells #[.string t784, .slice Ao24 t785.length co24, .int .i64 t788, .slice Ao25 t789.length co25, .slice Ao26 t792.length co26, .slice Ao27 t795.length co27] 88 (0, 0)) (by (with_reducible repeat (first | refine blk_drewN ?_ _ | refine blk_drew ?_ | refine blk_alloc ?_ _)); exact BK798.out) hb)
        have n6_ := Aside0.mk (below_step (by repeat (first | (with_reducible first | exact HB.out | apply below_alloc | apply pw_below_drewN | apply below_drew1 | refine below_set ?_ GE781.out | refine below_set ?_ GE798.out) | exact HB.out)) hb)
        have nxn6_ := Aside0.mk (below_step (by repeat (first | (with_reducible first | exact HX.out | apply below_alloc | apply pw_below_drewN | apply below_drew1 | refine below_set ?_ GX781.out | refine below_set ?_ GX798.out) | exact HX.out)) hb)
        clear HO787
        clear HO791
        clear HO794
        clear HO797
        clear BK781
        clear BK798
        clear HB HX
        have HO787 := n0_
        have HO791 := n1_
        have HO794 := n2_
        have HO797 := n3_
        have BK781 := n4_
        have BK798 := n5_
        have HB := n6_
        have HX := nxn6_
        clear nxn6_ n0_ n1_ n2_ n3_ n4_ n5_ n6_
        (try clear hb)
        (try clear hb2)
        (try clear hk)
        (try clear hi)
        refine hK.out _ _ ⟨(blk_cell BK798.out 0).trans rfl, (blk_cell BK798.out 1).trans rfl, (blk_cell BK798.out 2).trans rfl, (blk_cell BK798.out 3).trans rfl, (blk_cell BK798.out 4).trans rfl, (blk_cell BK798.out 5).trans rfl, (blk_cell BK781.out 0).trans rfl, (blk_cell BK781.out 1).trans rfl, (blk_cell BK781.out 2).trans rfl, (blk_cell BK781.out 3).trans rfl, (blk_cell BK781.out 4).trans rfl, (blk_cell BK781.out 5).trans rfl⟩ (fun hHeld => ?_)
        clear hK K
        refine norm_ (a' := ?_) ?_ ?_
        rotate_left
        ·
         show Act.put _ (some 43) _ = _
         simp only [Act.put, List.setIfInBounds_toArray, List.set_cons_zero, List.set_cons_succ, i64_w, i32_w]
         rfl
        refine one_ (i := 14) (N := some 46) #[true, true, true, true, true, true, true, true, true, true, true, true, true, true, true, false, false, false, false, false, false, false, false, false, false, false] rfl rfl (one_of HT_.out (by kernel_rfl)) (by decide) (fun K hK => ?_)
        refine goes_ Try.func78 (by kernel_rfl) rfl #[.agg #[.string a0_0, .slice A0_1 l0_1.length c0_1, .int .i64 a0_2, .slice A0_3 l0_3.length c0_3, .slice A0_4 l0_4.length c0_4, .slice A0_5 l0_5.length c0_5], .string a1] (by rfl) rfl rfl (by (try simp only [List.map_toArray, List.map_cons, List.map_nil]); first | done | rfl | (simp only [List.length_drop, List.length_take]; rfl)) ?_
        with_reducible refine (pleatref03_Of.calls kj3 a0_0 _ _ l0_1 a0_2 _ _ l0_3 _ _ l0_4 _ _ l0_5 a1 t804 _ ?side1 ?side2 ?side3 ?side4 ?side5 ?side6 ?side7 ?side8 A34.out).mono ?_
        (case side1 => repeat (first | exact (Kd.C_below HR0_1.out HB.out) | (with_reducible refine Kd.C_alloc ?_ _) | (with_reducible refine Kd.C_drewN ?_ _) | (with_reducible refine Kd.C_drew ?_)))
        (case side2 => exact HC0_1.out)
        (case side3 => repeat (first | exact (Kd.C_below HR0_3.out HB.out) | (with_reducible refine Kd.C_alloc ?_ _) | (with_reducible refine Kd.C_drewN ?_ _) | (with_reducible refine Kd.C_drew ?_)))
        (case side4 => exact HC0_3.out)
        (case side5 => repeat (first | exact (Kd.C_below HR0_4.out HB.out) | (with_reducible refine Kd.C_alloc ?_ _) | (with_reducible refine Kd.C_drewN ?_ _) | (with_reducible refine Kd.C_drew ?_)))
        (case side6 => exact HC0_4.out)
        (case side7 => repeat (first | exact (Kd.C_below HR0_5.out HB.out) | (with_reducible refine Kd.C_alloc ?_ _) | (with_reducible refine Kd.C_drewN ?_ _) | (with_reducible refine Kd.C_drew ?_)))
        (case side8 => exact HC0_5.out)
        rintro e w40 ⟨rfl, hb⟩
        refine ⟨_, rfl, ?_⟩
        have n0_ := Aside0.mk (Kd.R_below (by (with_reducible repeat (first | apply Kd.R_alloc | apply Kd.R_drewN | apply Kd.R_drew)); exact HO787.out) hb)
        have n1_ := Aside0.mk (Kd.R_below (by (with_reducible repeat (first | apply Kd.R_alloc | apply Kd.R_drewN | apply Kd.R_drew)); exact HO791.out) hb)
        have n2_ := Aside0.mk (Kd.R_below (by (with_reducible repeat (first | apply Kd.R_alloc | apply Kd.R_drewN | apply Kd.R_drew)); exact HO794.out) hb)
        have n3_ := Aside0.mk (Kd.R_below (by (with_reducible repeat (first | apply Kd.R_alloc | apply Kd.R_drewN | apply Kd.R_drew)); exact HO797.out) hb)
        have n4_ := Aside0.mk (blk_below (g := gb781) (o := .cells #[.string a0_0, .slice A0_1 l0_1.length c0_1, .int .i64 a0_2, .slice A0_3 l0_3.length c0_3, .slice A0_4 l0_4.length c0_4, .slice A0_5 l0_5.length c0_5] 88 (0, 0)) (by (with_reducible repeat (first | refine blk_drewN ?_ _ | refine blk_drew ?_ | refine blk_alloc ?_ _)); exact BK781.out) hb)
        have n5_ := Aside0.mk (blk_below (g := gb798) (o := .cells #[.string t784, .slice Ao24 t785.length co24, .int .i64 t788, .slice Ao25 t789.length co25, .slice Ao26 t792.length co26, .slice Ao27 t795.length co27] 88 (0, 0)) (by (with_reducible repeat (first | refine blk_drewN ?_ _ | refine blk_drew ?_ | refine blk_alloc ?_ _)); exact BK798.out) hb)
        have n6_ := Aside0.mk (below_step (by repeat (first | (with_reducible first | exact HB.out | apply below_alloc | apply pw_below_drewN | apply below_drew1 | refine below_set ?_ GE781.out | refine below_set ?_ GE798.out) | exact HB.out)) hb)
        have nxn6_ := Aside0.mk (below_step (by repeat (first | (with_reducible first | exact HX.out | apply below_alloc | apply pw_below_drewN | apply below_drew1 | refine below_set ?_ GX781.out | refine below_set ?_ GX798.out) | exact HX.out)) hb)
        clear HO787
        clear HO791
        clear HO794
        clear HO797
        clear BK781
        clear BK798
        clear HB HX
        have HO787 := n0_
        have HO791 := n1_
        have HO794 := n2_
        have HO797 := n3_
        have BK781 := n4_
        have BK798 := n5_
        have HB := n6_
        have HX := nxn6_
        clear nxn6_ n0_ n1_ n2_ n3_ n4_ n5_ n6_
        (try clear hb)
        (try clear hb2)
        (try clear hk)
        (try clear hi)
        refine hK.out _ _ ⟨(blk_cell BK798.out 0).trans rfl, (blk_cell BK798.out 1).trans rfl, (blk_cell BK798.out 2).trans rfl, (blk_cell BK798.out 3).trans rfl, (blk_cell BK798.out 4).trans rfl, (blk_cell BK798.out 5).trans rfl, (blk_cell BK781.out 0).trans rfl, (blk_cell BK781.out 1).trans rfl, (blk_cell BK781.out 2).trans rfl, (blk_cell BK781.out 3).trans rfl, (blk_cell BK781.out 4).trans rfl, (blk_cell BK781.out 5).trans rfl⟩ (fun hHeld => ?_)
        clear hK K
        refine norm_ (a' := ?_) ?_ ?_
        rotate_left
        ·
         show Act.put _ (some 46) _ = _
         simp only [Act.put, List.setIfInBounds_toArray, List.set_cons_zero, List.set_cons_succ, i64_w, i32_w]
         rfl
        refine pure_ (i := 15) (N := some 47) (v := ?_) (a' := ?_) #[true, true, true, true, true, true, true, true, true, true, true, true, true, true, true, true, false, false, false, false, false, false, false, false, false, false] rfl rfl (any_of HT_.out (by kernel_rfl)) (fun _ _ _ h => h) (Or.inl ⟨by rfl, ?_⟩) ?_ ?_
        rotate_left
        ·
         intro w'
         go_simp
         with_reducible rfl
        rotate_left
        ·
         simp only [Act.put, List.setIfInBounds_toArray, List.set_cons_zero, List.set_cons_succ, i64_w, i32_w]
         rfl
        refine pure_ (i := 16) (N := some 48) (v := ?_) (a' := ?_) #[true, true, true, true, true, true, true, true, true, true, true, true, true, true, true, true, true, false, false, false, false, false, false, false, false, false] rfl rfl (any_of HT_.out (by kernel_rfl)) (fun _ _ _ h => h) (Or.inl ⟨by rfl, ?_⟩) ?_ ?_
        rotate_left
        ·
         intro w'
         go_simp
         with_reducible rfl
        rotate_left
        ·
         simp only [Act.put, List.setIfInBounds_toArray, List.set_cons_zero, List.set_cons_succ, i64_w, i32_w]
         rfl
        refine pure_ (i := 17) (N := some 49) (v := ?_) (a' := ?_) #[true, true, true, true, true, true, true, true, true, true, true, true, true, true, true, true, true, true, false, false, false, false, false, false, false, false] rfl rfl (any_of HT_.out (by kernel_rfl)) (fun _ _ _ h => h) (Or.inl ⟨by rfl, ?_⟩) ?_ ?_
        rotate_left
        ·
         intro w'
         go_simp
         with_reducible rfl
        rotate_left
        ·
         simp only [Act.put, List.setIfInBounds_toArray, List.set_cons_zero, List.set_cons_succ, i64_w, i32_w]
         rfl
        refine pure_ (i := 19) (N := some 51) (v := ?_) (a' := ?_) #[true, true, true, true, true, true, true, true, true, true, true, true, true, true, true, true, true, true, false, true, false, false, false, false, false, false] rfl rfl (any_of HT_.out (by kernel_rfl)) (fun _ _ _ h => h) (Or.inl ⟨by rfl, ?_⟩) ?_ ?_
        rotate_left
        ·
         intro w'
         go_simp
         with_reducible rfl
        rotate_left
        ·
         simp only [Act.put, List.setIfInBounds_toArray, List.set_cons_zero, List.set_cons_succ, i64_w, i32_w]
         rfl
        refine pure_ (i := 22) (N := some 54) (v := ?_) (a' := ?_) #[true, true, true, true, true, true, true, true, true, true, true, true, true, true, true, true, true, true, false, true, false, false, true, false, false, false] rfl rfl (any_of HT_.out (by kernel_rfl)) (fun _ _ _ h => h) (Or.inl ⟨by rfl, ?_⟩) ?_ ?_
        rotate_left
        ·
         intro w'
         go_simp
         with_reducible rfl
        rotate_left
        ·
         simp only [Act.put, List.setIfInBounds_toArray, List.set_cons_zero, List.set_cons_succ, i64_w, i32_w]
         rfl
        refine take_ (i := 18) (N := some 50) (v := ?_) (a' := ?_) #[true, true, true, true, true, true, true, true, true, true, true, true, true, true, true, true, true, true, true, true, false, false, true, false, false, false] rfl rfl (take_ofW HT_.out HW_.out (by kernel_rfl)) (fun _ _ _ h => h) (Or.inl ⟨by rfl, ?_⟩) hHeld ?_ ?_
        rotate_left
        ·
         rintro w' ⟨s0, s1, s2, s3, s4, s5, s6, s7, s8, s9, s10, s11⟩
         go_simp
         with_reducible rfl
        rotate_left
        ·
         simp only [Act.put, List.setIfInBounds_toArray, List.set_cons_zero, List.set_cons_succ, i64_w, i32_w]
         rfl
        refine take_ (i := 21) (N := some 53) (v := ?_) (a' := ?_) #[true, true, true, true, true, true, true, true, true, true, true, true, true, true, true, true, true, true, true, true, false, true, true, false, false, false] rfl rfl (take_ofW HT_.out HW_.out (by kernel_rfl)) (fun _ _ _ h => h) (Or.inl ⟨by rfl, ?_⟩) hHeld ?_ ?_
        rotate_left
        ·
         rintro w' ⟨s0, s1, s2, s3, s4, s5, s6, s7, s8, s9, s10, s11⟩
         go_simp
         with_reducible rfl
        rotate_left
        ·
         simp only [Act.put, List.setIfInBounds_toArray, List.set_cons_zero, List.set_cons_succ, i64_w, i32_w]
         rfl
        refine one_ (i := 20) (N := some 52) #[true, true, true, true, true, true, true, true, true, true, true, true, true, true, true, true, true, true, true, true, true, true, true, false, false, false] rfl rfl (one_of HT_.out (by kernel_rfl)) (by decide) (fun K hK => ?_)
        refine goes_ Try.func79 (by kernel_rfl) rfl #[.agg #[.string t784, .slice Ao24 t785.length co24, .int .i64 t788, .slice Ao25 t789.length co25, .slice Ao26 t792.length co26, .slice Ao27 t795.length co27], .int .i64 a2] (by rfl) rfl rfl (by (try simp only [List.map_toArray, List.map_cons, List.map_nil]); first | done | rfl | (simp only [List.length_drop, List.length_take]; rfl)) ?_
        with_reducible refine (object_At.calls kj3 t784 _ _ t785 t788 _ _ t789 _ _ t792 _ _ t795 a2 t805 _ ?side1 ?side2 ?side3 ?side4 ?side5 ?side6 ?side7 ?side8 A36.out).mono ?_
        (case side1 => repeat (first | exact (Kd.R_reads' HO787.out).2.2 | (with_reducible refine Kd.C_alloc ?_ _) | (with_reducible refine Kd.C_drewN ?_ _) | (with_reducible refine Kd.C_drew ?_)))
        (case side2 => exact (Kd.R_reads' HO787.out).2.1)
        (case side3 => repeat (first | exact (Kd.R_reads' HO791.out).2.2 | (with_reducible refine Kd.C_alloc ?_ _) | (with_reducible refine Kd.C_drewN ?_ _) | (with_reducible refine Kd.C_drew ?_)))
        (case side4 => exact (Kd.R_reads' HO791.out).2.1)
        (case side5 => repeat (first | exact (Kd.R_reads' HO794.out).2.2 | (with_reducible refine Kd.C_alloc ?_ _) | (with_reducible refine Kd.C_drewN ?_ _) | (with_reducible refine Kd.C_drew ?_)))
        (case side6 => exact (Kd.R_reads' HO794.out).2.1)
        (case side7 => repeat (first | exact (Kd.R_reads' HO797.out).2.2 | (with_reducible refine Kd.C_alloc ?_ _) | (with_reducible refine Kd.C_drewN ?_ _) | (with_reducible refine Kd.C_drew ?_)))
        (case side8 => exact (Kd.R_reads' HO797.out).2.1)
        rintro e w41 ⟨rfl, hb⟩
        refine ⟨_, rfl, ?_⟩
        have n0_ := Aside0.mk (Kd.R_below (by (with_reducible repeat (first | apply Kd.R_alloc | apply Kd.R_drewN | apply Kd.R_drew)); exact HO787.out) hb)
        have n1_ := Aside0.mk (Kd.R_below (by (with_reducible repeat (first | apply Kd.R_alloc | apply Kd.R_drewN | apply Kd.R_drew)); exact HO791.out) hb)
        have n2_ := Aside0.mk (Kd.R_below (by (with_reducible repeat (first | apply Kd.R_alloc | apply Kd.R_drewN | apply Kd.R_drew)); exact HO794.out) hb)
        have n3_ := Aside0.mk (Kd.R_below (by (with_reducible repeat (first | apply Kd.R_alloc | apply Kd.R_drewN | apply Kd.R_drew)); exact HO797.out) hb)
        have n4_ := Aside0.mk (blk_below (g := gb781) (o := .cells #[.string a0_0, .slice A0_1 l0_1.length c0_1, .int .i64 a0_2, .slice A0_3 l0_3.length c0_3, .slice A0_4 l0_4.length c0_4, .slice A0_5 l0_5.length c0_5] 88 (0, 0)) (by (with_reducible repeat (first | refine blk_drewN ?_ _ | refine blk_drew ?_ | refine blk_alloc ?_ _)); exact BK781.out) hb)
        have n5_ := Aside0.mk (blk_below (g := gb798) (o := .cells #[.string t784, .slice Ao24 t785.length co24, .int .i64 t788, .slice Ao25 t789.length co25, .slice Ao26 t792.length co26, .slice Ao27 t795.length co27] 88 (0, 0)) (by (with_reducible repeat (first | refine blk_drewN ?_ _ | refine blk_drew ?_ | refine blk_alloc ?_ _)); exact BK798.out) hb)
        have n6_ := Aside0.mk (below_step (by repeat (first | (with_reducible first | exact HB.out | apply below_alloc | apply pw_below_drewN | apply below_drew1 | refine below_set ?_ GE781.out | refine below_set ?_ GE798.out) | exact HB.out)) hb)
        have nxn6_ := Aside0.mk (below_step (by repeat (first | (with_reducible first | exact HX.out | apply below_alloc | apply pw_below_drewN | apply below_drew1 | refine below_set ?_ GX781.out | refine below_set ?_ GX798.out) | exact HX.out)) hb)
        clear HO787
        clear HO791
        clear HO794
        clear HO797
        clear BK781
        clear BK798
        clear HB HX
        have HO787 := n0_
        have HO791 := n1_
        have HO794 := n2_
        have HO797 := n3_
        have BK781 := n4_
        have BK798 := n5_
        have HB := n6_
        have HX := nxn6_
        clear nxn6_ n0_ n1_ n2_ n3_ n4_ n5_ n6_
        (try clear hb)
        (try clear hb2)
        (try clear hk)
        (try clear hi)
        refine hK.out _ _ ⟨(blk_cell BK798.out 0).trans rfl, (blk_cell BK798.out 1).trans rfl, (blk_cell BK798.out 2).trans rfl, (blk_cell BK798.out 3).trans rfl, (blk_cell BK798.out 4).trans rfl, (blk_cell BK798.out 5).trans rfl, (blk_cell BK781.out 0).trans rfl, (blk_cell BK781.out 1).trans rfl, (blk_cell BK781.out 2).trans rfl, (blk_cell BK781.out 3).trans rfl, (blk_cell BK781.out 4).trans rfl, (blk_cell BK781.out 5).trans rfl⟩ (fun hHeld => ?_)
        clear hK K
        refine norm_ (a' := ?_) ?_ ?_
        rotate_left
        ·
         show Act.put _ (some 52) _ = _
         simp only [Act.put, List.setIfInBounds_toArray, List.set_cons_zero, List.set_cons_succ, i64_w, i32_w]
         rfl
        refine one_ (i := 23) (N := some 55) #[true, true, true, true, true, true, true, true, true, true, true, true, true, true, true, true, true, true, true, true, true, true, true, true, false, false] rfl rfl (one_of HT_.out (by kernel_rfl)) (by decide) (fun K hK => ?_)
        refine goes_ Try.func80 (by kernel_rfl) rfl #[.agg #[.string a0_0, .slice A0_1 l0_1.length c0_1, .int .i64 a0_2, .slice A0_3 l0_3.length c0_3, .slice A0_4 l0_4.length c0_4, .slice A0_5 l0_5.length c0_5], .int .i64 a2] (by rfl) rfl rfl (by (try simp only [List.map_toArray, List.map_cons, List.map_nil]); first | done | rfl | (simp only [List.length_drop, List.length_take]; rfl)) ?_
        with_reducible refine (pleatref03_At.calls kj3 a0_0 _ _ l0_1 a0_2 _ _ l0_3 _ _ l0_4 _ _ l0_5 a2 t806 _ ?side1 ?side2 ?side3 ?side4 ?side5 ?side6 ?side7 ?side8 A37.out).mono ?_
        (case side1 => repeat (first | exact (Kd.C_below HR0_1.out HB.out) | (with_reducible refine Kd.C_alloc ?_ _) | (with_reducible refine Kd.C_drewN ?_ _) | (with_reducible refine Kd.C_drew ?_)))
        (case side2 => exact HC0_1.out)
        (case side3 => repeat (first | exact (Kd.C_below HR0_3.out HB.out) | (with_reducible refine Kd.C_alloc ?_ _) | (with_reducible refine Kd.C_drewN ?_ _) | (with_reducible refine Kd.C_drew ?_)))
        (case side4 => exact HC0_3.out)
        (case side5 => repeat (first | exact (Kd.C_below HR0_4.out HB.out) | (with_reducible refine Kd.C_alloc ?_ _) | (with_reducible refine Kd.C_drewN ?_ _) | (with_reducible refine Kd.C_drew ?_)))
        (case side6 => exact HC0_4.out)
        (case side7 => repeat (first | exact (Kd.C_below HR0_5.out HB.out) | (with_reducible refine Kd.C_alloc ?_ _) | (with_reducible refine Kd.C_drewN ?_ _) | (with_reducible refine Kd.C_drew ?_)))
        (case side8 => exact HC0_5.out)
        rintro e w42 ⟨rfl, hb⟩
        refine ⟨_, rfl, ?_⟩
        have n0_ := Aside0.mk (Kd.R_below (by (with_reducible repeat (first | apply Kd.R_alloc | apply Kd.R_drewN | apply Kd.R_drew)); exact HO787.out) hb)
        have n1_ := Aside0.mk (Kd.R_below (by (with_reducible repeat (first | apply Kd.R_alloc | apply Kd.R_drewN | apply Kd.R_drew)); exact HO791.out) hb)
        have n2_ := Aside0.mk (Kd.R_below (by (with_reducible repeat (first | apply Kd.R_alloc | apply Kd.R_drewN | apply Kd.R_drew)); exact HO794.out) hb)
        have n3_ := Aside0.mk (Kd.R_below (by (with_reducible repeat (first | apply Kd.R_alloc | apply Kd.R_drewN | apply Kd.R_drew)); exact HO797.out) hb)
        have n4_ := Aside0.mk (blk_below (g := gb781) (o := .cells #[.string a0_0, .slice A0_1 l0_1.length c0_1, .int .i64 a0_2, .slice A0_3 l0_3.length c0_3, .slice A0_4 l0_4.length c0_4, .slice A0_5 l0_5.length c0_5] 88 (0, 0)) (by (with_reducible repeat (first | refine blk_drewN ?_ _ | refine blk_drew ?_ | refine blk_alloc ?_ _)); exact BK781.out) hb)
        have n5_ := Aside0.mk (blk_below (g := gb798) (o := .cells #[.string t784, .slice Ao24 t785.length co24, .int .i64 t788, .slice Ao25 t789.length co25, .slice Ao26 t792.length co26, .slice Ao27 t795.length co27] 88 (0, 0)) (by (with_reducible repeat (first | refine blk_drewN ?_ _ | refine blk_drew ?_ | refine blk_alloc ?_ _)); exact BK798.out) hb)
        have n6_ := Aside0.mk (below_step (by repeat (first | (with_reducible first | exact HB.out | apply below_alloc | apply pw_below_drewN | apply below_drew1 | refine below_set ?_ GE781.out | refine below_set ?_ GE798.out) | exact HB.out)) hb)
        have nxn6_ := Aside0.mk (below_step (by repeat (first | (with_reducible first | exact HX.out | apply below_alloc | apply pw_below_drewN | apply below_drew1 | refine below_set ?_ GX781.out | refine below_set ?_ GX798.out) | exact HX.out)) hb)
        clear HO787
        clear HO791
        clear HO794
        clear HO797
        clear BK781
        clear BK798
        clear HB HX
        have HO787 := n0_
        have HO791 := n1_
        have HO794 := n2_
        have HO797 := n3_
        have BK781 := n4_
        have BK798 := n5_
        have HB := n6_
        have HX := nxn6_
        clear nxn6_ n0_ n1_ n2_ n3_ n4_ n5_ n6_
        (try clear hb)
        (try clear hb2)
        (try clear hk)
        (try clear hi)
        refine hK.out _ _ ⟨(blk_cell BK798.out 0).trans rfl, (blk_cell BK798.out 1).trans rfl, (blk_cell BK798.out 2).trans rfl, (blk_cell BK798.out 3).trans rfl, (blk_cell BK798.out 4).trans rfl, (blk_cell BK798.out 5).trans rfl, (blk_cell BK781.out 0).trans rfl, (blk_cell BK781.out 1).trans rfl, (blk_cell BK781.out 2).trans rfl, (blk_cell BK781.out 3).trans rfl, (blk_cell BK781.out 4).trans rfl, (blk_cell BK781.out 5).trans rfl⟩ (fun hHeld => ?_)
        clear hK K
        refine norm_ (a' := ?_) ?_ ?_
        rotate_left
        ·
         show Act.put _ (some 55) _ = _
         simp only [Act.put, List.setIfInBounds_toArray, List.set_cons_zero, List.set_cons_succ, i64_w, i32_w]
         rfl
        refine pure_ (i := 24) (N := some 56) (v := ?_) (a' := ?_) #[true, true, true, true, true, true, true, true, true, true, true, true, true, true, true, true, true, true, true, true, true, true, true, true, true, false] rfl rfl (any_of HT_.out (by kernel_rfl)) (fun _ _ _ h => h) (Or.inl ⟨by rfl, ?_⟩) ?_ ?_
        rotate_left
        ·
         intro w'
         go_simp
         with_reducible rfl
        rotate_left
        ·
         simp only [Act.put, List.setIfInBounds_toArray, List.set_cons_zero, List.set_cons_succ, i64_w, i32_w]
         rfl
        refine pure_ (i := 25) (N := some 57) (v := ?_) (a' := ?_) #[true, true, true, true, true, true, true, true, true, true, true, true, true, true, true, true, true, true, true, true, true, true, true, true, true, true] rfl rfl (any_of HT_.out (by kernel_rfl)) (fun _ _ _ h => h) (Or.inl ⟨by rfl, ?_⟩) ?_ ?_
        rotate_left
        ·
         intro w'
         go_simp
         with_reducible rfl
        rotate_left
        ·
         simp only [Act.put, List.setIfInBounds_toArray, List.set_cons_zero, List.set_cons_succ, i64_w, i32_w]
         rfl
        refine done_ (done_of HT_.out (by kernel_rfl)) ?_
        try go_wp2
        go_meet
        case rel => exact ⟨_, ((t805 != t806)), (by first | rfl | (simp; done) | (simp [*]; done)), H', ⟨by have := HJ3.out; first | omega | exact Nat.le_refl _⟩, ⟨by (with_reducible repeat (first | apply Kd.R_alloc | apply Kd.R_drewN | apply Kd.R_drew)); exact HO787.out⟩, ⟨by (with_reducible repeat (first | apply Kd.R_alloc | apply Kd.R_drewN | apply Kd.R_drew)); exact HO791.out⟩, ⟨by (with_reducible repeat (first | apply Kd.R_alloc | apply Kd.R_drewN | apply Kd.R_drew)); exact HO794.out⟩, ⟨by (with_reducible repeat (first | apply Kd.R_alloc | apply Kd.R_drewN | apply Kd.R_drew)); exact HO797.out⟩, ⟨by (with_reducible repeat (first | refine blk_drewN ?_ _ | refine blk_drew ?_ | refine blk_alloc ?_ _)); exact BK781.out⟩, ⟨by (with_reducible repeat (first | refine blk_drewN ?_ _ | refine blk_drew ?_ | refine blk_alloc ?_ _)); exact BK798.out⟩, ⟨by repeat (first | (with_reducible first | exact HB.out | apply below_alloc | apply pw_below_drewN | apply below_drew1 | refine below_set ?_ GE781.out | refine below_set ?_ GE798.out) | exact HB.out)⟩, ⟨by repeat (first | (with_reducible first | exact HX.out | apply below_alloc | apply pw_below_drewN | apply below_drew1 | refine below_set ?_ GX781.out | refine below_set ?_ GX798.out) | exact HX.out)⟩⟩
       ·
        rw [if_neg c35] at H
        exact absurd ((pleatlaw03_ObjectTells.no H).symm.trans HRT.out) (by decide)
      ·
       rw [if_neg c32] at H
       exact absurd ((pleatlaw03_ObjectTells.no H).symm.trans HRT.out) (by decide)
     ·
      rw [if_neg c31] at H
      exact absurd ((pleatlaw03_ObjectTells.no H).symm.trans HRT.out) (by decide)
    case rest =>
     clear HC18
     try clear p2
     try clear c3
     try clear c7
     try clear c31
     try clear c31b0
     try clear c31b1
     try clear c32
     try clear c32b0
     try clear c32b1
     obtain ⟨kq, x57_17, rfl, HA, HJ17, HO_799001, HO_799003, HO_799004, HO_799005, BK781, BK798, HB, HX⟩ := hcut
     cases kq with
     | zero => exact absurd HA.out (by simp [pleatlaw03_ObjectTells.j1])
     | succ kj17 =>
      have H := HA.out
      clear HA
      simp only [pleatlaw03_ObjectTells.j1] at H
      by_cases c48 : x57_17 = true
      ·
       subst c48
       have H1 : (some false) = some r := by rw [if_pos rfl] at H; exact H
       exact absurd ((Option.some.inj H1).trans HRT.out) (by decide)
      ·
       replace c48 := Bool.eq_false_iff.mpr c48
       subst c48
       have H1 : ((pleatref00_EqObject.f kj17 t784 t785 t788 t789 t792 t795 a0_0 l0_1 a0_2 l0_3 l0_4 l0_5).bind fun t807 => (if t807 = true then ((pleatref00_SpareObject.f t784 t785 t788 t789 t792 t795).bind fun t808 => (if t808 = true then ((pleatlaw03_lives.f kj17).bind fun t809 => (some t809)) else (some false))) else (some false))) = some r := by rw [if_neg (show ¬ (false = true) by decide)] at H; exact H
       clear H
       have H := H1
       clear H1
       replace H := Option.bind_eq_some_iff.mp H
       obtain ⟨t807, A490, H⟩ := H
       try dsimp only at H
       have A49 := Aside0.mk A490
       clear A490
       by_cases c50 : t807 = true
       ·
        subst c50
        have H1 : ((pleatref00_SpareObject.f t784 t785 t788 t789 t792 t795).bind fun t808 => (if t808 = true then ((pleatlaw03_lives.f kj17).bind fun t809 => (some t809)) else (some false))) = some r := by rw [if_pos rfl] at H; exact H
        clear H
        have H := H1
        clear H1
        replace H := Option.bind_eq_some_iff.mp H
        obtain ⟨t808, A510, H⟩ := H
        try dsimp only at H
        have A51 := Aside0.mk A510
        clear A510
        by_cases c52 : t808 = true
        ·
         subst c52
         have H1 : ((pleatlaw03_lives.f kj17).bind fun t809 => (some t809)) = some r := by rw [if_pos rfl] at H; exact H
         clear H
         have H := H1
         clear H1
         replace H := Option.bind_eq_some_iff.mp H
         obtain ⟨t809, A530, H⟩ := H
         try dsimp only at H
         have A53 := Aside0.mk A530
         clear A530
         obtain rfl := Option.some.inj H
         have hnb54 := NB798_781.out
         have hnc54 := NB781_798.out
         have hcz55_0 : wc.cell? ⟨gb798, 0, none⟩ = some (.string t784) := (blk_cell BK798.out 0).trans rfl
         have hcz55_1 : wc.cell? ⟨gb798, 1, none⟩ = some (.slice Ao24 t785.length co24) := (blk_cell BK798.out 1).trans rfl
         have hcz55_2 : wc.cell? ⟨gb798, 2, none⟩ = some (.int .i64 t788) := (blk_cell BK798.out 2).trans rfl
         have hcz55_3 : wc.cell? ⟨gb798, 3, none⟩ = some (.slice Ao25 t789.length co25) := (blk_cell BK798.out 3).trans rfl
         have hcz55_4 : wc.cell? ⟨gb798, 4, none⟩ = some (.slice Ao26 t792.length co26) := (blk_cell BK798.out 4).trans rfl
         have hcz55_5 : wc.cell? ⟨gb798, 5, none⟩ = some (.slice Ao27 t795.length co27) := (blk_cell BK798.out 5).trans rfl
         have hfz55_0 := blk_frozen BK798.out 0
         have hfz55_1 := blk_frozen BK798.out 1
         have hfz55_2 := blk_frozen BK798.out 2
         have hfz55_3 := blk_frozen BK798.out 3
         have hfz55_4 := blk_frozen BK798.out 4
         have hfz55_5 := blk_frozen BK798.out 5
         have hcz56_0 : wc.cell? ⟨gb781, 0, none⟩ = some (.string a0_0) := (blk_cell BK781.out 0).trans rfl
         have hcz56_1 : wc.cell? ⟨gb781, 1, none⟩ = some (.slice A0_1 l0_1.length c0_1) := (blk_cell BK781.out 1).trans rfl
         have hcz56_2 : wc.cell? ⟨gb781, 2, none⟩ = some (.int .i64 a0_2) := (blk_cell BK781.out 2).trans rfl
         have hcz56_3 : wc.cell? ⟨gb781, 3, none⟩ = some (.slice A0_3 l0_3.length c0_3) := (blk_cell BK781.out 3).trans rfl
         have hcz56_4 : wc.cell? ⟨gb781, 4, none⟩ = some (.slice A0_4 l0_4.length c0_4) := (blk_cell BK781.out 4).trans rfl
         have hcz56_5 : wc.cell? ⟨gb781, 5, none⟩ = some (.slice A0_5 l0_5.length c0_5) := (blk_cell BK781.out 5).trans rfl
         have hfz56_0 := blk_frozen BK781.out 0
         have hfz56_1 := blk_frozen BK781.out 1
         have hfz56_2 := blk_frozen BK781.out 2
         have hfz56_3 := blk_frozen BK781.out 3
         have hfz56_4 := blk_frozen BK781.out 4
         have hfz56_5 := blk_frozen BK781.out 5
         go_wp2_with (first | ((with_reducible refine gate_callee (f := 81) rfl ?_); refine goesL_ (some 60) rfl rfl Try.func81 (by kernel_rfl) rfl #[.agg #[.string t784, .slice Ao24 t785.length co24, .int .i64 t788, .slice Ao25 t789.length co25, .slice Ao26 t792.length co26, .slice Ao27 t795.length co27], .agg #[.string a0_0, .slice A0_1 l0_1.length c0_1, .int .i64 a0_2, .slice A0_3 l0_3.length c0_3, .slice A0_4 l0_4.length c0_4, .slice A0_5 l0_5.length c0_5]] rfl (by (try simp only [List.map_toArray, List.map_cons, List.map_nil]); first | done | rfl | (simp only [List.length_drop, List.length_take]; rfl)) ?_; (with_reducible refine (pleatref00_EqObject.calls kj17 t784 _ _ t785 t788 _ _ t789 _ _ t792 _ _ t795 a0_0 _ _ l0_1 a0_2 _ _ l0_3 _ _ l0_4 _ _ l0_5 true _ ?side1 ?side2 ?side3 ?side4 ?side5 ?side6 ?side7 ?side8 ?side9 ?side10 ?side11 ?side12 ?side13 ?side14 ?side15 ?side16 A49.out).mono ?_); (case side1 => repeat (first | exact (Kd.R_reads' HO_799001.out).2.2 | (with_reducible refine Kd.C_alloc ?_ _) | (with_reducible refine Kd.C_drewN ?_ _) | (with_reducible refine Kd.C_drew ?_))); (case side2 => exact (Kd.R_reads' HO_799001.out).2.1); (case side3 => repeat (first | exact (Kd.R_reads' HO_799003.out).2.2 | (with_reducible refine Kd.C_alloc ?_ _) | (with_reducible refine Kd.C_drewN ?_ _) | (with_reducible refine Kd.C_drew ?_))); (case side4 => exact (Kd.R_reads' HO_799003.out).2.1); (case side5 => repeat (first | exact (Kd.R_reads' HO_799004.out).2.2 | (with_reducible refine Kd.C_alloc ?_ _) | (with_reducible refine Kd.C_drewN ?_ _) | (with_reducible refine Kd.C_drew ?_))); (case side6 => exact (Kd.R_reads' HO_799004.out).2.1); (case side7 => repeat (first | exact (Kd.R_reads' HO_799005.out).2.2 | (with_reducible refine Kd.C_alloc ?_ _) | (with_reducible refine Kd.C_drewN ?_ _) | (with_reducible refine Kd.C_drew ?_))); (case side8 => exact (Kd.R_reads' HO_799005.out).2.1); (case side9 => repeat (first | exact (Kd.C_below HR0_1.out HB.out) | (with_reducible refine Kd.C_alloc ?_ _) | (with_reducible refine Kd.C_drewN ?_ _) | (with_reducible refine Kd.C_drew ?_))); (case side10 => exact HC0_1.out); (case side11 => repeat (first | exact (Kd.C_below HR0_3.out HB.out) | (with_reducible refine Kd.C_alloc ?_ _) | (with_reducible refine Kd.C_drewN ?_ _) | (with_reducible refine Kd.C_drew ?_))); (case side12 => exact HC0_3.out); (case side13 => repeat (first | exact (Kd.C_below HR0_4.out HB.out) | (with_reducible refine Kd.C_alloc ?_ _) | (with_reducible refine Kd.C_drewN ?_ _) | (with_reducible refine Kd.C_drew ?_))); (case side14 => exact HC0_4.out); (case side15 => repeat (first | exact (Kd.C_below HR0_5.out HB.out) | (with_reducible refine Kd.C_alloc ?_ _) | (with_reducible refine Kd.C_drewN ?_ _) | (with_reducible refine Kd.C_drew ?_))); (case side16 => exact HC0_5.out); rintro e w57 ⟨rfl, hb⟩; refine ⟨_, rfl, ?_⟩; have n0_ := Aside0.mk (Kd.R_below (by (with_reducible repeat (first | apply Kd.R_alloc | apply Kd.R_drewN | apply Kd.R_drew)); exact HO_799001.out) hb); have n1_ := Aside0.mk (Kd.R_below (by (with_reducible repeat (first | apply Kd.R_alloc | apply Kd.R_drewN | apply Kd.R_drew)); exact HO_799003.out) hb); have n2_ := Aside0.mk (Kd.R_below (by (with_reducible repeat (first | apply Kd.R_alloc | apply Kd.R_drewN | apply Kd.R_drew)); exact HO_799004.out) hb); have n3_ := Aside0.mk (Kd.R_below (by (with_reducible repeat (first | apply Kd.R_alloc | apply Kd.R_drewN | apply Kd.R_drew)); exact HO_799005.out) hb); have n4_ := Aside0.mk (blk_below (g := gb781) (o := .cells #[.string a0_0, .slice A0_1 l0_1.length c0_1, .int .i64 a0_2, .slice A0_3 l0_3.length c0_3, .slice A0_4 l0_4.length c0_4, .slice A0_5 l0_5.length c0_5] 88 (0, 0)) (by (with_reducible repeat (first | refine blk_drewN ?_ _ | refine blk_drew ?_ | refine blk_alloc ?_ _)); exact BK781.out) hb); have n5_ := Aside0.mk (blk_below (g := gb798) (o := .cells #[.string t784, .slice Ao24 t785.length co24, .int .i64 t788, .slice Ao25 t789.length co25, .slice Ao26 t792.length co26, .slice Ao27 t795.length co27] 88 (0, 0)) (by (with_reducible repeat (first | refine blk_drewN ?_ _ | refine blk_drew ?_ | refine blk_alloc ?_ _)); exact BK798.out) hb); have n6_ := Aside0.mk (below_step (by repeat (first | (with_reducible first | exact HB.out | apply below_alloc | apply pw_below_drewN | apply below_drew1 | refine below_set ?_ GE781.out | refine below_set ?_ GE798.out) | exact HB.out)) hb); have nxn6_ := Aside0.mk (below_step (by repeat (first | (with_reducible first | exact HX.out | apply below_alloc | apply pw_below_drewN | apply below_drew1 | refine below_set ?_ GX781.out | refine below_set ?_ GX798.out) | exact HX.out)) hb); clear HO_799001; clear HO_799003; clear HO_799004; clear HO_799005; clear BK781; clear BK798; clear HB HX; have HO_799001 := n0_; have HO_799003 := n1_; have HO_799004 := n2_; have HO_799005 := n3_; have BK781 := n4_; have BK798 := n5_; have HB := n6_; have HX := nxn6_; clear nxn6_ n0_ n1_ n2_ n3_ n4_ n5_ n6_; (try clear hb); (try clear hb2); (try clear hk); (try clear hi); have hcz58_0 : w57.cell? ⟨gb798, 0, none⟩ = some (.string t784) := (blk_cell BK798.out 0).trans rfl; have hcz58_1 : w57.cell? ⟨gb798, 1, none⟩ = some (.slice Ao24 t785.length co24) := (blk_cell BK798.out 1).trans rfl; have hcz58_2 : w57.cell? ⟨gb798, 2, none⟩ = some (.int .i64 t788) := (blk_cell BK798.out 2).trans rfl; have hcz58_3 : w57.cell? ⟨gb798, 3, none⟩ = some (.slice Ao25 t789.length co25) := (blk_cell BK798.out 3).trans rfl; have hcz58_4 : w57.cell? ⟨gb798, 4, none⟩ = some (.slice Ao26 t792.length co26) := (blk_cell BK798.out 4).trans rfl; have hcz58_5 : w57.cell? ⟨gb798, 5, none⟩ = some (.slice Ao27 t795.length co27) := (blk_cell BK798.out 5).trans rfl; have hfz58_0 := blk_frozen BK798.out 0; have hfz58_1 := blk_frozen BK798.out 1; have hfz58_2 := blk_frozen BK798.out 2; have hfz58_3 := blk_frozen BK798.out 3; have hfz58_4 := blk_frozen BK798.out 4; have hfz58_5 := blk_frozen BK798.out 5) | (go_at_call 82; (with_reducible refine (pleatref00_SpareObject.callsW t784 _ _ t785 t788 _ _ t789 _ _ t792 _ _ t795 true _ ?side1 ?side2 ?side3 ?side4 ?side5 ?side6 ?side7 ?side8 A51.out (⟨_, HWX.out.below (by repeat (first | (with_reducible first | exact HX.out | apply below_alloc | apply pw_below_drewN | apply below_drew1) | exact HX.out))⟩)).mono ?_); (case side1 => repeat (first | exact (Kd.R_reads' HO_799001.out).2.2 | (with_reducible refine Kd.C_alloc ?_ _) | (with_reducible refine Kd.C_drewN ?_ _) | (with_reducible refine Kd.C_drew ?_))); (case side2 => exact (Kd.R_reads' HO_799001.out).2.1); (case side3 => repeat (first | exact (Kd.R_reads' HO_799003.out).2.2 | (with_reducible refine Kd.C_alloc ?_ _) | (with_reducible refine Kd.C_drewN ?_ _) | (with_reducible refine Kd.C_drew ?_))); (case side4 => exact (Kd.R_reads' HO_799003.out).2.1); (case side5 => repeat (first | exact (Kd.R_reads' HO_799004.out).2.2 | (with_reducible refine Kd.C_alloc ?_ _) | (with_reducible refine Kd.C_drewN ?_ _) | (with_reducible refine Kd.C_drew ?_))); (case side6 => exact (Kd.R_reads' HO_799004.out).2.1); (case side7 => repeat (first | exact (Kd.R_reads' HO_799005.out).2.2 | (with_reducible refine Kd.C_alloc ?_ _) | (with_reducible refine Kd.C_drewN ?_ _) | (with_reducible refine Kd.C_drew ?_))); (case side8 => exact (Kd.R_reads' HO_799005.out).2.1); rintro e w59 ⟨rfl, hb⟩; have n0_ := Aside0.mk (Kd.R_below (by (with_reducible repeat (first | apply Kd.R_alloc | apply Kd.R_drewN | apply Kd.R_drew)); exact HO_799001.out) hb); have n1_ := Aside0.mk (Kd.R_below (by (with_reducible repeat (first | apply Kd.R_alloc | apply Kd.R_drewN | apply Kd.R_drew)); exact HO_799003.out) hb); have n2_ := Aside0.mk (Kd.R_below (by (with_reducible repeat (first | apply Kd.R_alloc | apply Kd.R_drewN | apply Kd.R_drew)); exact HO_799004.out) hb); have n3_ := Aside0.mk (Kd.R_below (by (with_reducible repeat (first | apply Kd.R_alloc | apply Kd.R_drewN | apply Kd.R_drew)); exact HO_799005.out) hb); have n4_ := Aside0.mk (blk_below (g := gb781) (o := .cells #[.string a0_0, .slice A0_1 l0_1.length c0_1, .int .i64 a0_2, .slice A0_3 l0_3.length c0_3, .slice A0_4 l0_4.length c0_4, .slice A0_5 l0_5.length c0_5] 88 (0, 0)) (by (with_reducible repeat (first | refine blk_drewN ?_ _ | refine blk_drew ?_ | refine blk_alloc ?_ _)); exact BK781.out) hb); have n5_ := Aside0.mk (blk_below (g := gb798) (o := .cells #[.string t784, .slice Ao24 t785.length co24, .int .i64 t788, .slice Ao25 t789.length co25, .slice Ao26 t792.length co26, .slice Ao27 t795.length co27] 88 (0, 0)) (by (with_reducible repeat (first | refine blk_drewN ?_ _ | refine blk_drew ?_ | refine blk_alloc ?_ _)); exact BK798.out) hb); have n6_ := Aside0.mk (below_step (by repeat (first | (with_reducible first | exact HB.out | apply below_alloc | apply pw_below_drewN | apply below_drew1 | refine below_set ?_ GE781.out | refine below_set ?_ GE798.out) | exact HB.out)) hb); have nxn6_ := Aside0.mk (below_step (by repeat (first | (with_reducible first | exact HX.out | apply below_alloc | apply pw_below_drewN | apply below_drew1 | refine below_set ?_ GX781.out | refine below_set ?_ GX798.out) | exact HX.out)) hb); clear HO_799001; clear HO_799003; clear HO_799004; clear HO_799005; clear BK781; clear BK798; clear HB HX; have HO_799001 := n0_; have HO_799003 := n1_; have HO_799004 := n2_; have HO_799005 := n3_; have BK781 := n4_; have BK798 := n5_; have HB := n6_; have HX := nxn6_; clear nxn6_ n0_ n1_ n2_ n3_ n4_ n5_ n6_; (try clear hb); (try clear hb2); (try clear hk); (try clear hi)) | (go_at_call 73; (with_reducible refine (pleatlaw03_lives.calls kj17  t809 _ A53.out).mono ?_); rintro e w60 ⟨rfl, hb⟩; have n0_ := Aside0.mk (Kd.R_below (by (with_reducible repeat (first | apply Kd.R_alloc | apply Kd.R_drewN | apply Kd.R_drew)); exact HO_799001.out) hb); have n1_ := Aside0.mk (Kd.R_below (by (with_reducible repeat (first | apply Kd.R_alloc | apply Kd.R_drewN | apply Kd.R_drew)); exact HO_799003.out) hb); have n2_ := Aside0.mk (Kd.R_below (by (with_reducible repeat (first | apply Kd.R_alloc | apply Kd.R_drewN | apply Kd.R_drew)); exact HO_799004.out) hb); have n3_ := Aside0.mk (Kd.R_below (by (with_reducible repeat (first | apply Kd.R_alloc | apply Kd.R_drewN | apply Kd.R_drew)); exact HO_799005.out) hb); have n4_ := Aside0.mk (blk_below (g := gb781) (o := .cells #[.string a0_0, .slice A0_1 l0_1.length c0_1, .int .i64 a0_2, .slice A0_3 l0_3.length c0_3, .slice A0_4 l0_4.length c0_4, .slice A0_5 l0_5.length c0_5] 88 (0, 0)) (by (with_reducible repeat (first | refine blk_drewN ?_ _ | refine blk_drew ?_ | refine blk_alloc ?_ _)); exact BK781.out) hb); have n5_ := Aside0.mk (blk_below (g := gb798) (o := .cells #[.string t784, .slice Ao24 t785.length co24, .int .i64 t788, .slice Ao25 t789.length co25, .slice Ao26 t792.length co26, .slice Ao27 t795.length co27] 88 (0, 0)) (by (with_reducible repeat (first | refine blk_drewN ?_ _ | refine blk_drew ?_ | refine blk_alloc ?_ _)); exact BK798.out) hb); have n6_ := Aside0.mk (below_step (by repeat (first | (with_reducible first | exact HB.out | apply below_alloc | apply pw_below_drewN | apply below_drew1 | refine below_set ?_ GE781.out | refine below_set ?_ GE798.out) | exact HB.out)) hb); have nxn6_ := Aside0.mk (below_step (by repeat (first | (with_reducible first | exact HX.out | apply below_alloc | apply pw_below_drewN | apply below_drew1 | refine below_set ?_ GX781.out | refine below_set ?_ GX798.out) | exact HX.out)) hb); clear HO_799001; clear HO_799003; clear HO_799004; clear HO_799005; clear BK781; clear BK798; clear HB HX; have HO_799001 := n0_; have HO_799003 := n1_; have HO_799004 := n2_; have HO_799005 := n3_; have BK781 := n4_; have BK798 := n5_; have HB := n6_; have HX := nxn6_; clear nxn6_ n0_ n1_ n2_ n3_ n4_ n5_ n6_; (try clear hb); (try clear hb2); (try clear hk); (try clear hi)))
         go_ret
         exact ⟨by first | rfl | (simp [errW_none, errW_some] <;> rfl) | (simp [*, errW_none, errW_some] <;> rfl), by repeat (first | (with_reducible first | exact HB.out | apply below_alloc | apply pw_below_drewN | apply below_drew1 | refine below_set ?_ GE781.out | refine below_set ?_ GE798.out) | exact HB.out)⟩
        ·
         replace c52 := Bool.eq_false_iff.mpr c52
         subst c52
         have H1 : (some false) = some r := by rw [if_neg (show ¬ (false = true) by decide)] at H; exact H
         exact absurd ((Option.some.inj H1).trans HRT.out) (by decide)
       ·
        replace c50 := Bool.eq_false_iff.mpr c50
        subst c50
        have H1 : (some false) = some r := by rw [if_neg (show ¬ (false = true) by decide)] at H; exact H
        exact absurd ((Option.some.inj H1).trans HRT.out) (by decide)
theorem pleatlaw03_ObjectTells.calls (k : Nat) (a0_0 : ByteArray) (A0_1 : Option Addr) (c0_1 : Nat) (l0_1 : List Int) (a0_2 : Int) (A0_3 : Option Addr) (c0_3 : Nat) (l0_3 : List Int) (A0_4 : Option Addr) (c0_4 : Nat) (l0_4 : List (S120)) (A0_5 : Option Addr) (c0_5 : Nat) (l0_5 : List (S130)) (a1 : ByteArray) (a2 : Int) (r : Bool) (w : World) (hr0_1 : Kd.C (Kd.int .u32) w A0_1 l0_1.length l0_1) (hc0_1 : l0_1.length ≤ c0_1) (hr0_3 : Kd.C (Kd.int .i64) w A0_3 l0_3.length l0_3) (hc0_3 : l0_3.length ≤ c0_3) (hr0_4 : Kd.C k120 w A0_4 l0_4.length l0_4) (hc0_4 : l0_4.length ≤ c0_4) (hr0_5 : Kd.C k130 w A0_5 l0_5.length l0_5) (hc0_5 : l0_5.length ≤ c0_5) (h : pleatlaw03_ObjectTells.f k a0_0 l0_1 a0_2 l0_3 l0_4 l0_5 a1 a2 = some true) :
  Calls Try.prog 13 #[.agg #[.string a0_0, .slice A0_1 l0_1.length c0_1, .int .i64 a0_2, .slice A0_3 l0_3.length c0_3, .slice A0_4 l0_4.length c0_4, .slice A0_5 l0_5.length c0_5], .string a1, .int .i64 a2] w fun e w' => e = .returned (.bool true) ∧ Below w.heap.size w w' := pleatlaw03_ObjectTells.callsT k a0_0 A0_1 c0_1 l0_1 a0_2 A0_3 c0_3 l0_3 A0_4 c0_4 l0_4 A0_5 c0_5 l0_5 a1 a2 true w hr0_1 hc0_1 hr0_3 hc0_3 hr0_4 hc0_4 hr0_5 hc0_5 h rfl
end Go.Proofs.Ytiaohbbafaaibaa.P
