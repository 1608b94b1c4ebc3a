/- OWN TEXT and printed parts of this claim, laid together: P16, HTr, HAs. -/
import Derived.Test.YtiaohbbafaaibabGreatDoorZrM0
import Derived.Test.YtiaohbbafaaibabGreatDoorZrM5
import Derived.Test.YtiaohbbafaaibabGreatDoorZrM6
import Derived.Test.YtiaohbbafaaibabGreatDoorZrM3
import Derived.Test.YtiaohbbafaaibabGreatDoorZrM1
import Derived.WalkKit
import Derived.LaidEql
import Derived.Stop.Asserts
import Derived.RowKitTokens
/- What the Go functions named below come to, as plain functions, each with its proof; written by this session's prt.py over the kit's print. -/
namespace Go.Proofs.YtiaohbbafaaibabGreatDoor.P
open Go.RowKit Go.Proofs.YtiaohbbafaaibabGreatDoorW.PrintWords Go.Proofs.YtiaohbbafaaibabGreatDoorW.PrintLast Go.Proofs.YtiaohbbafaaibabGreatDoorW.PrintMore
attribute [local go_sem] max2_int min2_int max_two min_two max_three min_three max_four min_four   -- for this text's walks alone
set_option linter.unusedVariables false
set_option linter.unusedSimpArgs false
def pleatref03_Check.l0 : Nat → Int → ByteArray → List Int → Int → List Int → List (S65) → List (S82) → Option (Int × Int)
 | 0, _, _, _, _, _, _, _ => none
 | k + 1, x6, x287000, x287001, x287002, x287003, x287004, x287005 => if x6 < (x287001.length : Int) then (if 0 ≤ x6 then ((pleatref02_Target.f k (rd x287001 x6)).bind fun bt294 => (if bt294.2 = true then (if bt294.1 > (x287001.length : Int) then (some (22, wrap64 ((-1) - x6))) else (pleatref03_Check.l0 k (wrap64 (x6 + 1)) x287000 x287001 x287002 x287003 x287004 x287005)) else (pleatref03_Check.l0 k (wrap64 (x6 + 1)) x287000 x287001 x287002 x287003 x287004 x287005))) else (none)) else (some (0, 0))
def pleatref03_Check.f (k : Nat) (a0_0 : ByteArray) (l0_1 : List Int) (a0_2 : Int) (l0_3 : List Int) (l0_4 : List (S65)) (l0_5 : List (S82)) : Option (Int × Int) := (pleatref03_size.f k a0_0 l0_1 a0_2 l0_3 l0_4 l0_5).bind fun bt287 => (if bt287.1 = 0 then ((pleatref03_symbols.f k a0_0 l0_1 a0_2 l0_3 l0_4 l0_5).bind fun bt289 => (if bt289.1 = 0 then ((pleatref03_relocs.f k a0_0 l0_1 a0_2 l0_3 l0_4 l0_5).bind fun bt291 => (if bt291.1 = 0 then (pleatref03_Check.l0 k 0 a0_0 l0_1 a0_2 l0_3 l0_4 l0_5) else (some (bt291.1, bt291.2)))) else (some (bt289.1, bt289.2)))) else (some (bt287.1, bt287.2)))
theorem pleatref03_Check.mono_l : ∀ k, (∀ y0 y1 y2 y3 y4 y5 y6, LeO (pleatref03_Check.l0 k y0 y1 y2 y3 y4 y5 y6) (pleatref03_Check.l0 (k + 1) y0 y1 y2 y3 y4 y5 y6))
 | 0 => fun _ _ _ _ _ _ _ r h => by simp [pleatref03_Check.l0] at h
 | k + 1 => by
  have ih0 := pleatref03_Check.mono_l k
  ·
   intro y0 y1 y2 y3 y4 y5 y6
   unfold pleatref03_Check.l0
   repeat' first
   | (with_reducible first | exact ih0 _ _ _ _ _ _ _ | exact pleatref02_Target.mono _ _ | exact pleatref03_relocs.mono _ _ _ _ _ _ _ | exact pleatref03_size.mono _ _ _ _ _ _ _ | exact pleatref03_symbols.mono _ _ _ _ _ _ _ | exact LeO.refl _ | exact LeO.none _ | refine LeO.ite ?_ ?_ | refine LeO.bind ?_ (fun _ => ?_))
theorem pleatref03_Check.mono : ∀ a0 a1 a2 a3 a4 a5 k, LeO (pleatref03_Check.f k a0 a1 a2 a3 a4 a5) (pleatref03_Check.f (k + 1) a0 a1 a2 a3 a4 a5) := by
 intro a0 a1 a2 a3 a4 a5 k
 have ih0 := pleatref03_Check.mono_l k
 unfold pleatref03_Check.f
 repeat' first
   | (with_reducible first | exact ih0 _ _ _ _ _ _ _ | exact pleatref02_Target.mono _ _ | exact pleatref03_relocs.mono _ _ _ _ _ _ _ | exact pleatref03_size.mono _ _ _ _ _ _ _ | exact pleatref03_symbols.mono _ _ _ _ _ _ _ | exact LeO.refl _ | exact LeO.none _ | refine LeO.ite ?_ ?_ | refine LeO.bind ?_ (fun _ => ?_))
set_option maxHeartbeats 8000000 in
set_option maxRecDepth 100000 in
theorem pleatref03_Check.calls (k : Nat) (a0_0 : ByteArray) (A0_1 : Option Addr) (c0_1 : Nat) (l0_1 : List Int) (a0_2 : Int) (A0_3 : Option Addr) (c0_3 : Nat) (l0_3 : List Int) (A0_4 : Option Addr) (c0_4 : Nat) (l0_4 : List (S65)) (A0_5 : Option Addr) (c0_5 : Nat) (l0_5 : List (S82)) (r1 : Int) (r2 : Int) (w : World) (hr0_1 : Kd.C (Kd.int .u32) w A0_1 l0_1.length l0_1) (hc0_1 : l0_1.length ≤ c0_1) (hr0_3 : Kd.C (Kd.int .i64) w A0_3 l0_3.length l0_3) (hc0_3 : l0_3.length ≤ c0_3) (hr0_4 : Kd.C k65 w A0_4 l0_4.length l0_4) (hc0_4 : l0_4.length ≤ c0_4) (hr0_5 : Kd.C k82 w A0_5 l0_5.length l0_5) (hc0_5 : l0_5.length ≤ c0_5) (h : pleatref03_Check.f k a0_0 l0_1 a0_2 l0_3 l0_4 l0_5 = some (r1, r2)) :
  Calls Tryz.prog 30 #[.agg #[.string a0_0, .slice A0_1 l0_1.length c0_1, .int .i64 a0_2, .slice A0_3 l0_3.length c0_3, .slice A0_4 l0_4.length c0_4, .slice A0_5 l0_5.length c0_5]] w fun e w' => e = .returned (.tuple #[.int .i64 r1, .int .i64 r2]) ∧ Below w.heap.size w w' := by
 have hu27 := Tryz.underlying27
 have HR0_1 := Aside0.mk hr0_1
 have HC0_1 := Aside0.mk hc0_1
 clear hr0_1 hc0_1
 have HR0_3 := Aside0.mk hr0_3
 have HC0_3 := Aside0.mk hc0_3
 clear hr0_3 hc0_3
 have HR0_4 := Aside0.mk hr0_4
 have HC0_4 := Aside0.mk hc0_4
 clear hr0_4 hc0_4
 have HR0_5 := Aside0.mk hr0_5
 have HC0_5 := Aside0.mk hc0_5
 clear hr0_5 hc0_5
 have HB := Aside0.mk (Below.refl w.heap.size w)
 have H : ((pleatref03_size.f k a0_0 l0_1 a0_2 l0_3 l0_4 l0_5).bind fun bt287 => (if bt287.1 = 0 then ((pleatref03_symbols.f k a0_0 l0_1 a0_2 l0_3 l0_4 l0_5).bind fun bt289 => (if bt289.1 = 0 then ((pleatref03_relocs.f k a0_0 l0_1 a0_2 l0_3 l0_4 l0_5).bind fun bt291 => (if bt291.1 = 0 then (pleatref03_Check.l0 k 0 a0_0 l0_1 a0_2 l0_3 l0_4 l0_5) else (some (bt291.1, bt291.2)))) else (some (bt289.1, bt289.2)))) else (some (bt287.1, bt287.2)))) = some (r1, r2) := h
 clear h
 replace H := Option.bind_eq_some_iff.mp H
 obtain ⟨⟨t287, t288⟩, A20, H⟩ := H
 try dsimp only at H
 have A2 := Aside0.mk A20
 clear A20
 by_cases c3 : t287 = 0
 ·
  rw [if_pos c3] at H
  have c3b0 : (t287 == 0) = true := beq_iff_eq.mpr c3
  have c3b1 : (t287 != 0) = false := bne_eq_false_iff_eq.mpr c3
  clear c3
  replace H := Option.bind_eq_some_iff.mp H
  obtain ⟨⟨t289, t290⟩, A40, H⟩ := H
  try dsimp only at H
  have A4 := Aside0.mk A40
  clear A40
  by_cases c5 : t289 = 0
  ·
   rw [if_pos c5] at H
   have c5b0 : (t289 == 0) = true := beq_iff_eq.mpr c5
   have c5b1 : (t289 != 0) = false := bne_eq_false_iff_eq.mpr c5
   clear c5
   replace H := Option.bind_eq_some_iff.mp H
   obtain ⟨⟨t291, t292⟩, A60, H⟩ := H
   try dsimp only at H
   have A6 := Aside0.mk A60
   clear A60
   by_cases c7 : t291 = 0
   ·
    rw [if_pos c7] at H
    have c7b0 : (t291 == 0) = true := beq_iff_eq.mpr c7
    have c7b1 : (t291 != 0) = false := bne_eq_false_iff_eq.mpr c7
    clear c7
    have H' := Aside0.mk H
    clear H
    go_enter Tryz.func30, Tryz.ntmps30
    go_wp2_with (first | ((with_reducible refine gate_dst (N := 1) rfl ?_); (try (refine gate_guard (by rfl) ?_; dsimp only)); refine box_event ?hg (N := 1) ?hd (cs := #[.string a0_0, .slice A0_1 l0_1.length c0_1, .int .i64 a0_2, .slice A0_3 l0_3.length c0_3, .slice A0_4 l0_4.length c0_4, .slice A0_5 l0_5.length c0_5]) (t := 27) ?hr ?_; (case hd => rfl); (case hg => rfl); (case hr => go_simp; try rfl); intro gb286 hg w8 hbox hb; have BK286 := Aside0.mk (hbox); have GW286 := Aside0.mk (gwQ hg HB.out); have GE286 := Aside0.mk (gwQ hg HB.out); replace HB := Aside0.mk (bsQ hb HB.out); clear hb hbox hg; obtain ⟨hcz9_0, hcz9_1, hcz9_2, hcz9_3, hcz9_4, hcz9_5⟩ := bcQ6 BK286.out; obtain ⟨hfz9_0, hfz9_1, hfz9_2, hfz9_3, hfz9_4, hfz9_5⟩ := fzQ6 BK286.out) | ((with_reducible refine gate_callee (f := 86) rfl ?_); refine goesL_ (some 11) rfl rfl Tryz.func86 (by kernel_rfl) rfl #[.agg #[.string a0_0, .slice A0_1 l0_1.length c0_1, .int .i64 a0_2, .slice A0_3 l0_3.length c0_3, .slice A0_4 l0_4.length c0_4, .slice A0_5 l0_5.length c0_5]] rfl (by (try simp only [List.map_toArray, List.map_cons, List.map_nil]); try rfl) ?_; (with_reducible refine (pleatref03_size.calls k a0_0 _ _ l0_1 a0_2 _ _ l0_3 _ _ l0_4 _ _ l0_5 t287 t288 _ ?side1 ?side2 ?side3 ?side4 ?side5 ?side6 ?side7 ?side8 A2.out).mono ?_); (case side1 => exact cbQ HB.out HR0_1.out); (case side2 => exact HC0_1.out); (case side3 => exact cbQ HB.out HR0_3.out); (case side4 => exact HC0_3.out); (case side5 => exact cbQ HB.out HR0_4.out); (case side6 => exact HC0_4.out); (case side7 => exact cbQ HB.out HR0_5.out); (case side8 => exact HC0_5.out); rintro e w10 ⟨rfl, hb⟩; refine ⟨_, rfl, ?_⟩; replace BK286 := Aside0.mk (bbQ hb BK286.out); replace HB := Aside0.mk (bs1Q hb (by repeat with_reducible first | exact HB.out | apply pw_below_drewN | apply below_drew1 | refine below_set ?_ GE286.out)); (try clear hb); (try clear hb2); (try clear hk); (try clear hi); obtain ⟨hcz11_0, hcz11_1, hcz11_2, hcz11_3, hcz11_4, hcz11_5⟩ := bcQ6 BK286.out; obtain ⟨hfz11_0, hfz11_1, hfz11_2, hfz11_3, hfz11_4, hfz11_5⟩ := fzQ6 BK286.out) | ((with_reducible refine gate_callee (f := 87) rfl ?_); refine goesL_ (some 20) rfl rfl Tryz.func87 (by kernel_rfl) rfl #[.agg #[.string a0_0, .slice A0_1 l0_1.length c0_1, .int .i64 a0_2, .slice A0_3 l0_3.length c0_3, .slice A0_4 l0_4.length c0_4, .slice A0_5 l0_5.length c0_5]] rfl (by (try simp only [List.map_toArray, List.map_cons, List.map_nil]); try rfl) ?_; (with_reducible refine (pleatref03_symbols.calls k a0_0 _ _ l0_1 a0_2 _ _ l0_3 _ _ l0_4 _ _ l0_5 t289 t290 _ ?side1 ?side2 ?side3 ?side4 ?side5 ?side6 ?side7 ?side8 A4.out).mono ?_); (case side1 => exact cbQ HB.out HR0_1.out); (case side2 => exact HC0_1.out); (case side3 => exact cbQ HB.out HR0_3.out); (case side4 => exact HC0_3.out); (case side5 => exact cbQ HB.out HR0_4.out); (case side6 => exact HC0_4.out); (case side7 => exact cbQ HB.out HR0_5.out); (case side8 => exact HC0_5.out); rintro e w12 ⟨rfl, hb⟩; refine ⟨_, rfl, ?_⟩; replace BK286 := Aside0.mk (bbQ hb BK286.out); replace HB := Aside0.mk (bs1Q hb (by repeat with_reducible first | exact HB.out | apply pw_below_drewN | apply below_drew1 | refine below_set ?_ GE286.out)); (try clear hb); (try clear hb2); (try clear hk); (try clear hi); obtain ⟨hcz13_0, hcz13_1, hcz13_2, hcz13_3, hcz13_4, hcz13_5⟩ := bcQ6 BK286.out; obtain ⟨hfz13_0, hfz13_1, hfz13_2, hfz13_3, hfz13_4, hfz13_5⟩ := fzQ6 BK286.out) | ((with_reducible refine gate_callee (f := 88) rfl ?_); refine goesL_ (some 29) rfl rfl Tryz.func88 (by kernel_rfl) rfl #[.agg #[.string a0_0, .slice A0_1 l0_1.length c0_1, .int .i64 a0_2, .slice A0_3 l0_3.length c0_3, .slice A0_4 l0_4.length c0_4, .slice A0_5 l0_5.length c0_5]] rfl (by (try simp only [List.map_toArray, List.map_cons, List.map_nil]); try rfl) ?_; (with_reducible refine (pleatref03_relocs.calls k a0_0 _ _ l0_1 a0_2 _ _ l0_3 _ _ l0_4 _ _ l0_5 t291 t292 _ ?side1 ?side2 ?side3 ?side4 ?side5 ?side6 ?side7 ?side8 A6.out).mono ?_); (case side1 => exact cbQ HB.out HR0_1.out); (case side2 => exact HC0_1.out); (case side3 => exact cbQ HB.out HR0_3.out); (case side4 => exact HC0_3.out); (case side5 => exact cbQ HB.out HR0_4.out); (case side6 => exact HC0_4.out); (case side7 => exact cbQ HB.out HR0_5.out); (case side8 => exact HC0_5.out); rintro e w14 ⟨rfl, hb⟩; refine ⟨_, rfl, ?_⟩; replace BK286 := Aside0.mk (bbQ hb BK286.out); replace HB := Aside0.mk (bs1Q hb (by repeat with_reducible first | exact HB.out | apply pw_below_drewN | apply below_drew1 | refine below_set ?_ GE286.out)); (try clear hb); (try clear hb2); (try clear hk); (try clear hi)))
    go_loopg [6] k (fun kq v6 w' => ∃ (x6_1 : Int), v6 = .int .i64 x6_1 ∧ Aside0 (pleatref03_Check.l0 kq x6_1 a0_0 l0_1 a0_2 l0_3 l0_4 l0_5 = some (r1, r2)) ∧ Aside0 (kq ≤ k) ∧ Aside0 (w'.heap[gb286]? = some (.cells #[.string a0_0, (.slice A0_1 l0_1.length c0_1), .int .i64 a0_2, (.slice A0_3 l0_3.length c0_3), (.slice A0_4 l0_4.length c0_4), (.slice A0_5 l0_5.length c0_5)] 27 (0, 0))) ∧ Aside0 (Below w.heap.size w w'))
    case atStart => exact ⟨(0), (by first | rfl | (simp; done) | (simp [*]; done)), H', ⟨Nat.le_refl _⟩, ⟨by exact BK286.out⟩, ⟨by repeat with_reducible first | exact HB.out | apply pw_below_drewN | apply below_drew1 | refine below_set ?_ GE286.out⟩⟩
    case round =>
     clear H'
     try clear p2
     try clear c3
     try clear c3b0
     try clear c3b1
     try clear c5
     try clear c5b0
     try clear c5b1
     try clear c7
     try clear c7b0
     try clear c7b1
     try clear c8
     try clear hcz11_0 hcz11_1 hcz11_2 hcz11_3 hcz11_4 hcz11_5
     try clear hcz13_0 hcz13_1 hcz13_2 hcz13_3 hcz13_4 hcz13_5
     try clear hcz9_0 hcz9_1 hcz9_2 hcz9_3 hcz9_4 hcz9_5
     try clear hfz11_0 hfz11_1 hfz11_2 hfz11_3 hfz11_4 hfz11_5
     try clear hfz13_0 hfz13_1 hfz13_2 hfz13_3 hfz13_4 hfz13_5
     try clear hfz9_0 hfz9_1 hfz9_2 hfz9_3 hfz9_4 hfz9_5
     obtain ⟨x6_1, rfl, HA, HK1, BK286, HB⟩ := hrel
     cases gk with
     | zero => exact absurd HA.out (by simp [pleatref03_Check.l0])
     | succ k1 =>
      have H := HA.out
      clear HA
      simp only [pleatref03_Check.l0] at H
      by_cases c15 : x6_1 < (l0_1.length : Int)
      ·
       rw [if_pos c15] at H
       have c15b0 : decide (x6_1 < (l0_1.length : Int)) = true := decide_eq_true c15
       clear c15
       by_cases c16 : 0 ≤ x6_1
       ·
        rw [if_pos c16] at H
        have c16b0 : decide (0 ≤ x6_1) = true := decide_eq_true c16
        clear c16
        replace H := Option.bind_eq_some_iff.mp H
        obtain ⟨⟨t294, t295⟩, A170, H⟩ := H
        try dsimp only at H
        have A17 := Aside0.mk A170
        clear A170
        by_cases c18 : t295 = true
        ·
         subst c18
         rw [if_pos rfl] at H
         by_cases c19 : t294 > (l0_1.length : Int)
         ·
          rw [if_pos c19] at H
          have c19b0 : decide ((l0_1.length : Int) < t294) = true := decide_eq_true c19
          clear c19
          simp only [Option.some.injEq, Prod.mk.injEq] at H
          obtain ⟨rfl, rfl⟩ := H
          obtain ⟨hcz20_0, hcz20_1, hcz20_2, hcz20_3, hcz20_4, hcz20_5⟩ := bcQ6 BK286.out
          obtain ⟨hfz20_0, hfz20_1, hfz20_2, hfz20_3, hfz20_4, hfz20_5⟩ := fzQ6 BK286.out
          have p293 : 0 ≤ (x6_1 : Int) := of_decide_eq_true ‹_›
          have q293 : x6_1 < (l0_1.length : Int) := of_decide_eq_true ‹_›
          obtain ⟨ad293, e293, hx293_0⟩ := Kd.at_int HR0_1.out x6_1 p293 q293
          cases e293
          replace hx293_0 := pw_cell_below HB.out hx293_0
          replace p293 := eq_true p293
          replace q293 := eq_true q293
          go_wp2_with (first | ((with_reducible refine gate_callee (f := 89) rfl ?_); refine goesL_ (some 49) rfl rfl Tryz.func89 (by kernel_rfl) rfl #[.int .u32 (rd l0_1 x6_1)] rfl (by (try simp only [List.map_toArray, List.map_cons, List.map_nil]); try rfl) ?_; (with_reducible refine (pleatref02_Target.calls k1 (rd l0_1 x6_1) t294 true _ A17.out).mono ?_); rintro e w21 ⟨rfl, hb⟩; refine ⟨_, rfl, ?_⟩; replace BK286 := Aside0.mk (bbQ hb BK286.out); replace HB := Aside0.mk (bs1Q hb (by repeat with_reducible first | exact HB.out | apply pw_below_drewN | apply below_drew1 | refine below_set ?_ GE286.out)); (try clear hb); (try clear hb2); (try clear hk); (try clear hi); obtain ⟨hcz22_0, hcz22_1, hcz22_2, hcz22_3, hcz22_4, hcz22_5⟩ := bcQ6 BK286.out; obtain ⟨hfz22_0, hfz22_1, hfz22_2, hfz22_3, hfz22_4, hfz22_5⟩ := fzQ6 BK286.out))
          go_ret2
          exact ⟨by first | rfl | (simp [errW_none, errW_some] <;> rfl) | (simp [*, errW_none, errW_some] <;> rfl), by repeat with_reducible first | exact HB.out | apply pw_below_drewN | apply below_drew1 | refine below_set ?_ GE286.out⟩
         ·
          rw [if_neg c19] at H
          have c19b0 : decide ((l0_1.length : Int) < t294) = false := decide_eq_false c19
          clear c19
          have H' := Aside0.mk H
          clear H
          obtain ⟨hcz23_0, hcz23_1, hcz23_2, hcz23_3, hcz23_4, hcz23_5⟩ := bcQ6 BK286.out
          obtain ⟨hfz23_0, hfz23_1, hfz23_2, hfz23_3, hfz23_4, hfz23_5⟩ := fzQ6 BK286.out
          have p293 : 0 ≤ (x6_1 : Int) := of_decide_eq_true ‹_›
          have q293 : x6_1 < (l0_1.length : Int) := of_decide_eq_true ‹_›
          obtain ⟨ad293, e293, hx293_0⟩ := Kd.at_int HR0_1.out x6_1 p293 q293
          cases e293
          replace hx293_0 := pw_cell_below HB.out hx293_0
          replace p293 := eq_true p293
          replace q293 := eq_true q293
          go_wp2_with (first | ((with_reducible refine gate_callee (f := 89) rfl ?_); refine goesL_ (some 49) rfl rfl Tryz.func89 (by kernel_rfl) rfl #[.int .u32 (rd l0_1 x6_1)] rfl (by (try simp only [List.map_toArray, List.map_cons, List.map_nil]); try rfl) ?_; (with_reducible refine (pleatref02_Target.calls k1 (rd l0_1 x6_1) t294 true _ A17.out).mono ?_); rintro e w24 ⟨rfl, hb⟩; refine ⟨_, rfl, ?_⟩; replace BK286 := Aside0.mk (bbQ hb BK286.out); replace HB := Aside0.mk (bs1Q hb (by repeat with_reducible first | exact HB.out | apply pw_below_drewN | apply below_drew1 | refine below_set ?_ GE286.out)); (try clear hb); (try clear hb2); (try clear hk); (try clear hi); obtain ⟨hcz25_0, hcz25_1, hcz25_2, hcz25_3, hcz25_4, hcz25_5⟩ := bcQ6 BK286.out; obtain ⟨hfz25_0, hfz25_1, hfz25_2, hfz25_3, hfz25_4, hfz25_5⟩ := fzQ6 BK286.out))
          go_roundg k1
          case measure => have := HK1.out; omega
          case rel => exact ⟨(wrap64 (x6_1 + 1)), (by first | rfl | (simp; done) | (simp [*]; done)), H', ⟨by have := HK1.out; omega⟩, ⟨by exact BK286.out⟩, ⟨by repeat with_reducible first | exact HB.out | apply pw_below_drewN | apply below_drew1 | refine below_set ?_ GE286.out⟩⟩
        ·
         replace c18 := Bool.eq_false_iff.mpr c18
         subst c18
         rw [if_neg Bool.false_ne_true] at H
         have H' := Aside0.mk H
         clear H
         obtain ⟨hcz26_0, hcz26_1, hcz26_2, hcz26_3, hcz26_4, hcz26_5⟩ := bcQ6 BK286.out
         obtain ⟨hfz26_0, hfz26_1, hfz26_2, hfz26_3, hfz26_4, hfz26_5⟩ := fzQ6 BK286.out
         have p293 : 0 ≤ (x6_1 : Int) := of_decide_eq_true ‹_›
         have q293 : x6_1 < (l0_1.length : Int) := of_decide_eq_true ‹_›
         obtain ⟨ad293, e293, hx293_0⟩ := Kd.at_int HR0_1.out x6_1 p293 q293
         cases e293
         replace hx293_0 := pw_cell_below HB.out hx293_0
         replace p293 := eq_true p293
         replace q293 := eq_true q293
         go_wp2_with (first | ((with_reducible refine gate_callee (f := 89) rfl ?_); refine goesL_ (some 49) rfl rfl Tryz.func89 (by kernel_rfl) rfl #[.int .u32 (rd l0_1 x6_1)] rfl (by (try simp only [List.map_toArray, List.map_cons, List.map_nil]); try rfl) ?_; (with_reducible refine (pleatref02_Target.calls k1 (rd l0_1 x6_1) t294 false _ A17.out).mono ?_); rintro e w27 ⟨rfl, hb⟩; refine ⟨_, rfl, ?_⟩; replace BK286 := Aside0.mk (bbQ hb BK286.out); replace HB := Aside0.mk (bs1Q hb (by repeat with_reducible first | exact HB.out | apply pw_below_drewN | apply below_drew1 | refine below_set ?_ GE286.out)); (try clear hb); (try clear hb2); (try clear hk); (try clear hi)))
         go_roundg k1
         case measure => have := HK1.out; omega
         case rel => exact ⟨(wrap64 (x6_1 + 1)), (by first | rfl | (simp; done) | (simp [*]; done)), H', ⟨by have := HK1.out; omega⟩, ⟨by exact BK286.out⟩, ⟨by repeat with_reducible first | exact HB.out | apply pw_below_drewN | apply below_drew1 | refine below_set ?_ GE286.out⟩⟩
       ·
        rw [if_neg c16] at H
        exact absurd H (by simp)
      ·
       rw [if_neg c15] at H
       have c15b0 : decide (x6_1 < (l0_1.length : Int)) = false := decide_eq_false c15
       clear c15
       simp only [Option.some.injEq, Prod.mk.injEq] at H
       obtain ⟨rfl, rfl⟩ := H
       obtain ⟨hcz28_0, hcz28_1, hcz28_2, hcz28_3, hcz28_4, hcz28_5⟩ := bcQ6 BK286.out
       obtain ⟨hfz28_0, hfz28_1, hfz28_2, hfz28_3, hfz28_4, hfz28_5⟩ := fzQ6 BK286.out
       go_wp2
       go_ret2
       exact ⟨by first | rfl | (simp [errW_none, errW_some] <;> rfl) | (simp [*, errW_none, errW_some] <;> rfl), by repeat with_reducible first | exact HB.out | apply pw_below_drewN | apply below_drew1 | refine below_set ?_ GE286.out⟩
   ·
    rw [if_neg c7] at H
    have c7b0 : (t291 == 0) = false := beq_eq_false_iff_ne.mpr c7
    have c7b1 : (t291 != 0) = true := bne_iff_ne.mpr c7
    simp only [Option.some.injEq, Prod.mk.injEq] at H
    obtain ⟨rfl, rfl⟩ := H
    go_enter Tryz.func30, Tryz.ntmps30
    go_wp2_with (first | ((with_reducible refine gate_dst (N := 1) rfl ?_); (try (refine gate_guard (by rfl) ?_; dsimp only)); refine box_event ?hg (N := 1) ?hd (cs := #[.string a0_0, .slice A0_1 l0_1.length c0_1, .int .i64 a0_2, .slice A0_3 l0_3.length c0_3, .slice A0_4 l0_4.length c0_4, .slice A0_5 l0_5.length c0_5]) (t := 27) ?hr ?_; (case hd => rfl); (case hg => rfl); (case hr => go_simp; try rfl); intro gb286 hg w29 hbox hb; have BK286 := Aside0.mk (hbox); have GW286 := Aside0.mk (gwQ hg HB.out); have GE286 := Aside0.mk (gwQ hg HB.out); replace HB := Aside0.mk (bsQ hb HB.out); clear hb hbox hg; obtain ⟨hcz30_0, hcz30_1, hcz30_2, hcz30_3, hcz30_4, hcz30_5⟩ := bcQ6 BK286.out; obtain ⟨hfz30_0, hfz30_1, hfz30_2, hfz30_3, hfz30_4, hfz30_5⟩ := fzQ6 BK286.out) | ((with_reducible refine gate_callee (f := 86) rfl ?_); refine goesL_ (some 11) rfl rfl Tryz.func86 (by kernel_rfl) rfl #[.agg #[.string a0_0, .slice A0_1 l0_1.length c0_1, .int .i64 a0_2, .slice A0_3 l0_3.length c0_3, .slice A0_4 l0_4.length c0_4, .slice A0_5 l0_5.length c0_5]] rfl (by (try simp only [List.map_toArray, List.map_cons, List.map_nil]); try rfl) ?_; (with_reducible refine (pleatref03_size.calls k a0_0 _ _ l0_1 a0_2 _ _ l0_3 _ _ l0_4 _ _ l0_5 t287 t288 _ ?side1 ?side2 ?side3 ?side4 ?side5 ?side6 ?side7 ?side8 A2.out).mono ?_); (case side1 => exact cbQ HB.out HR0_1.out); (case side2 => exact HC0_1.out); (case side3 => exact cbQ HB.out HR0_3.out); (case side4 => exact HC0_3.out); (case side5 => exact cbQ HB.out HR0_4.out); (case side6 => exact HC0_4.out); (case side7 => exact cbQ HB.out HR0_5.out); (case side8 => exact HC0_5.out); rintro e w31 ⟨rfl, hb⟩; refine ⟨_, rfl, ?_⟩; replace BK286 := Aside0.mk (bbQ hb BK286.out); replace HB := Aside0.mk (bs1Q hb (by repeat with_reducible first | exact HB.out | apply pw_below_drewN | apply below_drew1 | refine below_set ?_ GE286.out)); (try clear hb); (try clear hb2); (try clear hk); (try clear hi); obtain ⟨hcz32_0, hcz32_1, hcz32_2, hcz32_3, hcz32_4, hcz32_5⟩ := bcQ6 BK286.out; obtain ⟨hfz32_0, hfz32_1, hfz32_2, hfz32_3, hfz32_4, hfz32_5⟩ := fzQ6 BK286.out) | ((with_reducible refine gate_callee (f := 87) rfl ?_); refine goesL_ (some 20) rfl rfl Tryz.func87 (by kernel_rfl) rfl #[.agg #[.string a0_0, .slice A0_1 l0_1.length c0_1, .int .i64 a0_2, .slice A0_3 l0_3.length c0_3, .slice A0_4 l0_4.length c0_4, .slice A0_5 l0_5.length c0_5]] rfl (by (try simp only [List.map_toArray, List.map_cons, List.map_nil]); try rfl) ?_; (with_reducible refine (pleatref03_symbols.calls k a0_0 _ _ l0_1 a0_2 _ _ l0_3 _ _ l0_4 _ _ l0_5 t289 t290 _ ?side1 ?side2 ?side3 ?side4 ?side5 ?side6 ?side7 ?side8 A4.out).mono ?_); (case side1 => exact cbQ HB.out HR0_1.out); (case side2 => exact HC0_1.out); (case side3 => exact cbQ HB.out HR0_3.out); (case side4 => exact HC0_3.out); (case side5 => exact cbQ HB.out HR0_4.out); (case side6 => exact HC0_4.out); (case side7 => exact cbQ HB.out HR0_5.out); (case side8 => exact HC0_5.out); rintro e w33 ⟨rfl, hb⟩; refine ⟨_, rfl, ?_⟩; replace BK286 := Aside0.mk (bbQ hb BK286.out); replace HB := Aside0.mk (bs1Q hb (by repeat with_reducible first | exact HB.out | apply pw_below_drewN | apply below_drew1 | refine below_set ?_ GE286.out)); (try clear hb); (try clear hb2); (try clear hk); (try clear hi); obtain ⟨hcz34_0, hcz34_1, hcz34_2, hcz34_3, hcz34_4, hcz34_5⟩ := bcQ6 BK286.out; obtain ⟨hfz34_0, hfz34_1, hfz34_2, hfz34_3, hfz34_4, hfz34_5⟩ := fzQ6 BK286.out) | ((with_reducible refine gate_callee (f := 88) rfl ?_); refine goesL_ (some 29) rfl rfl Tryz.func88 (by kernel_rfl) rfl #[.agg #[.string a0_0, .slice A0_1 l0_1.length c0_1, .int .i64 a0_2, .slice A0_3 l0_3.length c0_3, .slice A0_4 l0_4.length c0_4, .slice A0_5 l0_5.length c0_5]] rfl (by (try simp only [List.map_toArray, List.map_cons, List.map_nil]); try rfl) ?_; (with_reducible refine (pleatref03_relocs.calls k a0_0 _ _ l0_1 a0_2 _ _ l0_3 _ _ l0_4 _ _ l0_5 t291 t292 _ ?side1 ?side2 ?side3 ?side4 ?side5 ?side6 ?side7 ?side8 A6.out).mono ?_); (case side1 => exact cbQ HB.out HR0_1.out); (case side2 => exact HC0_1.out); (case side3 => exact cbQ HB.out HR0_3.out); (case side4 => exact HC0_3.out); (case side5 => exact cbQ HB.out HR0_4.out); (case side6 => exact HC0_4.out); (case side7 => exact cbQ HB.out HR0_5.out); (case side8 => exact HC0_5.out); rintro e w35 ⟨rfl, hb⟩; refine ⟨_, rfl, ?_⟩; replace BK286 := Aside0.mk (bbQ hb BK286.out); replace HB := Aside0.mk (bs1Q hb (by repeat with_reducible first | exact HB.out | apply pw_below_drewN | apply below_drew1 | refine below_set ?_ GE286.out)); (try clear hb); (try clear hb2); (try clear hk); (try clear hi)))
    go_ret2
    exact ⟨by first | rfl | (simp [errW_none, errW_some] <;> rfl) | (simp [*, errW_none, errW_some] <;> rfl), by repeat with_reducible first | exact HB.out | apply pw_below_drewN | apply below_drew1 | refine below_set ?_ GE286.out⟩
  ·
   rw [if_neg c5] at H
   have c5b0 : (t289 == 0) = false := beq_eq_false_iff_ne.mpr c5
   have c5b1 : (t289 != 0) = true := bne_iff_ne.mpr c5
   simp only [Option.some.injEq, Prod.mk.injEq] at H
   obtain ⟨rfl, rfl⟩ := H
   go_enter Tryz.func30, Tryz.ntmps30
   go_wp2_with (first | ((with_reducible refine gate_dst (N := 1) rfl ?_); (try (refine gate_guard (by rfl) ?_; dsimp only)); refine box_event ?hg (N := 1) ?hd (cs := #[.string a0_0, .slice A0_1 l0_1.length c0_1, .int .i64 a0_2, .slice A0_3 l0_3.length c0_3, .slice A0_4 l0_4.length c0_4, .slice A0_5 l0_5.length c0_5]) (t := 27) ?hr ?_; (case hd => rfl); (case hg => rfl); (case hr => go_simp; try rfl); intro gb286 hg w36 hbox hb; have BK286 := Aside0.mk (hbox); have GW286 := Aside0.mk (gwQ hg HB.out); have GE286 := Aside0.mk (gwQ hg HB.out); replace HB := Aside0.mk (bsQ hb HB.out); clear hb hbox hg; obtain ⟨hcz37_0, hcz37_1, hcz37_2, hcz37_3, hcz37_4, hcz37_5⟩ := bcQ6 BK286.out; obtain ⟨hfz37_0, hfz37_1, hfz37_2, hfz37_3, hfz37_4, hfz37_5⟩ := fzQ6 BK286.out) | ((with_reducible refine gate_callee (f := 86) rfl ?_); refine goesL_ (some 11) rfl rfl Tryz.func86 (by kernel_rfl) rfl #[.agg #[.string a0_0, .slice A0_1 l0_1.length c0_1, .int .i64 a0_2, .slice A0_3 l0_3.length c0_3, .slice A0_4 l0_4.length c0_4, .slice A0_5 l0_5.length c0_5]] rfl (by (try simp only [List.map_toArray, List.map_cons, List.map_nil]); try rfl) ?_; (with_reducible refine (pleatref03_size.calls k a0_0 _ _ l0_1 a0_2 _ _ l0_3 _ _ l0_4 _ _ l0_5 t287 t288 _ ?side1 ?side2 ?side3 ?side4 ?side5 ?side6 ?side7 ?side8 A2.out).mono ?_); (case side1 => exact cbQ HB.out HR0_1.out); (case side2 => exact HC0_1.out); (case side3 => exact cbQ HB.out HR0_3.out); (case side4 => exact HC0_3.out); (case side5 => exact cbQ HB.out HR0_4.out); (case side6 => exact HC0_4.out); (case side7 => exact cbQ HB.out HR0_5.out); (case side8 => exact HC0_5.out); rintro e w38 ⟨rfl, hb⟩; refine ⟨_, rfl, ?_⟩; replace BK286 := Aside0.mk (bbQ hb BK286.out); replace HB := Aside0.mk (bs1Q hb (by repeat with_reducible first | exact HB.out | apply pw_below_drewN | apply below_drew1 | refine below_set ?_ GE286.out)); (try clear hb); (try clear hb2); (try clear hk); (try clear hi); obtain ⟨hcz39_0, hcz39_1, hcz39_2, hcz39_3, hcz39_4, hcz39_5⟩ := bcQ6 BK286.out; obtain ⟨hfz39_0, hfz39_1, hfz39_2, hfz39_3, hfz39_4, hfz39_5⟩ := fzQ6 BK286.out) | ((with_reducible refine gate_callee (f := 87) rfl ?_); refine goesL_ (some 20) rfl rfl Tryz.func87 (by kernel_rfl) rfl #[.agg #[.string a0_0, .slice A0_1 l0_1.length c0_1, .int .i64 a0_2, .slice A0_3 l0_3.length c0_3, .slice A0_4 l0_4.length c0_4, .slice A0_5 l0_5.length c0_5]] rfl (by (try simp only [List.map_toArray, List.map_cons, List.map_nil]); try rfl) ?_; (with_reducible refine (pleatref03_symbols.calls k a0_0 _ _ l0_1 a0_2 _ _ l0_3 _ _ l0_4 _ _ l0_5 t289 t290 _ ?side1 ?side2 ?side3 ?side4 ?side5 ?side6 ?side7 ?side8 A4.out).mono ?_); (case side1 => exact cbQ HB.out HR0_1.out); (case side2 => exact HC0_1.out); (case side3 => exact cbQ HB.out HR0_3.out); (case side4 => exact HC0_3.out); (case side5 => exact cbQ HB.out HR0_4.out); (case side6 => exact HC0_4.out); (case side7 => exact cbQ HB.out HR0_5.out); (case side8 => exact HC0_5.out); rintro e w40 ⟨rfl, hb⟩; refine ⟨_, rfl, ?_⟩; replace BK286 := Aside0.mk (bbQ hb BK286.out); replace HB := Aside0.mk (bs1Q hb (by repeat with_reducible first | exact HB.out | apply pw_below_drewN | apply below_drew1 | refine below_set ?_ GE286.out)); (try clear hb); (try clear hb2); (try clear hk); (try clear hi)))
   go_ret2
   exact ⟨by first | rfl | (simp [errW_none, errW_some] <;> rfl) | (simp [*, errW_none, errW_some] <;> rfl), by repeat with_reducible first | exact HB.out | apply pw_below_drewN | apply below_drew1 | refine below_set ?_ GE286.out⟩
 ·
  rw [if_neg c3] at H
  have c3b0 : (t287 == 0) = false := beq_eq_false_iff_ne.mpr c3
  have c3b1 : (t287 != 0) = true := bne_iff_ne.mpr c3
  simp only [Option.some.injEq, Prod.mk.injEq] at H
  obtain ⟨rfl, rfl⟩ := H
  go_enter Tryz.func30, Tryz.ntmps30
  go_wp2_with (first | ((with_reducible refine gate_dst (N := 1) rfl ?_); (try (refine gate_guard (by rfl) ?_; dsimp only)); refine box_event ?hg (N := 1) ?hd (cs := #[.string a0_0, .slice A0_1 l0_1.length c0_1, .int .i64 a0_2, .slice A0_3 l0_3.length c0_3, .slice A0_4 l0_4.length c0_4, .slice A0_5 l0_5.length c0_5]) (t := 27) ?hr ?_; (case hd => rfl); (case hg => rfl); (case hr => go_simp; try rfl); intro gb286 hg w41 hbox hb; have BK286 := Aside0.mk (hbox); have GW286 := Aside0.mk (gwQ hg HB.out); have GE286 := Aside0.mk (gwQ hg HB.out); replace HB := Aside0.mk (bsQ hb HB.out); clear hb hbox hg; obtain ⟨hcz42_0, hcz42_1, hcz42_2, hcz42_3, hcz42_4, hcz42_5⟩ := bcQ6 BK286.out; obtain ⟨hfz42_0, hfz42_1, hfz42_2, hfz42_3, hfz42_4, hfz42_5⟩ := fzQ6 BK286.out) | ((with_reducible refine gate_callee (f := 86) rfl ?_); refine goesL_ (some 11) rfl rfl Tryz.func86 (by kernel_rfl) rfl #[.agg #[.string a0_0, .slice A0_1 l0_1.length c0_1, .int .i64 a0_2, .slice A0_3 l0_3.length c0_3, .slice A0_4 l0_4.length c0_4, .slice A0_5 l0_5.length c0_5]] rfl (by (try simp only [List.map_toArray, List.map_cons, List.map_nil]); try rfl) ?_; (with_reducible refine (pleatref03_size.calls k a0_0 _ _ l0_1 a0_2 _ _ l0_3 _ _ l0_4 _ _ l0_5 t287 t288 _ ?side1 ?side2 ?side3 ?side4 ?side5 ?side6 ?side7 ?side8 A2.out).mono ?_); (case side1 => exact cbQ HB.out HR0_1.out); (case side2 => exact HC0_1.out); (case side3 => exact cbQ HB.out HR0_3.out); (case side4 => exact HC0_3.out); (case side5 => exact cbQ HB.out HR0_4.out); (case side6 => exact HC0_4.out); (case side7 => exact cbQ HB.out HR0_5.out); (case side8 => exact HC0_5.out); rintro e w43 ⟨rfl, hb⟩; refine ⟨_, rfl, ?_⟩; replace BK286 := Aside0.mk (bbQ hb BK286.out); replace HB := Aside0.mk (bs1Q hb (by repeat with_reducible first | exact HB.out | apply pw_below_drewN | apply below_drew1 | refine below_set ?_ GE286.out)); (try clear hb); (try clear hb2); (try clear hk); (try clear hi)))
  go_ret2
  exact ⟨by first | rfl | (simp [errW_none, errW_some] <;> rfl) | (simp [*, errW_none, errW_some] <;> rfl), by repeat with_reducible first | exact HB.out | apply pw_below_drewN | apply below_drew1 | refine below_set ?_ GE286.out⟩


def pleatref07_Sum.l0 : Nat → List Int → Int → Int → Option (Int)
 | 0, _, _, _ => none
 | k + 1, x0, x3, x4 => if x4 < (x0.length : Int) then (if 0 ≤ x4 then (pleatref07_Sum.l0 k x0 ((((31 * x3) % 4294967296) + ((rd x0 x4) % 4294967296)) % 4294967296) (wrap64 (x4 + 1))) else (none)) else (some x3)
def pleatref07_Sum.f (k : Nat) (l0 : List Int) : Option (Int) := pleatref07_Sum.l0 k l0 0 0
theorem pleatref07_Sum.mono_l : ∀ k, (∀ y0 y1 y2, LeO (pleatref07_Sum.l0 k y0 y1 y2) (pleatref07_Sum.l0 (k + 1) y0 y1 y2))
 | 0 => fun _ _ _ r h => by simp [pleatref07_Sum.l0] at h
 | k + 1 => by
  have ih0 := pleatref07_Sum.mono_l k
  ·
   intro y0 y1 y2
   unfold pleatref07_Sum.l0
   repeat' first
   | (with_reducible first | exact ih0 _ _ _ | exact LeO.refl _ | exact LeO.none _ | refine LeO.ite ?_ ?_ | refine LeO.bind ?_ (fun _ => ?_))
theorem pleatref07_Sum.mono : ∀ a0 k, LeO (pleatref07_Sum.f k a0) (pleatref07_Sum.f (k + 1) a0) := by
 intro a0 k
 have ih0 := pleatref07_Sum.mono_l k
 unfold pleatref07_Sum.f
 repeat' first
   | (with_reducible first | exact ih0 _ _ _ | exact LeO.refl _ | exact LeO.none _ | refine LeO.ite ?_ ?_ | refine LeO.bind ?_ (fun _ => ?_))
set_option maxHeartbeats 8000000 in
set_option maxRecDepth 100000 in
theorem pleatref07_Sum.calls (k : Nat) (A0 : Option Addr) (c0 : Nat) (l0 : List Int) (r : Int) (w : World) (hr0 : Kd.C (Kd.int .u8) w A0 l0.length l0) (hc0 : l0.length ≤ c0) (h : pleatref07_Sum.f k l0 = some r) :
  Calls Tryz.prog 94 #[.slice A0 l0.length c0] w fun e w' => e = .returned (.int .u32 r) ∧ Drawn0 w w' := by
 have HR0 := Aside0.mk hr0
 have HC0 := Aside0.mk hc0
 clear hr0 hc0
 have H : (pleatref07_Sum.l0 k l0 0 0) = some r := h
 clear h
 have H' := Aside0.mk H
 clear H
 go_enter Tryz.func94, Tryz.ntmps94
 go_wp2
 go_loopg [3, 4] k (fun kq v3 v4 w' => ∃ (x3_1 : Int) (x4_1 : Int), v3 = .int .u32 x3_1 ∧ v4 = .int .i64 x4_1 ∧ Aside0 (pleatref07_Sum.l0 kq l0 x3_1 x4_1 = some r) ∧ Aside0 (kq ≤ k) ∧ Drawn0 w w')
 case atStart => exact ⟨(0), (0), (by first | rfl | (simp; done) | (simp [*]; done)), (by first | rfl | (simp; done) | (simp [*]; done)), H', ⟨Nat.le_refl _⟩, by repeat (first | exact Drawn0.refl _ | apply Drawn0.step)⟩
 case round =>
  clear H'
  obtain ⟨x3_1, x4_1, rfl, rfl, HA, HK1, ⟨m1, rfl⟩⟩ := hrel
  cases gk with
  | zero => exact absurd HA.out (by simp [pleatref07_Sum.l0])
  | succ k1 =>
   have H := HA.out
   clear HA
   simp only [pleatref07_Sum.l0] at H
   by_cases c2 : x4_1 < (l0.length : Int)
   ·
    rw [if_pos c2] at H
    have c2b0 : decide (x4_1 < (l0.length : Int)) = true := decide_eq_true c2
    clear c2
    by_cases c3 : 0 ≤ x4_1
    ·
     rw [if_pos c3] at H
     have c3b0 : decide (0 ≤ x4_1) = true := decide_eq_true c3
     clear c3
     have H' := Aside0.mk H
     clear H
     have p323 : 0 ≤ (x4_1 : Int) := of_decide_eq_true ‹_›
     have q323 : x4_1 < (l0.length : Int) := of_decide_eq_true ‹_›
     obtain ⟨ad323, e323, hx323_0⟩ := Kd.at_int HR0.out x4_1 p323 q323
     cases e323
     replace p323 := eq_true p323
     replace q323 := eq_true q323
     go_wp2
     go_roundg k1
     case measure => have := HK1.out; omega
     case rel => exact ⟨((((31 * x3_1) % 4294967296) + ((rd l0 x4_1) % 4294967296)) % 4294967296), (wrap64 (x4_1 + 1)), (by first | rfl | (simp; done) | (simp [*]; done)), (by first | rfl | (simp; done) | (simp [*]; done)), H', ⟨by have := HK1.out; omega⟩, by repeat (first | exact Drawn0.refl _ | apply Drawn0.step)⟩
    ·
     rw [if_neg c3] at H
     exact absurd H (by simp)
   ·
    rw [if_neg c2] at H
    have c2b0 : decide (x4_1 < (l0.length : Int)) = false := decide_eq_false c2
    clear c2
    obtain rfl := Option.some.inj H
    go_wp2
    go_ret
    exact ⟨by first | rfl | (simp; done) | (simp [*]; done), by repeat (first | exact Drawn0.refl _ | apply Drawn0.step)⟩
end Go.Proofs.YtiaohbbafaaibabGreatDoor.P

/- OWN TEXT: the document's reader, walked: Begin, name, End. -/
namespace Go.Proofs.YtiaohbbafaaibabGreatDoor.P
open Go.RowKit Go.Maps Go.Proofs.YtiaohbbafaaibabGreatDoorW.PrintWords Go.Proofs.YtiaohbbafaaibabGreatDoorW.PrintLast Go.Proofs.YtiaohbbafaaibabGreatDoorW.PrintMore Go.Proofs.YtiaohbbafaaibabGreatDoor.Arr Go.Proofs.YtiaohbbafaaibabGreatDoor.MapB
set_option linter.unusedVariables false
set_option linter.unusedSimpArgs false
theorem magicE_len {l : List Int} : ∀ i, magicE l i = none → i ≤ l.length
  | 0, _ => Nat.zero_le _
  | i + 1, h => by
    simp only [magicE] at h
    cases h1 : magicE l i with
    | some q => rw [h1] at h; cases h
    | none =>
      rw [h1] at h
      simp only [] at h
      by_cases hc : (i : Int) ≥ (l.length : Int) ∨ rd l (i : Int) ≠ rd mag (i : Int)
      · rw [if_pos hc] at h; cases h
      · omega
theorem magicE_stay {l : List Int} {i : Nat} {q : Int} (h : magicE l i = some q) : ∀ j, magicE l (i + j) = some q
  | 0 => h
  | j + 1 => by
    show (match magicE l (i + j) with | some q => some q | none => _) = _
    rw [magicE_stay h j]
set_option maxHeartbeats 8000000 in
set_option maxRecDepth 100000 in
theorem tBegin.calls (w0 W : World) (r : Nat) (A : Option Addr) (c : Nat) (l : List Int) (h : Tk w0 W r A c l ⟨0, none⟩) (hC : Kd.C (Kd.int .u8) w0 A l.length l) (hl : l.length ≤ 1099511627776) (hby : ∀ x ∈ l, 0 ≤ x ∧ x < 256) (wt : ByteArray) (hsz : wt.size = 4) (hbt : ∀ i : Nat, i < 4 → ∀ h : i < wt.size, ((wt[i]'h).toNat : Int) = rd mag (i : Int)) :
  Calls Tryz.prog 68 #[.pointer (some ⟨r, 0, none⟩), .string wt] W fun e w' => e = .returned (.tuple #[]) ∧ Tk w0 w' r A c l ⟨4, magicE l 4⟩ ∧ W.grownBy w' (some r) := by
 have hu1 := Tryz.underlying110
 have HC := Aside0.mk hC
 have HL := Aside0.mk hl
 have HSZ := Aside0.mk hsz
 have HBT := Aside0.mk hbt
 have HM := Aside0.mk (show Tk w0 W r A c l ⟨0, magicE l 0⟩ ∧ W.grownBy W (some r) from ⟨h, grown_refl W _⟩)
 clear h hC hl hby hsz hbt
 go_enter Tryz.func68, Tryz.ntmps68
 go_wp2
 go_loopw [4] (fun u4 wr => ∃ i : Nat, u4 = .int .i64 (i : Int) ∧ i ≤ 4 ∧ Aside0 (Tk w0 wr r A c l ⟨0, magicE l i⟩ ∧ W.grownBy wr (some r))) (fun u4 _ => 4 - (intOf u4).toNat)
 case atStart => exact ⟨0, rfl, by omega, HM⟩
 case round =>
  clear HM
  obtain ⟨i, rfl, hile, HM⟩ := hrel
  have hg1 := blk_frozen HM.out.1.blk 1
  have hd0 := HM.out.1.c0
  have hd1 := HM.out.1.c1
  cases hm : magicE l i with
  | some q =>
   rw [hm] at HM
   have HME := Aside0.mk (show magicE l 4 = some q by have := magicE_stay hm (4 - i); rwa [show i + (4 - i) = 4 by omega] at this)
   have hd2 := HM.out.1.c2 (b := 27) rfl
   have hz4 : (wt.size : Int) = 4 := by rw [HSZ.out]; rfl
   clear hm
   by_cases hlt : i < 4
   ·
    have hltb : decide ((i : Int) < (wt.size : Int)) = true := decide_eq_true (by omega)
    have hltc : (i < wt.size) = True := eq_true (by omega)
    clear hlt hile hz4
    go_wp2
    refine Go.Great.bodyPost_end0 rfl rfl ?_
    have hx := HM.out.1.put (put_set (j := 1) (x := .int .i64 (wt.size : Int)) HM.out.1.blk) ⟨4, magicE l 4⟩ (by rw [HSZ.out, HME.out]; rfl) (by show (0 : Int) ≤ 4; omega) (by show (4 : Int) ≤ _; omega) (fun e => Int.ofNat_le.2 (magicE_len 4 e))
    exact ⟨rfl, hx.1, grown_trans HM.out.2 hx.2⟩
   ·
    have hltb : decide ((i : Int) < (wt.size : Int)) = false := decide_eq_false (by omega)
    have hltc : (i < wt.size) = False := eq_false (by omega)
    clear hlt hile hz4
    go_wp2
    refine Go.Great.bodyPost_end0 rfl rfl ?_
    have hx := HM.out.1.put (put_set (j := 1) (x := .int .i64 (wt.size : Int)) HM.out.1.blk) ⟨4, magicE l 4⟩ (by rw [HSZ.out, HME.out]; rfl) (by show (0 : Int) ≤ 4; omega) (by show (4 : Int) ≤ _; omega) (fun e => Int.ofNat_le.2 (magicE_len 4 e))
    exact ⟨rfl, hx.1, grown_trans HM.out.2 hx.2⟩
  | none =>
   rw [hm] at HM
   have hd2 := HM.out.1.c2 (b := 0) rfl
   have hz4 : (wt.size : Int) = 4 := by rw [HSZ.out]; rfl
   by_cases hlt : i < 4
   ·
    have hltb : decide ((i : Int) < (wt.size : Int)) = true := decide_eq_true (by omega)
    have hltc : (i < wt.size) = True := eq_true (by omega)
    have HLT := Aside0.mk hlt
    have hwr : wrap64 ((i : Int) + 1) = ((i + 1 : Nat) : Int) := by rw [wrap64_id (by omega) (by omega)]; rfl
    have HWR := Aside0.mk hwr
    clear hwr hz4
    by_cases hge : (i : Int) ≥ (l.length : Int)
    ·
     have hgb : (l.length ≤ i) = True := eq_true (by omega)
     have hgc : decide ((i : Int) ≥ (l.length : Int)) = true := decide_eq_true hge
     have HN := Aside0.mk (show magicE l (i + 1) = some (i : Int) by simp only [magicE]; rw [hm]; simp only []; rw [if_pos (.inl hge)])
     clear hge hlt hile hm
     go_wp2
     go_quiet (fail)
     go_wp2_with ((go_at_call 101; refine (tWrong.calls w0 _ r _ c l ⟨0, none⟩ (HM.out.1.below (pw_below_drewN (Below.refl _ _) _)) (i : Int)).mono ?_; rintro e_ w1 ⟨rfl, hr_, hg_⟩; have HM1 := Aside0.mk (And.intro hr_ (grown_trans HM.out.2 (grown_trans (grown_below (pw_below_drewN (Below.refl _ _) _)) hg_))); clear hr_ hg_ hd0 hd1 hg1 hd2))
     go_roundw
     case measure => have hq := HLT.out; (try rw [HWR.out]); simp only [intOf]; omega
     case rel => exact ⟨i + 1, by first | rfl | rw [HWR.out], by have := HLT.out; omega, ⟨by rw [HN.out]; exact HM1.out.1, HM1.out.2⟩⟩
    ·
     have hgb : (l.length ≤ i) = False := eq_false (by omega)
     have hgc : decide ((i : Int) ≥ (l.length : Int)) = false := decide_eq_false hge
     have p0 : (0 : Int) ≤ (i : Int) := by omega
     have HLL := Aside0.mk (show i < l.length by omega)
     obtain ⟨ad, e0, h0⟩ := Kd.at_int HC.out (i : Int) p0 (by omega)
     subst e0
     rw [show ((i : Int)).toNat = i by omega] at h0
     replace h0 := pw_cell_below HM.out.1.low h0
     obtain ⟨x, hx⟩ : ∃ x, x = rd l (i : Int) := ⟨_, rfl⟩
     rw [← hx] at h0
     have q1 : (i : Int) < (l.length : Int) := by omega
     have q2 : i < wt.size := by have := HSZ.out; omega
     have q3 : ((i : Int) < (wt.size : Int)) = True := eq_true (by omega)
     obtain ⟨mg, hmg⟩ : ∃ mg, mg = rd mag (i : Int) := ⟨_, rfl⟩
     have hx2 : ∀ h : i < wt.size, ((wt[i]'h).toNat : Int) = mg := fun h => by rw [hmg]; exact HBT.out i HLT.out h
     replace p0 := eq_true p0
     replace q1 := eq_true q1
     replace q2 := eq_true q2
     by_cases hne : x = mg
     ·
      have HN := Aside0.mk (show magicE l (i + 1) = none by simp only [magicE]; rw [hm]; simp only []; rw [if_neg (fun h => h.elim (fun h => hge h) (fun h => h (by rw [← hx, ← hmg, hne])))])
      subst hne
      clear hge hlt hile hm hx hmg
      go_wp2
      go_quiet (fail)
      go_wp2
      go_roundw
      case measure => have hq := HLT.out; (try rw [HWR.out]); simp only [intOf]; omega
      case rel => exact ⟨i + 1, by first | rfl | rw [HWR.out], by have := HLT.out; omega, ⟨by rw [HN.out]; exact HM.out.1.below (pw_below_drewN (Below.refl _ _) _), grown_trans HM.out.2 (grown_below (pw_below_drewN (Below.refl _ _) _))⟩⟩
     ·
      have hnb : (x == mg) = false := beq_eq_false_iff_ne.mpr hne
      have hnc : (x != mg) = true := bne_iff_ne.mpr hne
      have HN := Aside0.mk (show magicE l (i + 1) = some (i : Int) by simp only [magicE]; rw [hm]; simp only []; rw [if_pos (.inr (fun h => hne (by rw [hx, hmg]; exact h)))])
      clear hge hlt hile hm hx hmg hne
      go_wp2
      go_quiet (fail)
      go_wp2_with ((go_at_call 101; refine (tWrong.calls w0 _ r _ c l ⟨0, none⟩ (HM.out.1.below (pw_below_drewN (Below.refl _ _) _)) (i : Int)).mono ?_; rintro e_ w1 ⟨rfl, hr_, hg_⟩; have HM1 := Aside0.mk (And.intro hr_ (grown_trans HM.out.2 (grown_trans (grown_below (pw_below_drewN (Below.refl _ _) _)) hg_))); clear hr_ hg_ hd0 hd1 hg1 hd2))
      go_roundw
      case measure => have hq := HLT.out; (try rw [HWR.out]); simp only [intOf]; omega
      case rel => exact ⟨i + 1, by first | rfl | rw [HWR.out], by have := HLT.out; omega, ⟨by rw [HN.out]; exact HM1.out.1, HM1.out.2⟩⟩
   ·
    have hi0 : i = 4 := by omega
    have HME := Aside0.mk (show magicE l 4 = none by rw [← hi0]; exact hm)
    have hltb : decide ((i : Int) < (wt.size : Int)) = false := decide_eq_false (by omega)
    have hltc : (i < wt.size) = False := eq_false (by omega)
    clear hlt hile hz4 hm hi0
    go_wp2
    refine Go.Great.bodyPost_end0 rfl rfl ?_
    have hx := HM.out.1.put (put_set (j := 1) (x := .int .i64 (wt.size : Int)) HM.out.1.blk) ⟨4, magicE l 4⟩ (by rw [HSZ.out, HME.out]; rfl) (by show (0 : Int) ≤ 4; omega) (by show (4 : Int) ≤ _; omega) (fun e => Int.ofNat_le.2 (magicE_len 4 e))
    exact ⟨rfl, hx.1, grown_trans HM.out.2 hx.2⟩
set_option maxHeartbeats 8000000 in
set_option maxRecDepth 100000 in
theorem tName.calls (w0 W : World) (r : Nat) (A : Option Addr) (c : Nat) (l : List Int) (s : RS) (h : Tk w0 W r A c l s) (hC : Kd.C (Kd.int .u8) w0 A l.length l) (hl : l.length ≤ 1099511627776) (hby : ∀ x ∈ l, 0 ≤ x ∧ x < 256) (hcc : l.length ≤ c) :
  Calls Tryz.prog 69 #[.pointer (some ⟨r, 0, none⟩)] W fun e w' => e = .returned (.string (textR l s).1) ∧ Tk w0 w' r A c l (textR l s).2 ∧ W.grownBy w' (some r) := by
 have hu1 := Tryz.underlying110
 have hu2 := Tryz.underlying31
 have hu3 := Tryz.underlying5
 have hu4 := Tryz.underlying9
 have H := Aside0.mk h
 have HH := Aside0.mk (And.intro hC (And.intro hl hby))
 have HCC := Aside0.mk hcc
 have hrg := countR_range l 24 s hby (by decide)
 clear h hC hl hby hcc
 obtain ⟨nv, hnv⟩ : ∃ nv, nv = (countR l 24 s).1 := ⟨_, rfl⟩
 obtain ⟨s1, hs1⟩ : ∃ s1, s1 = (countR l 24 s).2 := ⟨_, rfl⟩
 have HN := Aside0.mk hnv
 have HS := Aside0.mk hs1
 rw [← hnv] at hrg
 have HRG := Aside0.mk hrg
 clear hrg
 cases hh : (hasR l.length nv s1).er with
 | some q =>
  have HF := Aside0.mk (show textR l s = (⟨#[]⟩, hasR l.length nv s1) by unfold textR; rw [← hnv, ← hs1, hh])
  have HB := Aside0.mk (show (hasR l.length nv s1).er.isNone = false by rw [hh]; rfl)
  clear hnv hs1 hh
  go_enter Tryz.func69, Tryz.ntmps69
  go_wp2_with (first | (go_at_call 70; refine (tCount.calls w0 _ r A c l s H.out HH.out.1 HH.out.2.1 HH.out.2.2 24).mono ?_; rw [← HN.out, ← HS.out]; rintro e_ w1 ⟨rfl, hr_, hg_⟩; have HR := Aside0.mk hr_; have HG := Aside0.mk hg_; clear hr_ hg_) | (go_at_call 102; refine (tHas.calls w0 _ r A c l s1 HR.out nv HH.out.2.1).mono ?_; rw [HB.out]; rintro e_ w2 ⟨rfl, hr_, hg_⟩; have HR2 := Aside0.mk hr_; have HG2 := Aside0.mk (grown_trans HG.out hg_); clear hr_ hg_))
  go_ret
  rw [HF.out]
  exact ⟨rfl, HR2.out, HG2.out⟩
 | none =>
  have hge : ¬ ((l.length : Int) - s1.at_ < nv) := fun h => by
   unfold hasR at hh
   rw [if_pos h] at hh
   obtain ⟨q, hq⟩ := failsR_er (l.length : Int) s1
   rw [hq] at hh
   cases hh
  have hhs : hasR l.length nv s1 = s1 := if_neg hge
  have HF := Aside0.mk (show textR l s = (strOfNums ((l.take (s1.at_.toNat + nv.toNat)).drop s1.at_.toNat), ⟨s1.at_ + nv, none⟩) by unfold textR; rw [← hnv, ← hs1, hh])
  have HB := Aside0.mk (show (hasR l.length nv s1).er.isNone = true by rw [hh]; rfl)
  rw [hhs] at hh
  obtain ⟨at_, er⟩ := s1
  obtain rfl : er = none := hh
  have HHS := Aside0.mk hhs
  have HGE := Aside0.mk hge
  clear hnv hs1 hge hhs
  obtain ⟨kn, rfl⟩ : ∃ kn : Nat, nv = (kn : Int) := ⟨nv.toNat, by have := HRG.out; omega⟩
  have hm0 : at_ = (at_.toNat : Int) ∨ at_ < 0 := by omega
  obtain ⟨m, hm⟩ : ∃ m : Nat, m = at_.toNat := ⟨_, rfl⟩
  rw [← hm] at hm0
  clear hm
  go_enter Tryz.func69, Tryz.ntmps69
  go_upto_region 2 with ((go_at_call 70; refine (tCount.calls w0 _ r A c l s H.out HH.out.1 HH.out.2.1 HH.out.2.2 24).mono ?_; rw [← HN.out, ← HS.out]; rintro e_ w1 ⟨rfl, hr_, hg_⟩; have HR := Aside0.mk hr_; have HG := Aside0.mk hg_; clear hr_ hg_))
  have HM := Aside0.mk (show at_ = (m : Int) by have := HR.out.at0; rcases hm0 with h | h; exact h; exact absurd h (Int.not_lt.2 this))
  clear hm0
  go_upto_region 4 with ((go_at_call 102; refine (tHas.calls w0 _ r A c l _ HR.out (kn : Int) HH.out.2.1).mono ?_; rw [HB.out]; rintro e_ w2 ⟨rfl, hr_, hg_⟩; rw [HHS.out] at hr_; have HR2 := Aside0.mk hr_; have HG2 := Aside0.mk (grown_trans HG.out hg_); have hd0 := hr_.c0; have hd1 := hr_.c1; rw [show (⟨at_, none⟩ : RS).at_ = (m : Int) from HM.out] at hd1; have hg1 := blk_frozen hr_.blk 1; clear hr_ hg_))
  have HMX := Aside0.mk (show m + kn ≤ l.length by have h1 := HGE.out; have h2 := HM.out; omega)
  have hwv : wrap64 ((m : Int) + (kn : Int)) = ((m + kn : Nat) : Int) := by rw [wrap64_id (by have := HMX.out; have := HH.out.2.1; omega) (by have := HMX.out; have := HH.out.2.1; omega)]; omega
  have HWV := Aside0.mk hwv
  obtain ⟨xs, hxs⟩ : ∃ xs, xs = (l.take (m + kn)).drop m := ⟨_, rfl⟩
  have hxl : xs.length = kn := by have := HMX.out; rw [hxs, List.length_drop, List.length_take]; omega
  obtain ⟨nn, hnn⟩ : ∃ nn, nn = (wrap64 ((m : Int) + (kn : Int))).toNat - m := ⟨_, rfl⟩
  have hnk : nn = kn := by rw [hnn, hwv]; omega
  have hcz : Kd.C (Kd.int .u8) w0 (if c = m then A else Option.map (fun x : Addr => x.add m) A) nn xs := by
   have hz := Kd.C_mid HH.out.1 (show m ≤ m + kn by omega) HMX.out HCC.out
   rw [← hxs, hxl, show m * (Kd.int IntKind.u8).sz = m from Nat.mul_one m, ← hnk] at hz
   exact hz
  have hcv : ∀ q, (convert 31 9 (.slice (if c = m then A else Option.map (fun x : Addr => x.add m) A) ((wrap64 ((m : Int) + (kn : Int))).toNat - m) (c - m))).run Tryz.prog (w2.drewN q) = .ok (.string (strOfNums xs)) (w2.drewN q) := fun q => by rw [← hnn]; exact conv_str (Kd.C_below hcz (pw_below_drewN HR2.out.low q)) (hxl.trans hnk.symm)
  have HXS := Aside0.mk hxs
  have p0 : (0 : Int) ≤ (m : Int) := by omega
  have p1 : (m : Int) ≤ wrap64 ((m : Int) + (kn : Int)) := by omega
  have p2 : wrap64 ((m : Int) + (kn : Int)) ≤ (c : Int) := by have := HMX.out; have := HCC.out; omega
  have p3 : (0 : Int) ≤ wrap64 ((m : Int) + (kn : Int)) := by omega
  clear hcz hxs hxl hnk hnn hwv
  go_quiet (fail)
  clear hcv p0 p1 p2 p3
  have HRQ := Aside0.mk (HR2.out.below (pw_below_drewN (Below.refl _ _) nq))
  have HGQ := Aside0.mk (grown_trans HG2.out (grown_below (k := some r) (pw_below_drewN (Below.refl _ _) nq)))
  generalize hwq : w2.drewN nq = wq at HRQ HGQ ⊢
  clear hwq hd0 hd1 hg1 HR2 HG2
  generalize (if c = m then A else Option.map (fun x : Addr => x.add m) A) = Az
  have hd1 := HRQ.out.c1
  rw [show (⟨at_, none⟩ : RS).at_ = (m : Int) from HM.out] at hd1
  have hg1 := blk_frozen HRQ.out.blk 1
  go_wp2
  go_ret
  have hx := HRQ.out.put (put_set (j := 1) (x := .int .i64 (wrap64 ((m : Int) + (kn : Int)))) HRQ.out.blk) ⟨at_ + kn, none⟩ (by rw [HWV.out, HM.out]; rfl) (by have := HM.out; show (0 : Int) ≤ at_ + kn; omega) (by have := HM.out; have := HMX.out; show at_ + kn ≤ _; omega) (fun _ => by have := HM.out; have := HMX.out; show at_ + kn ≤ _; omega)
  rw [HF.out]
  refine ⟨?_, hx.1, grown_trans HGQ.out hx.2⟩
  show Ending.returned (Value.string (strOfNums xs)) = _
  rw [HXS.out, HM.out, Int.toNat_natCast, Int.toNat_natCast]
set_option maxHeartbeats 8000000 in
set_option maxRecDepth 100000 in
theorem tWrongNo.calls (w0 W : World) (r : Nat) (A : Option Addr) (c : Nat) (l : List Int) (s : RS) (h : Tk w0 W r A c l s) (e p : Int) {q : Int} (hq : s.er = some q) :
  Calls Tryz.prog 101 #[.pointer (some ⟨r, 0, none⟩), .int .i64 e, .int .i64 p] W fun ev w' => ev = .returned (.tuple #[]) ∧ w' = W := by
 have hu1 := Tryz.underlying110
 have hc2 := h.c2 (b := 27) (by rw [hq]; rfl)
 clear h hq
 go_enter Tryz.func101, Tryz.ntmps101
 go_wp2
 refine Go.Great.bodyPost_end0 rfl rfl ?_
 exact ⟨rfl, rfl⟩
set_option maxHeartbeats 8000000 in
set_option maxRecDepth 100000 in
theorem tWrong28.calls (w0 W : World) (r : Nat) (A : Option Addr) (c : Nat) (l : List Int) (s : RS) (h : Tk w0 W r A c l s) (p : Int) (hq : s.er = none) :
  Calls Tryz.prog 101 #[.pointer (some ⟨r, 0, none⟩), .int .i64 28, .int .i64 p] W fun ev w' => ev = .returned (.tuple #[]) ∧ Below w0.heap.size w0 w' ∧ w'.heap[r]? = some (.cells #[.slice A l.length c, .int .i64 s.at_, .int .i64 28, .int .i64 p] 110 (0, 0)) ∧ W.grownBy w' (some r) := by
 have hu1 := Tryz.underlying110
 have hc2 := h.c2 (b := 0) (by rw [hq]; rfl)
 have hc3 := h.c3 (b := 0) (by rw [hq]; rfl)
 have hf2 := blk_frozen h.blk 2
 have hf3 := blk_frozen h.blk 3
 have H := Aside0.mk h
 clear h hq
 go_enter Tryz.func101, Tryz.ntmps101
 go_wp2
 refine Go.Great.bodyPost_end0 rfl rfl ?_
 have h1 := put_set (j := 2) (x := .int .i64 28) H.out.blk
 have h2 := put_set (j := 3) (x := .int .i64 p) h1.blk
 exact ⟨rfl, h2.below (h1.below H.out.low H.out.base) H.out.base, h2.blk, grown_trans (put_grownN h1) (put_grownN h2)⟩
def endT (l : List Int) (s : RS) (sm : Int) : Int × Int := match (numR l 4 s).2.er with
 | some x => (27, x)
 | none => if (numR l 4 s).2.at_ < (l.length : Int) then (27, (numR l 4 s).2.at_) else if (numR l 4 s).1 = sm then (0, 0) else (28, s.at_)
def EndW (w0 W : World) (r : Nat) (A : Option Addr) (c : Nat) (l : List Int) (b : Int × Int) (w' : World) : Prop :=
 Below w0.heap.size w0 w' ∧ (∃ x, w'.heap[r]? = some (.cells #[.slice A l.length c, .int .i64 x, .int .i64 b.1, .int .i64 b.2] 110 (0, 0))) ∧ W.grownBy w' (some r)
set_option maxHeartbeats 8000000 in
set_option maxRecDepth 100000 in
theorem tEnd.calls (w0 W : World) (r : Nat) (A : Option Addr) (c : Nat) (l : List Int) (s : RS) (h : Tk w0 W r A c l s) (hC : Kd.C (Kd.int .u8) w0 A l.length l) (hl : l.length ≤ 1099511627776) (hby : ∀ x ∈ l, 0 ≤ x ∧ x < 256) (hcc : l.length ≤ c) (sm : Int) (ks : Nat) (hks : (numR l 4 s).2.er = none → pleatref07_Sum.f ks (l.take s.at_.toNat) = some sm) :
    Calls Tryz.prog 74 #[.pointer (some ⟨r, 0, none⟩)] W fun e w' => e = .returned (.tuple #[]) ∧ EndW w0 W r A c l (endT l s sm) w' := by
  have hu1 := Tryz.underlying110
  have H := Aside0.mk h
  have HH := Aside0.mk (And.intro hC (And.intro hl hby))
  have HCC := Aside0.mk hcc
  have hc1 := h.c1
  have h00 := h.at0
  clear h hC hl hby hcc
  obtain ⟨nv, hnv⟩ : ∃ nv, nv = (numR l 4 s).1 := ⟨_, rfl⟩
  obtain ⟨s1, hs1⟩ : ∃ s1, s1 = (numR l 4 s).2 := ⟨_, rfl⟩
  have HN := Aside0.mk hnv
  have HS := Aside0.mk hs1
  cases he1s : s1.er with
  | some q =>
    have HE1 := Aside0.mk he1s
    have HF := Aside0.mk (show endT l s sm = (27, q) by unfold endT; rw [← hs1, he1s])
    clear hnv hs1 he1s hks h00
    go_enter Tryz.func74, Tryz.ntmps74
    go_wp2_with ((go_at_call 71; refine (tFour.calls w0 _ r A c l s H.out HH.out.1 HH.out.2.1 HH.out.2.2).mono ?_; rw [← HN.out, ← HS.out]; rintro e_ w1 ⟨rfl, hr_, hg_⟩; have HR := Aside0.mk hr_; have HG := Aside0.mk hg_; have hd0 := hr_.c0; have hd1 := hr_.c1; have hd2 := hr_.c2 (b := 27) (by rw [HE1.out]; rfl); clear hr_ hg_ hc1))
    refine bodyPost_ret (results_none rfl _ _ _) rfl ?_
    refine ⟨rfl, HR.out.low, ⟨s1.at_, ?_⟩, HG.out⟩
    rw [HF.out]
    have hb := HR.out.blk
    unfold tkV at hb
    rw [HE1.out] at hb
    exact hb
  | none =>
    have HE1 := Aside0.mk he1s
    have hnn := numR_none (l := l) (n := 4) (s := s) (by rw [← hs1]; exact he1s)
    have hk := hks (by rw [← hs1]; exact he1s)
    obtain ⟨m, hm⟩ : ∃ m : Nat, s.at_ = (m : Int) := ⟨s.at_.toNat, by omega⟩
    rw [hm, Int.toNat_natCast] at hk
    have hml : m ≤ l.length := by have := hnn.2.1; omega
    have htl : (l.take m).length = m := by rw [List.length_take]; omega
    have HSUM := Aside0.mk (show ∀ W1, Below w0.heap.size w0 W1 → Calls Tryz.prog 94 #[.slice A m c] W1 fun e w' => e = .returned (.int .u32 sm) ∧ Drawn0 W1 w' from fun W1 hb => by
      have h := pleatref07_Sum.calls ks A c (l.take m) sm W1 (Kd.C_take (Kd.C_below HH.out.1 hb) hml) (by rw [htl]; have := HCC.out; omega) hk
      rw [htl] at h
      exact h)
    have HM := Aside0.mk hm
    have p0 : (0 : Int) ≤ (m : Int) := by omega
    have p1 : (m : Int) ≤ (c : Int) := by have := HCC.out; omega
    rw [hm] at hc1
    by_cases hlt : s1.at_ < (l.length : Int)
    · have hltb : decide (s1.at_ < (l.length : Int)) = true := decide_eq_true hlt
      have HF := Aside0.mk (show endT l s sm = (27, s1.at_) by unfold endT; rw [← hs1, he1s]; exact if_pos hlt)
      have HFS := Aside0.mk (show failsR s1.at_ s1 = ⟨s1.at_, some s1.at_⟩ by unfold failsR; rw [he1s])
      clear hnv hs1 he1s hks h00 hnn hk hm hml htl hlt
      go_enter Tryz.func74, Tryz.ntmps74
      go_upto_region 3 with ((go_at_call 71; refine (tFour.calls w0 _ r A c l s H.out HH.out.1 HH.out.2.1 HH.out.2.2).mono ?_; rw [← HN.out, ← HS.out]; rintro e_ w1 ⟨rfl, hr_, hg_⟩; have HR := Aside0.mk hr_; have HG := Aside0.mk hg_; have hd0 := hr_.c0; have hd1 := hr_.c1; have hd2 := hr_.c2 (b := 0) (by rw [HE1.out]; rfl); clear hr_ hg_ hc1))
      go_quiet (fail)
      go_upto_region 5 with ((go_at_call 101; refine (tWrong.calls w0 _ r A c l s1 (HR.out.below (pw_below_drewN (Below.refl _ _) _)) s1.at_).mono ?_; rintro e_ w2 ⟨rfl, hr_, hg_⟩; replace HR := Aside0.mk hr_; replace HG := Aside0.mk (grown_trans HG.out (grown_trans (grown_below (pw_below_drewN (Below.refl _ _) _)) hg_)); replace hd0 := hr_.c0; clear hr_ hg_ hd1 hd2))
      by_cases heq : nv = sm
      · have hbn : (nv != sm) = false := by rw [heq]; simp
        clear heq
        go_wp2_with ((go_at_call 94; refine (HSUM.out _ HR.out.low).mono ?_; rintro e_ w3 ⟨rfl, hb_⟩; have HS3 := Aside0.mk hb_.below; clear hb_))
        refine Go.Great.bodyPost_end0 rfl rfl ?_
        refine ⟨rfl, (HR.out.below HS3.out).low, ⟨s1.at_, ?_⟩, grown_trans HG.out (grown_below HS3.out)⟩
        rw [HF.out]
        have hb := (HR.out.below HS3.out).blk
        rw [HFS.out] at hb
        exact hb
      · have hbn : (nv != sm) = true := bne_iff_ne.mpr heq
        clear heq
        go_wp2_with (first | (go_at_call 94; refine (HSUM.out _ HR.out.low).mono ?_; rintro e_ w3 ⟨rfl, hb_⟩; have HS3 := Aside0.mk hb_.below; clear hb_) | (go_at_call 101; refine (tWrongNo.calls w0 _ r A c l _ (HR.out.below HS3.out) 28 (m : Int) (failsR_er _ _).choose_spec).mono ?_; rintro e_ w4 ⟨rfl, rfl⟩))
        refine Go.Great.bodyPost_end0 rfl rfl ?_
        refine ⟨rfl, (HR.out.below HS3.out).low, ⟨s1.at_, ?_⟩, grown_trans HG.out (grown_below HS3.out)⟩
        rw [HF.out]
        have hb := (HR.out.below HS3.out).blk
        rw [HFS.out] at hb
        exact hb
    · have hltb : decide (s1.at_ < (l.length : Int)) = false := decide_eq_false hlt
      by_cases heq : nv = sm
      · have hbn : (nv != sm) = false := by rw [heq]; simp
        have HF := Aside0.mk (show endT l s sm = (0, 0) by unfold endT; rw [← hs1, he1s]; show (if s1.at_ < (l.length : Int) then _ else _) = _; rw [if_neg hlt, if_pos (by rw [← hnv]; exact heq)])
        clear hnv hs1 he1s hks h00 hnn hk hm hml htl hlt heq
        go_enter Tryz.func74, Tryz.ntmps74
        go_upto_region 3 with ((go_at_call 71; refine (tFour.calls w0 _ r A c l s H.out HH.out.1 HH.out.2.1 HH.out.2.2).mono ?_; rw [← HN.out, ← HS.out]; rintro e_ w1 ⟨rfl, hr_, hg_⟩; have HR := Aside0.mk hr_; have HG := Aside0.mk hg_; have hd0 := hr_.c0; have hd1 := hr_.c1; have hd2 := hr_.c2 (b := 0) (by rw [HE1.out]; rfl); clear hr_ hg_ hc1))
        go_quiet (fail)
        have HB := Aside0.mk (show Below w1.heap.size w1 (w1.drewN nq) from pw_below_drewN (Below.refl _ _) _)
        go_wp2_with ((go_at_call 94; refine (HSUM.out _ (HR.out.below (pw_below_drewN (Below.refl _ _) _)).low).mono ?_; rintro e_ w3 ⟨rfl, hb_⟩; have HS3 := Aside0.mk hb_.below; clear hb_))
        refine Go.Great.bodyPost_end0 rfl rfl ?_
        have hB := below_then HB.out HB.out.size HS3.out
        refine ⟨rfl, (HR.out.below hB).low, ⟨s1.at_, ?_⟩, grown_trans HG.out (grown_below hB)⟩
        rw [HF.out]
        have hb := (HR.out.below hB).blk
        unfold tkV at hb
        rw [HE1.out] at hb
        exact hb
      · have hbn : (nv != sm) = true := bne_iff_ne.mpr heq
        have HF := Aside0.mk (show endT l s sm = (28, (m : Int)) by unfold endT; rw [← hs1, he1s]; show (if s1.at_ < (l.length : Int) then _ else _) = _; rw [if_neg hlt, if_neg (by rw [← hnv]; exact heq), hm])
        clear hnv hs1 he1s hks h00 hnn hk hm hml htl hlt heq
        go_enter Tryz.func74, Tryz.ntmps74
        go_upto_region 3 with ((go_at_call 71; refine (tFour.calls w0 _ r A c l s H.out HH.out.1 HH.out.2.1 HH.out.2.2).mono ?_; rw [← HN.out, ← HS.out]; rintro e_ w1 ⟨rfl, hr_, hg_⟩; have HR := Aside0.mk hr_; have HG := Aside0.mk hg_; have hd0 := hr_.c0; have hd1 := hr_.c1; have hd2 := hr_.c2 (b := 0) (by rw [HE1.out]; rfl); clear hr_ hg_ hc1))
        go_quiet (fail)
        have HB := Aside0.mk (show Below w1.heap.size w1 (w1.drewN nq) from pw_below_drewN (Below.refl _ _) _)
        go_wp2_with (first | (go_at_call 94; refine (HSUM.out _ (HR.out.below (pw_below_drewN (Below.refl _ _) _)).low).mono ?_; rintro e_ w3 ⟨rfl, hb_⟩; have HS3 := Aside0.mk hb_.below; clear hb_) | (go_at_call 101; refine (tWrong28.calls w0 _ r A c l s1 (HR.out.below (below_then HB.out HB.out.size HS3.out)) (m : Int) HE1.out).mono ?_; rintro e_ w4 ⟨rfl, hl_, hb_, hg_⟩; have HE := Aside0.mk (And.intro hl_ (And.intro hb_ hg_)); clear hl_ hb_ hg_))
        refine Go.Great.bodyPost_end0 rfl rfl ?_
        have hB := below_then HB.out HB.out.size HS3.out
        refine ⟨rfl, HE.out.1, ⟨s1.at_, ?_⟩, grown_trans HG.out (grown_trans (grown_below hB) HE.out.2.2)⟩
        rw [HF.out]
        exact HE.out.2.1
end Go.Proofs.YtiaohbbafaaibabGreatDoor.P

/- errors.As at the reader's own error: the kit's worked example, turned to this program's numbers. -/
namespace Go.Proofs.YtiaohbbafaaibabGreatDoor.P
open Go.RowKit Go.Extern.Stop Go.Stop Go.Extern

theorem as_nil (t : Value) (w : World) :
  Calls Tryz.prog 67 #[.nilIface, t] w fun e w' => e = .returned (.bool false) ∧ w' = w := by
 go_enter Tryz.func67, Tryz.ntmps67
 go_wp2
 go_ret
 exact ⟨rfl, rfl⟩

theorem As.valueOf27 (t : Addr) (w : World) : (ReflectliteValue.unpack (.iface 105 (.pointer (some t)))).run Tryz.prog w
  = .ok (.agg #[.pointer (some ⟨4, 105, none⟩), .pointer (some ⟨w.heap.size, 0, none⟩), .int .u64 150]) (w.alloc (.cells #[.pointer (some t)] 105)) := by kernel_rfl
theorem As.type27 (a : Addr) (w : World) : (ReflectliteValue.methodAny (ReflectliteValue.valueError "reflectlite.Value.Type" 0) (fun t _ _ _ => ReflectliteType.toType t) #[.agg #[.pointer (some ⟨4, 105, none⟩), .pointer (some a), .int .u64 150]]).run Tryz.prog w
    = .ok (.iface 182 (.agg #[.pointer (some ⟨4, 105, none⟩)])) w := by kernel_rfl
theorem As.methodKind (h : Value) (w : World) : (Go.method 302 182 (.agg #[h]) "Kind").run Tryz.prog w = .ok (150, h) w := by kernel_rfl
theorem As.kind27 (w : World) : ((ReflectliteType.abiMethod fun t => (fun a : Nat => Value.int IntKind.u8 (a : Int)) <$> Rtype.kind t) #[.pointer (some ⟨4, 105, none⟩)]).run Tryz.prog w = .ok (.int .u8 22) w := by kernel_rfl
theorem As.kind25 (w : World) : ((ReflectliteType.abiMethod fun t => (fun a : Nat => Value.int IntKind.u8 (a : Int)) <$> Rtype.kind t) #[.pointer (some ⟨4, 103, none⟩)]).run Tryz.prog w = .ok (.int .u8 22) w := by kernel_rfl

theorem rlm (z : Sem Value) (f : TypeId → Addr → Nat → Nat → Sem Value) (v : Value) :
  ReflectliteValue.method z f #[v] = (do match ← ReflectliteValue.parts v with | none => z | some (t, a, fl) => f t a fl (fl % 32)) := rfl
theorem As.parts27 (a : Addr) (w : World) : (ReflectliteValue.parts (.agg #[.pointer (some ⟨4, 105, none⟩), .pointer (some a), .int .u64 150])).run Tryz.prog w = .ok (some (105, a, 150)) w := by kernel_rfl
theorem As.isNil27 (a p : Addr) (W : World) (ha : W.cell? a = some (.pointer (some p))) :
  (ReflectliteValue.method (ReflectliteValue.valueError "reflectlite.Value.IsNil" 0) ReflectliteValue.isNil #[.agg #[.pointer (some ⟨4, 105, none⟩), .pointer (some a), .int .u64 150]]).run Tryz.prog W = .ok (.bool false) W := by
 rw [rlm]
 simp only [Sem.run_bind, As.parts27, Result.andThen]
 simp [ReflectliteValue.isNil, loadVar, isAgg, underlying, Tryz.underlying105, ha, Result.andThen]

theorem As.methodElem (h : Value) (w : World) : (Go.method 302 182 (.agg #[h]) "Elem").run Tryz.prog w = .ok (161, .agg #[h]) w := by kernel_rfl
theorem As.methodImplements (h : Value) (w : World) : (Go.method 302 182 (.agg #[h]) "Implements").run Tryz.prog w = .ok (162, .agg #[h]) w := by kernel_rfl
theorem As.methodAssignableTo (h : Value) (w : World) : (Go.method 302 182 (.agg #[h]) "AssignableTo").run Tryz.prog w = .ok (159, .agg #[h]) w := by kernel_rfl
theorem As.elem27 (w : World) : (ReflectliteType.method ReflectliteType.elem #[.agg #[.pointer (some ⟨4, 105, none⟩)]]).run Tryz.prog w = .ok (.iface 182 (.agg #[.pointer (some ⟨4, 103, none⟩)])) w := by kernel_rfl
theorem As.implements25 (w : World) : (ReflectliteType.relation "Implements" ReflectliteType.implements_ #[.agg #[.pointer (some ⟨4, 103, none⟩)], .iface 182 (.agg #[.pointer (some ⟨4, 95, none⟩)])]).run Tryz.prog w = .ok (.bool true) w := by kernel_rfl
theorem As.typeOf25 (v : Value) (w : World) : (ReflectliteType.typeOf #[.iface 103 v]).run Tryz.prog w = .ok (.iface 182 (.agg #[.pointer (some ⟨4, 103, none⟩)])) w := by kernel_rfl
theorem As.assignable25 (w : World) : (ReflectliteType.relation "AssignableTo" ReflectliteType.assignableTo #[.agg #[.pointer (some ⟨4, 103, none⟩)], .iface 182 (.agg #[.pointer (some ⟨4, 103, none⟩)])]).run Tryz.prog w = .ok (.bool true) w := by kernel_rfl
theorem As.valueOf25 (e : Addr) (w : World) : (ReflectliteValue.unpack (.iface 103 (.pointer (some e)))).run Tryz.prog w
  = .ok (.agg #[.pointer (some ⟨4, 103, none⟩), .pointer (some ⟨w.heap.size, 0, none⟩), .int .u64 150]) (w.alloc (.cells #[.pointer (some e)] 103)) := by kernel_rfl

theorem As.elemOf27 (w : World) : (Rtype.elem? 105).run Tryz.prog w = .ok (some 103) w := by kernel_rfl
theorem As.mk25 (p : Addr) (w : World) : (ReflectliteValue.mk 103 p ReflectliteValue.flagAddr).run Tryz.prog w = .ok (.agg #[.pointer (some ⟨4, 103, none⟩), .pointer (some p), .int .u64 406]) w := by kernel_rfl
theorem As.elemV27 (a p : Addr) (W : World) (ha : W.cell? a = some (.pointer (some p))) :
  (ReflectliteValue.method (ReflectliteValue.valueError "reflectlite.Value.Elem" 0) ReflectliteValue.elem #[.agg #[.pointer (some ⟨4, 105, none⟩), .pointer (some a), .int .u64 150]]).run Tryz.prog W
   = .ok (.agg #[.pointer (some ⟨4, 103, none⟩), .pointer (some p), .int .u64 406]) W := by
 rw [rlm]
 simp only [Sem.run_bind, As.parts27, Result.andThen]
 simp [ReflectliteValue.elem, loadVar, isAgg, underlying, Tryz.underlying105, ha, Result.andThen, As.elemOf27, As.mk25]
theorem rls (v x : Value) : ReflectliteValue.set #[v, x] = (do
    let (some (dst, a, fl), some (src, b, _)) := (← ReflectliteValue.parts v, ← ReflectliteValue.parts x)
      | unsupported (.noEntry "extern/(internal/reflectlite.Value).Set.zeroValue")
    if fl / ReflectliteValue.flagAddr % 2 == 0 then unsupported (.noEntry "extern/(internal/reflectlite.Value).Set.unaddressable")
    let val ← loadVar src b
    if ← Rtype.directlyAssignable dst src then storeVar dst a val
    else if ← Rtype.implements dst src then
      if (← Rtype.kind src) == 20 then
        match val with
        | .nilIface => unsupported (.noEntry "extern/reflectlite: a nil value of one interface type handed on as a value of another")
        | _ => storeVar dst a val
      else storeVar dst a (.iface src val)
    else panicString ("reflectlite.Set: value of type " ++ (← Rtype.spelt src) ++ " is not assignable to type " ++ (← Rtype.spelt dst))
    pure (.tuple #[])) := rfl
theorem As.parts25a (a : Addr) (w : World) : (ReflectliteValue.parts (.agg #[.pointer (some ⟨4, 103, none⟩), .pointer (some a), .int .u64 406])).run Tryz.prog w = .ok (some (103, a, 406)) w := by kernel_rfl
theorem As.parts25 (a : Addr) (w : World) : (ReflectliteValue.parts (.agg #[.pointer (some ⟨4, 103, none⟩), .pointer (some a), .int .u64 150])).run Tryz.prog w = .ok (some (103, a, 150)) w := by kernel_rfl
theorem As.direct25 (w : World) : (Rtype.directlyAssignable 103 103).run Tryz.prog w = .ok true w := by kernel_rfl
theorem As.set25 (ta b e : Addr) (old : Value) (W : World) (hb : W.cell? b = some (.pointer (some e))) (ht : W.cell? ta = some old) (hf : W.frozen? ta = false) :
  (ReflectliteValue.set #[.agg #[.pointer (some ⟨4, 103, none⟩), .pointer (some ta), .int .u64 406], .agg #[.pointer (some ⟨4, 103, none⟩), .pointer (some b), .int .u64 150]]).run Tryz.prog W
   = .ok (.tuple #[]) (W.setCell ta (.pointer (some e))) := by
 rw [rls]
 simp only [Sem.run_bind, As.parts25a, As.parts25, Result.andThen]
 simp [ReflectliteValue.flagAddr, loadVar, isAgg, underlying, Tryz.underlying103, hb, Result.andThen, As.direct25, storeVar, Value.cells, storeCells, Addr.add]
 rw [run_store Tryz.prog W ta _ _ (by rfl)]
 simp [ht, hf]

set_option maxHeartbeats 4000000 in
theorem as_hit (e t : Addr) (old : Value) (w : World) (hg : w.cell? ⟨0, 0, none⟩ = some (.iface 182 (.agg #[.pointer (some ⟨4, 95, none⟩)]))) (ht0 : w.cell? t = some old) (hf0 : w.frozen? t = false) :
  Calls Tryz.prog 67 #[.iface 103 (.pointer (some e)), .iface 105 (.pointer (some t))] w fun ev w' => ev = .returned (.bool true) ∧ w' = ((((w.alloc (.cells #[.pointer (some t)] 105)).alloc (.cells #[.pointer (some ⟨4, 105, none⟩), .pointer (some ⟨w.heap.size, 0, none⟩), .int .u64 150] 162)).alloc (.cells #[.pointer (some ⟨4, 105, none⟩), .pointer (some ⟨w.heap.size, 0, none⟩), .int .u64 150] 162)).alloc (.cells #[.pointer (some e)] 103)).setCell t (.pointer (some e)) := by
 have h6 := @run_callFunc_extern Tryz.prog 97 _ (fun args => ReflectliteValue.unpack (args.getD 0 (.tuple #[]))) Tryz.func97 (by kernel_rfl) (by kernel_rfl) (by kernel_rfl) (by kernel_rfl)
 have h7 := @run_callFunc_extern Tryz.prog 98 _ (ReflectliteValue.methodAny (ReflectliteValue.valueError "reflectlite.Value.Type" 0) (fun t _ _ _ => ReflectliteType.toType t)) Tryz.func98 (by kernel_rfl) (by kernel_rfl) (by kernel_rfl) (by kernel_rfl)
 have h8 := @run_callFunc_extern Tryz.prog 99 _ (ReflectliteValue.method (ReflectliteValue.valueError "reflectlite.Value.IsNil" 0) ReflectliteValue.isNil) Tryz.func99 (by kernel_rfl) (by kernel_rfl) (by kernel_rfl) (by kernel_rfl)
 have h27 := @run_callFunc_extern Tryz.prog 150 _ (ReflectliteType.abiMethod fun t => do pure (.int .u8 (← Rtype.kind t))) Tryz.func150 (by kernel_rfl) (by kernel_rfl) (by kernel_rfl) (by kernel_rfl)
 have h37 := @run_callFunc_extern Tryz.prog 161 _ (ReflectliteType.method ReflectliteType.elem) Tryz.func161 (by kernel_rfl) (by kernel_rfl) (by kernel_rfl) (by kernel_rfl)
 have h38 := @run_callFunc_extern Tryz.prog 162 _ (ReflectliteType.relation "Implements" ReflectliteType.implements_) Tryz.func162 (by kernel_rfl) (by kernel_rfl) (by kernel_rfl) (by kernel_rfl)
 have h10 := @run_callFunc_extern Tryz.prog 112 _ ReflectliteType.typeOf Tryz.func112 (by kernel_rfl) (by kernel_rfl) (by kernel_rfl) (by kernel_rfl)
 have h35 := @run_callFunc_extern Tryz.prog 159 _ (ReflectliteType.relation "AssignableTo" ReflectliteType.assignableTo) Tryz.func159 (by kernel_rfl) (by kernel_rfl) (by kernel_rfl) (by kernel_rfl)
 have h11 := @run_callFunc_extern Tryz.prog 113 _ (ReflectliteValue.method (ReflectliteValue.valueError "reflectlite.Value.Elem" 0) ReflectliteValue.elem) Tryz.func113 (by kernel_rfl) (by kernel_rfl) (by kernel_rfl) (by kernel_rfl)
 have h12 := @run_callFunc_extern Tryz.prog 114 _ ReflectliteValue.set Tryz.func114 (by kernel_rfl) (by kernel_rfl) (by kernel_rfl) (by kernel_rfl)
 have tO := As.typeOf25
 have mA := As.methodAssignableTo
 have a25 := As.assignable25
 have v25 := As.valueOf25
 have f6 := As.valueOf27
 have f7 := As.type27
 have mK := As.methodKind
 have mE := As.methodElem
 have mI := As.methodImplements
 have k27 := As.kind27
 have k25 := As.kind25
 have e27 := As.elem27
 have i25 := As.implements25
 have n8 := As.isNil27 ⟨w.heap.size, 0, none⟩ t ((w.alloc (.cells #[.pointer (some t)] 105)).alloc (.cells #[.pointer (some ⟨4, 105, none⟩), .pointer (some ⟨w.heap.size, 0, none⟩), .int .u64 150] 162)) (by simp)
 have hlt : 0 < w.heap.size := by
  rcases Nat.eq_zero_or_pos w.heap.size with h0 | h
  ·
   simp [World.cell?, h0] at hg
  ·
   exact h
 have hg2 : ((w.alloc (.cells #[.pointer (some t)] 105)).alloc (.cells #[.pointer (some ⟨4, 105, none⟩), .pointer (some ⟨w.heap.size, 0, none⟩), .int .u64 150] 162)).cell? ⟨0, 0, none⟩ = some (.iface 182 (.agg #[.pointer (some ⟨4, 95, none⟩)])) := by
  rw [World.cell?_alloc_lt _ _ ⟨0, 0, none⟩ (by simp), World.cell?_alloc_lt _ _ ⟨0, 0, none⟩ hlt]; exact hg
 have htl : t.block < w.heap.size := by
  rcases Nat.lt_or_ge t.block w.heap.size with h | h
  ·
   exact h
  ·
   simp [World.cell?, Array.getElem?_eq_none h] at ht0
 have el := As.elemV27 ⟨w.heap.size, 0, none⟩ t (((w.alloc (.cells #[.pointer (some t)] 105)).alloc (.cells #[.pointer (some ⟨4, 105, none⟩), .pointer (some ⟨w.heap.size, 0, none⟩), .int .u64 150] 162)).alloc (.cells #[.pointer (some ⟨4, 105, none⟩), .pointer (some ⟨w.heap.size, 0, none⟩), .int .u64 150] 162)) (by rw [World.cell?_alloc_lt _ _ ⟨w.heap.size, 0, none⟩ (by simp; omega)]; simp)
 have st := As.set25 t ⟨w.heap.size + 1 + 1 + 1, 0, none⟩ e old ((((w.alloc (.cells #[.pointer (some t)] 105)).alloc (.cells #[.pointer (some ⟨4, 105, none⟩), .pointer (some ⟨w.heap.size, 0, none⟩), .int .u64 150] 162)).alloc (.cells #[.pointer (some ⟨4, 105, none⟩), .pointer (some ⟨w.heap.size, 0, none⟩), .int .u64 150] 162)).alloc (.cells #[.pointer (some e)] 103))
  (by rw [World.cell?_alloc_at _ _ _ _ (by simp)]; rfl)
  (by rw [World.cell?_alloc_lt _ _ t (by simp; omega), World.cell?_alloc_lt _ _ t (by simp; omega), World.cell?_alloc_lt _ _ t (by simp; omega), World.cell?_alloc_lt _ _ t htl]; exact ht0)
  (by rw [World.frozen?_alloc_old _ _ t (by simp; omega), World.frozen?_alloc_old _ _ t (by simp; omega), World.frozen?_alloc_old _ _ t (by simp; omega), World.frozen?_alloc_old _ _ t (Nat.ne_of_lt htl)]; exact hf0)
 go_enter Tryz.func67, Tryz.ntmps67
 go_wp2
 refine wp_loop_rounds 1 ?_
 rw [rounds_succ]
 go_wp2
 go_ret
 exact ⟨rfl, rfl⟩
end Go.Proofs.YtiaohbbafaaibabGreatDoor.P
