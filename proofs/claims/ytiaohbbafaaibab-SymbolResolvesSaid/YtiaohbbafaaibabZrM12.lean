/- OWN TEXT and printed parts of this claim, laid together: HEq, HSymRs, Opn, Opns, SymB, SymH, PureSymbolBinds, PureSymbolResolves. -/
import Derived.Test.YtiaohbbafaaibabZrM1
import Derived.Test.YtiaohbbafaaibabZrM10
import Derived.StillTailTactics
import Derived.Test.YtiaohbbafaaibabZrM9
import Derived.Test.YtiaohbbafaaibabZrM11
import Derived.Test.YtiaohbbafaaibabZrM8
import Derived.Test.YtiaohbbafaaibabZrM5
import Derived.Test.YtiaohbbafaaibabZrWWords
import Derived.SizedLaws
import Derived.Deep.Slices
import Derived.Deep.Fields
import Derived.ChangeSame
import Derived.OpenShut
import Derived.Test.YtiaohbbafaaibabZrM0
import Derived.Test.YtiaohbbafaaibabZrM3
/- OWN TEXT: what compares objects, field by field, walked at two copies of one: they are found equal. -/
namespace Go.Proofs.Ytiaohbbafaaibab.P
open Go.RowKit Go.Maps Go.Proofs.YtiaohbbafaaibabW.PrintWords Go.Proofs.YtiaohbbafaaibabW.PrintLast Go.Proofs.YtiaohbbafaaibabW.PrintMore Go.Proofs.Ytiaohbbafaaibab.Arr Go.Proofs.Ytiaohbbafaaibab.MapB
set_option linter.unusedVariables false
set_option linter.unusedSimpArgs false
attribute [local go_sem high] eqA37 eqA41
set_option maxHeartbeats 8000000 in
set_option maxRecDepth 100000 in
theorem eqWordsS.calls (A0 A1 : Option Addr) (c0 c1 : Nat) (l : List Int) (w : World) (hr0 : Kd.C (Kd.int .u32) w A0 l.length l) (hr1 : Kd.C (Kd.int .u32) w A1 l.length l) (hl : l.length ≤ 1000000000) :
  Calls Try.prog 56 #[.slice A0 l.length c0, .slice A1 l.length c1] w fun e w' => e = .returned (.bool true) ∧ Below w.heap.size w w' := by
 have HR0 := Aside0.mk hr0
 have HR1 := Aside0.mk hr1
 have HL := Aside0.mk hl
 have HB := Aside0.mk (Below.refl w.heap.size w)
 clear hr0 hr1 hl
 go_enter Try.func56, Try.ntmps56
 go_wp2
 go_loopw [5] (fun u5 wr => ∃ i : Nat, u5 = .int .i64 (i : Int) ∧ i ≤ l.length ∧ Aside0 (Below w.heap.size w wr)) (fun u5 _ => l.length - (intOf u5).toNat)
 case atStart => exact ⟨0, rfl, Nat.zero_le _, HB⟩
 case round =>
  clear HB
  obtain ⟨i, rfl, hile, HB⟩ := hrel
  by_cases hlt : i < l.length
  ·
   have p0 : (0 : Int) ≤ (i : Int) := by omega
   have q0 : (i : Int) < (l.length : Int) := by omega
   obtain ⟨ad0, e0, h00⟩ := Kd.at_int HR0.out (i : Int) p0 q0
   subst e0
   rw [show ((i : Int)).toNat = i by omega] at h00
   replace h00 := pw_cell_below HB.out h00
   obtain ⟨ad1, e1, h10⟩ := Kd.at_int HR1.out (i : Int) p0 q0
   subst e1
   rw [show ((i : Int)).toNat = i by omega] at h10
   replace h10 := pw_cell_below HB.out h10
   have hltb : decide ((i : Int) < (l.length : Int)) = true := decide_eq_true q0
   have HLT := Aside0.mk hlt
   have HWR := Aside0.mk (show wrap64 ((i : Int) + 1) = ((i + 1 : Nat) : Int) by rw [wrap64_id (by have := HL.out; omega) (by have := HL.out; omega)]; rfl)
   replace p0 := eq_true p0
   replace q0 := eq_true q0
   clear hlt hile
   go_wp2
   repeat (go_quiet (fail); try go_wp2)
   go_roundw
   case measure => have hq := HLT.out; (try rw [HWR.out]); simp only [intOf]; omega
   case rel => exact ⟨i + 1, by first | rfl | (rw [HWR.out]; done), by have := HLT.out; omega, ⟨bwQ HB.out⟩⟩
  ·
   have hi0 : i = l.length := by omega
   subst hi0
   have hltb : decide ((l.length : Int) < (l.length : Int)) = false := by simp
   clear hlt hile
   go_wp2
   go_ret
   exact ⟨rfl, HB.out⟩
set_option maxHeartbeats 8000000 in
set_option maxRecDepth 100000 in
theorem eqLongsS.calls (A0 A1 : Option Addr) (c0 c1 : Nat) (l : List Int) (w : World) (hr0 : Kd.C (Kd.int .i64) w A0 l.length l) (hr1 : Kd.C (Kd.int .i64) w A1 l.length l) (hl : l.length ≤ 1000000000) :
  Calls Try.prog 57 #[.slice A0 l.length c0, .slice A1 l.length c1] w fun e w' => e = .returned (.bool true) ∧ Below w.heap.size w w' := by
 have HR0 := Aside0.mk hr0
 have HR1 := Aside0.mk hr1
 have HL := Aside0.mk hl
 have HB := Aside0.mk (Below.refl w.heap.size w)
 clear hr0 hr1 hl
 go_enter Try.func57, Try.ntmps57
 go_wp2
 go_loopw [5] (fun u5 wr => ∃ i : Nat, u5 = .int .i64 (i : Int) ∧ i ≤ l.length ∧ Aside0 (Below w.heap.size w wr)) (fun u5 _ => l.length - (intOf u5).toNat)
 case atStart => exact ⟨0, rfl, Nat.zero_le _, HB⟩
 case round =>
  clear HB
  obtain ⟨i, rfl, hile, HB⟩ := hrel
  by_cases hlt : i < l.length
  ·
   have p0 : (0 : Int) ≤ (i : Int) := by omega
   have q0 : (i : Int) < (l.length : Int) := by omega
   obtain ⟨ad0, e0, h00⟩ := Kd.at_int HR0.out (i : Int) p0 q0
   subst e0
   rw [show ((i : Int)).toNat = i by omega] at h00
   replace h00 := pw_cell_below HB.out h00
   obtain ⟨ad1, e1, h10⟩ := Kd.at_int HR1.out (i : Int) p0 q0
   subst e1
   rw [show ((i : Int)).toNat = i by omega] at h10
   replace h10 := pw_cell_below HB.out h10
   have hltb : decide ((i : Int) < (l.length : Int)) = true := decide_eq_true q0
   have HLT := Aside0.mk hlt
   have HWR := Aside0.mk (show wrap64 ((i : Int) + 1) = ((i + 1 : Nat) : Int) by rw [wrap64_id (by have := HL.out; omega) (by have := HL.out; omega)]; rfl)
   replace p0 := eq_true p0
   replace q0 := eq_true q0
   clear hlt hile
   go_wp2
   repeat (go_quiet (fail); try go_wp2)
   go_roundw
   case measure => have hq := HLT.out; (try rw [HWR.out]); simp only [intOf]; omega
   case rel => exact ⟨i + 1, by first | rfl | (rw [HWR.out]; done), by have := HLT.out; omega, ⟨bwQ HB.out⟩⟩
  ·
   have hi0 : i = l.length := by omega
   subst hi0
   have hltb : decide ((l.length : Int) < (l.length : Int)) = false := by simp
   clear hlt hile
   go_wp2
   go_ret
   exact ⟨rfl, HB.out⟩
set_option maxHeartbeats 8000000 in
set_option maxRecDepth 100000 in
theorem eqSymbolsS.calls (A0 A1 : Option Addr) (c0 c1 : Nat) (l : List S37) (w : World) (hr0 : Kd.C k37 w A0 l.length l) (hr1 : Kd.C k37 w A1 l.length l) (hl : l.length ≤ 1000000000) :
  Calls Try.prog 58 #[.slice A0 l.length c0, .slice A1 l.length c1] w fun e w' => e = .returned (.bool true) ∧ Below w.heap.size w w' := by
 have hu1 := Try.underlying37
 have HR0 := Aside0.mk hr0
 have HR1 := Aside0.mk hr1
 have HL := Aside0.mk hl
 have HB := Aside0.mk (Below.refl w.heap.size w)
 clear hr0 hr1 hl
 go_enter Try.func58, Try.ntmps58
 go_wp2
 go_loopw [5] (fun u5 wr => ∃ i : Nat, u5 = .int .i64 (i : Int) ∧ i ≤ l.length ∧ Aside0 (Below w.heap.size w wr)) (fun u5 _ => l.length - (intOf u5).toNat)
 case atStart => exact ⟨0, rfl, Nat.zero_le _, HB⟩
 case round =>
  clear HB
  obtain ⟨i, rfl, hile, HB⟩ := hrel
  by_cases hlt : i < l.length
  ·
   have p0 : (0 : Int) ≤ (i : Int) := by omega
   have q0 : (i : Int) < (l.length : Int) := by omega
   obtain ⟨ad0, e0, h00, h01, h02⟩ := at_T37 HR0.out (i : Int) p0 q0
   subst e0
   rw [show ((i : Int)).toNat = i by omega] at h00 h01 h02
   replace h00 := pw_cell_below HB.out h00
   replace h01 := pw_cell_below HB.out h01
   replace h02 := pw_cell_below HB.out h02
   obtain ⟨ad1, e1, h10, h11, h12⟩ := at_T37 HR1.out (i : Int) p0 q0
   subst e1
   rw [show ((i : Int)).toNat = i by omega] at h10 h11 h12
   replace h10 := pw_cell_below HB.out h10
   replace h11 := pw_cell_below HB.out h11
   replace h12 := pw_cell_below HB.out h12
   have hltb : decide ((i : Int) < (l.length : Int)) = true := decide_eq_true q0
   have HLT := Aside0.mk hlt
   have HWR := Aside0.mk (show wrap64 ((i : Int) + 1) = ((i + 1 : Nat) : Int) by rw [wrap64_id (by have := HL.out; omega) (by have := HL.out; omega)]; rfl)
   replace p0 := eq_true p0
   replace q0 := eq_true q0
   clear hlt hile
   go_wp2
   repeat (go_quiet (fail); try go_wp2)
   go_roundw
   case measure => have hq := HLT.out; (try rw [HWR.out]); simp only [intOf]; omega
   case rel => exact ⟨i + 1, by first | rfl | (rw [HWR.out]; done), by have := HLT.out; omega, ⟨bwQ HB.out⟩⟩
  ·
   have hi0 : i = l.length := by omega
   subst hi0
   have hltb : decide ((l.length : Int) < (l.length : Int)) = false := by simp
   clear hlt hile
   go_wp2
   go_ret
   exact ⟨rfl, HB.out⟩
set_option maxHeartbeats 8000000 in
set_option maxRecDepth 100000 in
theorem eqRelocsS.calls (A0 A1 : Option Addr) (c0 c1 : Nat) (l : List S41) (w : World) (hr0 : Kd.C k41 w A0 l.length l) (hr1 : Kd.C k41 w A1 l.length l) (hl : l.length ≤ 1000000000) :
  Calls Try.prog 59 #[.slice A0 l.length c0, .slice A1 l.length c1] w fun e w' => e = .returned (.bool true) ∧ Below w.heap.size w w' := by
 have hu1 := Try.underlying41
 have HR0 := Aside0.mk hr0
 have HR1 := Aside0.mk hr1
 have HL := Aside0.mk hl
 have HB := Aside0.mk (Below.refl w.heap.size w)
 clear hr0 hr1 hl
 go_enter Try.func59, Try.ntmps59
 go_wp2
 go_loopw [5] (fun u5 wr => ∃ i : Nat, u5 = .int .i64 (i : Int) ∧ i ≤ l.length ∧ Aside0 (Below w.heap.size w wr)) (fun u5 _ => l.length - (intOf u5).toNat)
 case atStart => exact ⟨0, rfl, Nat.zero_le _, HB⟩
 case round =>
  clear HB
  obtain ⟨i, rfl, hile, HB⟩ := hrel
  by_cases hlt : i < l.length
  ·
   have p0 : (0 : Int) ≤ (i : Int) := by omega
   have q0 : (i : Int) < (l.length : Int) := by omega
   obtain ⟨ad0, e0, h00, h01⟩ := at_T41 HR0.out (i : Int) p0 q0
   subst e0
   rw [show ((i : Int)).toNat = i by omega] at h00 h01
   replace h00 := pw_cell_below HB.out h00
   replace h01 := pw_cell_below HB.out h01
   obtain ⟨ad1, e1, h10, h11⟩ := at_T41 HR1.out (i : Int) p0 q0
   subst e1
   rw [show ((i : Int)).toNat = i by omega] at h10 h11
   replace h10 := pw_cell_below HB.out h10
   replace h11 := pw_cell_below HB.out h11
   have hltb : decide ((i : Int) < (l.length : Int)) = true := decide_eq_true q0
   have HLT := Aside0.mk hlt
   have HWR := Aside0.mk (show wrap64 ((i : Int) + 1) = ((i + 1 : Nat) : Int) by rw [wrap64_id (by have := HL.out; omega) (by have := HL.out; omega)]; rfl)
   replace p0 := eq_true p0
   replace q0 := eq_true q0
   clear hlt hile
   go_wp2
   repeat (go_quiet (fail); try go_wp2)
   go_roundw
   case measure => have hq := HLT.out; (try rw [HWR.out]); simp only [intOf]; omega
   case rel => exact ⟨i + 1, by first | rfl | (rw [HWR.out]; done), by have := HLT.out; omega, ⟨bwQ HB.out⟩⟩
  ·
   have hi0 : i = l.length := by omega
   subst hi0
   have hltb : decide ((l.length : Int) < (l.length : Int)) = false := by simp
   clear hlt hile
   go_wp2
   go_ret
   exact ⟨rfl, HB.out⟩
set_option maxHeartbeats 8000000 in
set_option maxRecDepth 100000 in
theorem eqObjS.calls (x : ObjT) (Aa1 : Option Addr) (ca1 : Nat) (Aa3 : Option Addr) (ca3 : Nat) (Aa4 : Option Addr) (ca4 : Nat) (Aa5 : Option Addr) (ca5 : Nat) (Ab1 : Option Addr) (cb1 : Nat) (Ab3 : Option Addr) (cb3 : Nat) (Ab4 : Option Addr) (cb4 : Nat) (Ab5 : Option Addr) (cb5 : Nat) (w : World) (ha1 : Kd.C (Kd.int .u32) w Aa1 x.f1.length x.f1) (ha3 : Kd.C (Kd.int .i64) w Aa3 x.f3.length x.f3) (ha4 : Kd.C k37 w Aa4 x.f4.length x.f4) (ha5 : Kd.C k41 w Aa5 x.f5.length x.f5) (hb1 : Kd.C (Kd.int .u32) w Ab1 x.f1.length x.f1) (hb3 : Kd.C (Kd.int .i64) w Ab3 x.f3.length x.f3) (hb4 : Kd.C k37 w Ab4 x.f4.length x.f4) (hb5 : Kd.C k41 w Ab5 x.f5.length x.f5) (m1 : x.f1.length ≤ 1000000000) (m3 : x.f3.length ≤ 1000000000) (m4 : x.f4.length ≤ 1000000000) (m5 : x.f5.length ≤ 1000000000) :
  Calls Try.prog 47 #[.agg #[.string x.f0, .slice Aa1 x.f1.length ca1, .int .i64 x.f2, .slice Aa3 x.f3.length ca3, .slice Aa4 x.f4.length ca4, .slice Aa5 x.f5.length ca5], .agg #[.string x.f0, .slice Ab1 x.f1.length cb1, .int .i64 x.f2, .slice Ab3 x.f3.length cb3, .slice Ab4 x.f4.length cb4, .slice Ab5 x.f5.length cb5]] w fun e w' => e = .returned (.bool true) ∧ Below w.heap.size w w' := by
 have hu1 := Try.underlying27
 have Ha1 := Aside0.mk ha1
 have Ha3 := Aside0.mk ha3
 have Ha4 := Aside0.mk ha4
 have Ha5 := Aside0.mk ha5
 have Hb1 := Aside0.mk hb1
 have Hb3 := Aside0.mk hb3
 have Hb4 := Aside0.mk hb4
 have Hb5 := Aside0.mk hb5
 have M1 := Aside0.mk m1
 have M3 := Aside0.mk m3
 have M4 := Aside0.mk m4
 have M5 := Aside0.mk m5
 have HB := Aside0.mk (Below.refl w.heap.size w)
 clear ha1 ha3 ha4 ha5 hb1 hb3 hb4 hb5 m1 m3 m4 m5
 go_enter Try.func47, Try.ntmps47
 go_wp2_with (first | ((with_reducible refine gate_dst (N := 2) rfl ?_); refine box_event ?hg (N := 2) ?hd (cs := #[.string x.f0, .slice Aa1 x.f1.length ca1, .int .i64 x.f2, .slice Aa3 x.f3.length ca3, .slice Aa4 x.f4.length ca4, .slice Aa5 x.f5.length ca5]) (t := 27) ?hr ?_; (case hd => rfl); (case hg => rfl); (case hr => first | (go_simp; done) | (go_simp; rfl)); intro ga hg_ w1 BK_ hb_; have BA := Aside0.mk BK_; have HBn := Aside0.mk (bsQ hb_ HB.out); clear HB BK_ hb_ hg_; have HB := HBn; clear HBn) | ((with_reducible refine gate_dst (N := 3) rfl ?_); refine box_event ?hg (N := 3) ?hd (cs := #[.string x.f0, .slice Ab1 x.f1.length cb1, .int .i64 x.f2, .slice Ab3 x.f3.length cb3, .slice Ab4 x.f4.length cb4, .slice Ab5 x.f5.length cb5]) (t := 27) ?hr ?_; (case hd => rfl); (case hg => rfl); (case hr => first | (go_simp; done) | (go_simp; rfl)); intro gb hg_ w2 BK_ hb_; have BB := Aside0.mk BK_; have HBn := Aside0.mk (bsQ hb_ HB.out); have BAn := Aside0.mk (blk_below BA.out hb_); clear HB BA BK_ hb_ hg_; have HB := HBn; have BA := BAn; clear HBn BAn; have ha0 := blk_cell BA.out 0; have ha1 := blk_cell BA.out 1; have ha2 := blk_cell BA.out 2; have ha3 := blk_cell BA.out 3; have ha4 := blk_cell BA.out 4; have ha5 := blk_cell BA.out 5; have hb0 := blk_cell BB.out 0; have hb1 := blk_cell BB.out 1; have hb2 := blk_cell BB.out 2; have hb3 := blk_cell BB.out 3; have hb4 := blk_cell BB.out 4; have hb5 := blk_cell BB.out 5) | (go_at_call 56; refine (eqWordsS.calls _ _ _ _ x.f1 _ (Kd.C_below Ha1.out HB.out) (Kd.C_below Hb1.out HB.out) M1.out).mono ?_; rintro e_ w3 ⟨rfl, hb_⟩; have HBn := Aside0.mk (bsQ hb_ HB.out); have BAn := Aside0.mk (blk_below BA.out hb_); have BBn := Aside0.mk (blk_below BB.out hb_); clear HB BA BB hb_ ha0 hb0 ha1 hb1 ha2 hb2 ha3 hb3 ha4 hb4 ha5 hb5; have HB := HBn; have BA := BAn; have BB := BBn; clear HBn BAn BBn; have ha0 := blk_cell BA.out 0; have ha1 := blk_cell BA.out 1; have ha2 := blk_cell BA.out 2; have ha3 := blk_cell BA.out 3; have ha4 := blk_cell BA.out 4; have ha5 := blk_cell BA.out 5; have hb0 := blk_cell BB.out 0; have hb1 := blk_cell BB.out 1; have hb2 := blk_cell BB.out 2; have hb3 := blk_cell BB.out 3; have hb4 := blk_cell BB.out 4; have hb5 := blk_cell BB.out 5) | (go_at_call 57; refine (eqLongsS.calls _ _ _ _ x.f3 _ (Kd.C_below Ha3.out HB.out) (Kd.C_below Hb3.out HB.out) M3.out).mono ?_; rintro e_ w5 ⟨rfl, hb_⟩; have HBn := Aside0.mk (bsQ hb_ HB.out); have BAn := Aside0.mk (blk_below BA.out hb_); have BBn := Aside0.mk (blk_below BB.out hb_); clear HB BA BB hb_ ha0 hb0 ha1 hb1 ha2 hb2 ha3 hb3 ha4 hb4 ha5 hb5; have HB := HBn; have BA := BAn; have BB := BBn; clear HBn BAn BBn; have ha0 := blk_cell BA.out 0; have ha1 := blk_cell BA.out 1; have ha2 := blk_cell BA.out 2; have ha3 := blk_cell BA.out 3; have ha4 := blk_cell BA.out 4; have ha5 := blk_cell BA.out 5; have hb0 := blk_cell BB.out 0; have hb1 := blk_cell BB.out 1; have hb2 := blk_cell BB.out 2; have hb3 := blk_cell BB.out 3; have hb4 := blk_cell BB.out 4; have hb5 := blk_cell BB.out 5) | (go_at_call 58; refine (eqSymbolsS.calls _ _ _ _ x.f4 _ (Kd.C_below Ha4.out HB.out) (Kd.C_below Hb4.out HB.out) M4.out).mono ?_; rintro e_ w6 ⟨rfl, hb_⟩; have HBn := Aside0.mk (bsQ hb_ HB.out); have BAn := Aside0.mk (blk_below BA.out hb_); have BBn := Aside0.mk (blk_below BB.out hb_); clear HB BA BB hb_ ha0 hb0 ha1 hb1 ha2 hb2 ha3 hb3 ha4 hb4 ha5 hb5; have HB := HBn; have BA := BAn; have BB := BBn; clear HBn BAn BBn; have ha0 := blk_cell BA.out 0; have ha1 := blk_cell BA.out 1; have ha2 := blk_cell BA.out 2; have ha3 := blk_cell BA.out 3; have ha4 := blk_cell BA.out 4; have ha5 := blk_cell BA.out 5; have hb0 := blk_cell BB.out 0; have hb1 := blk_cell BB.out 1; have hb2 := blk_cell BB.out 2; have hb3 := blk_cell BB.out 3; have hb4 := blk_cell BB.out 4; have hb5 := blk_cell BB.out 5) | (go_at_call 59; refine (eqRelocsS.calls _ _ _ _ x.f5 _ (Kd.C_below Ha5.out HB.out) (Kd.C_below Hb5.out HB.out) M5.out).mono ?_; rintro e_ w7 ⟨rfl, hb_⟩; have HBn := Aside0.mk (bsQ hb_ HB.out); have BAn := Aside0.mk (blk_below BA.out hb_); have BBn := Aside0.mk (blk_below BB.out hb_); clear HB BA BB hb_ ha0 hb0 ha1 hb1 ha2 hb2 ha3 hb3 ha4 hb4 ha5 hb5; have HB := HBn; have BA := BAn; have BB := BBn; clear HBn BAn BBn; have ha0 := blk_cell BA.out 0; have ha1 := blk_cell BA.out 1; have ha2 := blk_cell BA.out 2; have ha3 := blk_cell BA.out 3; have ha4 := blk_cell BA.out 4; have ha5 := blk_cell BA.out 5; have hb0 := blk_cell BB.out 0; have hb1 := blk_cell BB.out 1; have hb2 := blk_cell BB.out 2; have hb3 := blk_cell BB.out 3; have hb4 := blk_cell BB.out 4; have hb5 := blk_cell BB.out 5))
 go_ret
 exact ⟨rfl, HB.out⟩
set_option maxHeartbeats 8000000 in
set_option maxRecDepth 100000 in
theorem eqObjsS.calls (A0 A1 : Option Addr) (c0 c1 : Nat) (l : List ObjT) (w : World) (hr0 : Kd.C k27 w A0 l.length l) (hr1 : Kd.C k27 w A1 l.length l) (hl : l.length ≤ 1000000) (hb : ∀ p, p < l.length → (ob l p).f1.length ≤ 1000000000 ∧ (ob l p).f3.length ≤ 1000000000 ∧ (ob l p).f4.length ≤ 1000000000 ∧ (ob l p).f5.length ≤ 1000000000) :
  Calls Try.prog 21 #[.slice A0 l.length c0, .slice A1 l.length c1] w fun e w' => e = .returned (.bool true) ∧ Below w.heap.size w w' := by
 have hu1 := Try.underlying27
 have HR0 := Aside0.mk hr0
 have HR1 := Aside0.mk hr1
 have HL := Aside0.mk hl
 have HM := Aside0.mk hb
 have HB := Aside0.mk (Below.refl w.heap.size w)
 clear hr0 hr1 hl hb
 go_enter Try.func21, Try.ntmps21
 go_wp2
 go_loopw [5] (fun u5 wr => ∃ i : Nat, u5 = .int .i64 (i : Int) ∧ i ≤ l.length ∧ Aside0 (Below w.heap.size w wr)) (fun u5 _ => l.length - (intOf u5).toNat)
 case atStart => exact ⟨0, rfl, Nat.zero_le _, HB⟩
 case round =>
  clear HB
  obtain ⟨i, rfl, hile, HB⟩ := hrel
  by_cases hlt : i < l.length
  ·
   have p0 : (0 : Int) ≤ (i : Int) := by omega
   have q0 : (i : Int) < (l.length : Int) := by omega
   obtain ⟨ada, Aa1, ca1, Aa3, ca3, Aa4, ca4, Aa5, ca5, ea, ha0, ha1, ha2, ha3, ha4, ha5, _, ga1, _, ga3, _, ga4, _, ga5⟩ := at_T27 HR0.out (i : Int) p0 q0
   subst ea
   rw [show ((i : Int)).toNat = i by omega] at ha0 ha1 ha2 ha3 ha4 ha5
   rw [show rd_T27 l (i : Int) = ob l i from rfl] at ha0 ha1 ha2 ha3 ha4 ha5 ga1 ga3 ga4 ga5
   replace ha0 := pw_cell_below HB.out ha0
   replace ha1 := pw_cell_below HB.out ha1
   replace ha2 := pw_cell_below HB.out ha2
   replace ha3 := pw_cell_below HB.out ha3
   replace ha4 := pw_cell_below HB.out ha4
   replace ha5 := pw_cell_below HB.out ha5
   have Ga1 := Aside0.mk ga1
   have Ga3 := Aside0.mk ga3
   have Ga4 := Aside0.mk ga4
   have Ga5 := Aside0.mk ga5
   clear ga1 ga3 ga4 ga5
   obtain ⟨adb, Ab1, cb1, Ab3, cb3, Ab4, cb4, Ab5, cb5, eb, hb0, hb1, hb2, hb3, hb4, hb5, _, gb1, _, gb3, _, gb4, _, gb5⟩ := at_T27 HR1.out (i : Int) p0 q0
   subst eb
   rw [show ((i : Int)).toNat = i by omega] at hb0 hb1 hb2 hb3 hb4 hb5
   rw [show rd_T27 l (i : Int) = ob l i from rfl] at hb0 hb1 hb2 hb3 hb4 hb5 gb1 gb3 gb4 gb5
   replace hb0 := pw_cell_below HB.out hb0
   replace hb1 := pw_cell_below HB.out hb1
   replace hb2 := pw_cell_below HB.out hb2
   replace hb3 := pw_cell_below HB.out hb3
   replace hb4 := pw_cell_below HB.out hb4
   replace hb5 := pw_cell_below HB.out hb5
   have Gb1 := Aside0.mk gb1
   have Gb3 := Aside0.mk gb3
   have Gb4 := Aside0.mk gb4
   have Gb5 := Aside0.mk gb5
   clear gb1 gb3 gb4 gb5
   have hltb : decide ((i : Int) < (l.length : Int)) = true := decide_eq_true q0
   have HLT := Aside0.mk hlt
   have HWR := Aside0.mk (show wrap64 ((i : Int) + 1) = ((i + 1 : Nat) : Int) by rw [wrap64_id (by have := HL.out; omega) (by have := HL.out; omega)]; rfl)
   replace p0 := eq_true p0
   replace q0 := eq_true q0
   clear hlt hile
   go_wp2
   go_still_tail 8, (by kernel_rfl)
   change wpList _ _ _ _ _ wr.drew
   have HB2 := Aside0.mk (below_drew1 HB.out)
   generalize wr.drew = w2 at HB2 ⊢
   go_wp2_with (first | (go_at_call 47; refine (eqObjS.calls (ob l i) _ _ _ _ _ _ _ _ _ _ _ _ _ _ _ _ _ (Kd.C_below Ga1.out HB2.out) (Kd.C_below Ga3.out HB2.out) (Kd.C_below Ga4.out HB2.out) (Kd.C_below Ga5.out HB2.out) (Kd.C_below Gb1.out HB2.out) (Kd.C_below Gb3.out HB2.out) (Kd.C_below Gb4.out HB2.out) (Kd.C_below Gb5.out HB2.out) (HM.out i HLT.out).1 (HM.out i HLT.out).2.1 (HM.out i HLT.out).2.2.1 (HM.out i HLT.out).2.2.2).mono ?_; rintro e_ w7 ⟨rfl, hb_⟩; have HBn := Aside0.mk (bsQ hb_ HB2.out); clear HB2 hb_; have HB2 := HBn; clear HBn))
   go_roundw
   case measure => have hq := HLT.out; (try rw [HWR.out]); simp only [intOf]; omega
   case rel => exact ⟨i + 1, by first | rfl | (rw [HWR.out]; done), by have := HLT.out; omega, HB2⟩
  ·
   have hi0 : i = l.length := by omega
   subst hi0
   have hltb : decide ((l.length : Int) < (l.length : Int)) = false := by simp
   clear hlt hile
   go_wp2
   go_ret
   exact ⟨rfl, HB.out⟩
end Go.Proofs.Ytiaohbbafaaibab.P

/- OWN TEXT: the law SymbolResolves, walked. -/
namespace Go.Proofs.Ytiaohbbafaaibab.P
open Go.RowKit Go.Maps Go.Proofs.YtiaohbbafaaibabW.PrintWords Go.Proofs.YtiaohbbafaaibabW.PrintLast Go.Proofs.YtiaohbbafaaibabW.PrintMore Go.Proofs.Ytiaohbbafaaibab.Arr Go.Proofs.Ytiaohbbafaaibab.MapB Go.Proofs.Ytiaohbbafaaibab.SymM
set_option linter.unusedVariables false
set_option linter.unusedSimpArgs false
theorem wide_C {W : World} {base c : Nat} {A : Option Addr} {l : List ObjT} (h : WideL W base A c l) : l.length ≤ c ∧ Kd.C k27 W A l.length l := by
 refine ⟨by have := h.cap; omega, ?_⟩
 have h0 := h.all
 rw [show l.length + 64 = (l ++ marksL markO l.length).length by rw [List.length_append, marksL_length]] at h0
 have h1 := Kd.C_take h0 (m := l.length) (by rw [List.length_append]; omega)
 rw [show (l ++ marksL markO l.length).take l.length = l by simp] at h1
 exact h1
theorem small_lim {l : List ObjT} (h : ∀ p, p < l.length → smallO (ob l p).f0 (ob l p).f1 (ob l p).f2 (ob l p).f3 (ob l p).f4 (ob l p).f5 = true) : ∀ p, p < l.length → (ob l p).f1.length ≤ 1000000000 ∧ (ob l p).f3.length ≤ 1000000000 ∧ (ob l p).f4.length ≤ 1000000000 ∧ (ob l p).f5.length ≤ 1000000000 := fun p hp => by
 have h1 := h p hp
 unfold smallO at h1
 simp only [Bool.and_eq_true, decide_eq_true_eq] at h1
 exact h1
theorem def_oneR (a b : Int) : ((#[.int .i64 a, .int .i64 b] : Array Value).all fun v => v.oneCell') = true := by kernel_rfl
theorem one2 (a b : Int) : ∀ u ∈ ([.int .i64 a, .int .i64 b] : List Value), u.oneCell' = true := by
 intro u hu
 simp only [List.mem_cons, List.not_mem_nil, or_false] at hu
 rcases hu with rfl | rfl <;> rfl
theorem seg2 {c row : List Value} (hc : c.length = 2) (hr : row.length = 2) : c.take 0 ++ row ++ c.drop (0 + row.length) = row := by
 rw [hr, List.take_zero, List.nil_append, List.drop_eq_nil_of_le (by omega), List.append_nil]
/-- what is held while the answers are overwritten. -/
def Over (w2 W : World) (nb mb : Nat) (va vb vq : Value) (d : List (List DefT)) (dq : List (List S57)) : Prop := ∃ rows, Lens rows d ∧ Wipe w2 W nb mb va vb vq rows d dq
set_option maxHeartbeats 60000000 in
set_option maxRecDepth 100000 in
theorem symResolves.walk (A0 : Option Addr) (c0 : Nat) (l0 : List ObjT) (a1 : ByteArray) (w : World) (hr0 : Kd.C k27 w A0 l0.length l0) (hc0 : l0.length ≤ c0) (kh : Nat) (hv : Bool) (hhv : pleatlaw08_heavy.f kh l0 = some hv)
  (hfine : hv = false → a1.size ≤ 65536 → l0.length ≤ 64 ∧ (∀ p, p < l0.length → smallO (ob l0 p).f0 (ob l0 p).f1 (ob l0 p).f2 (ob l0 p).f3 (ob l0 p).f4 (ob l0 p).f5 = true) ∧ ∃ d dq e n m x0 x1 x2 k8 kf, symbol_Resolve.f l0 = some (d, e, n, m) ∧ pleatref08_Resolve.f k8 l0 = some (dq, e, n, m) ∧ symbol_Find.f l0 a1 = some (x0, x1, x2) ∧ pleatref08_Find.f kf l0 a1 = some (x0, x1, x2) ∧ dq = cvs d ∧ d.length ≤ 1000000 ∧ ∀ j, (d.getD j []).length ≤ 1000000000) :
  Calls Try.prog 4 #[.slice A0 l0.length c0, .string a1] w fun e w' => e = .returned (.bool true) ∧ Below w.heap.size w w' := by
 have hu1 := Try.underlying54
 have hu2 := Try.underlying27
 have hu3 := Try.underlying57
 have HR := Aside0.mk hr0
 have HC := Aside0.mk hc0
 have HV := Aside0.mk hhv
 clear hr0 hc0 hhv
 cases hv with
 | true =>
  clear hfine
  go_enter Try.func4, Try.ntmps4
  go_wp2_with (first | (go_at_call 13; refine (pleatlaw08_heavy.calls kh A0 c0 l0 true _ HR.out HC.out HV.out).mono ?_; rintro e_ w1 ⟨rfl, hd1⟩; have HB := Aside0.mk hd1.below; clear hd1) | (go_at_call 14; refine (lives8.calls _).mono ?_; rintro e_ wl ⟨rfl, hbl⟩; have HBL := Aside0.mk hbl; clear hbl))
  go_ret
  exact ⟨rfl, below_then HB.out HB.out.size HBL.out⟩
 | false =>
  by_cases c8 : a1.size ≤ 65536
  rotate_left
  ·
   have cb : decide ((a1.size : Int) > 65536) = true := decide_eq_true (by omega)
   clear hfine c8
   go_enter Try.func4, Try.ntmps4
   go_wp2_with (first | (go_at_call 13; refine (pleatlaw08_heavy.calls kh A0 c0 l0 false _ HR.out HC.out HV.out).mono ?_; rintro e_ w1 ⟨rfl, hd1⟩; have HB := Aside0.mk hd1.below; clear hd1) | (go_at_call 14; refine (lives8.calls _).mono ?_; rintro e_ wl ⟨rfl, hbl⟩; have HBL := Aside0.mk hbl; clear hbl))
   go_ret
   exact ⟨rfl, below_then HB.out HB.out.size HBL.out⟩
  have cb : decide ((a1.size : Int) > 65536) = false := decide_eq_false (by omega)
  obtain ⟨h64, hsm, d, dq, e, n, m, x0, x1, x2, k8, kf, hres, hres8, hfd, hfd8, rfl, hdl, hrl⟩ := hfine rfl c8
  have H64 := Aside0.mk h64
  have HSM := Aside0.mk hsm
  have HRS1 := Aside0.mk hres
  have HRS2 := Aside0.mk hres
  have HRS8 := Aside0.mk hres8
  have HFD := Aside0.mk hfd
  have HFD8 := Aside0.mk hfd8
  have HS1 := Aside0.mk trivial
  have HS2 := Aside0.mk trivial
  have HS3 := Aside0.mk trivial
  have HDL := Aside0.mk hdl
  have HRL := Aside0.mk hrl
  clear hfine c8 h64 hsm hres hres8 hfd hfd8 hdl hrl
  go_enter Try.func4, Try.ntmps4
  go_wp2_with (first | (go_at_call 13; refine (pleatlaw08_heavy.calls kh A0 c0 l0 false _ HR.out HC.out HV.out).mono ?_; rintro e_ w1 ⟨rfl, hd1⟩; have HB := Aside0.mk hd1.below; clear hd1) | (go_at_call 15; refine (wideL.calls A0 c0 l0 _ (Kd.C_below HR.out HB.out) H64.out HSM.out).mono ?_; rintro e_ w2 ⟨Ai, ci, rfl, hx_, hb_⟩; have HX := Aside0.mk hx_; have HB2 := Aside0.mk (below_then HB.out HB.out.size hb_); clear HB hx_ hb_) | (go_at_call 16; refine (symbol_Resolve.calls _ _ l0 d e n m _ (wide_C HX.out).2 (wide_C HX.out).1 HRS1.out).mono ?_; rintro e_ w3 ⟨va, rfl, hod, hb_⟩; obtain ⟨A3, c3, e3⟩ := Kd.S_slice hod; subst e3; have HA := Aside0.mk hod; have H3 := Aside0.mk hb_; clear HRS1 hod hb_) | (go_at_call 16; refine (symbol_Resolve.calls _ _ l0 d e n m _ (wide_C (HX.out.below H3.out)).2 (wide_C HX.out).1 HRS2.out).mono ?_; rintro e_ w4 ⟨vb, rfl, hod, hb_⟩; obtain ⟨A4, c4, e4⟩ := Kd.S_slice hod; subst e4; have HBb := Aside0.mk hod; have H4 := Aside0.mk hb_; clear HRS2 hod hb_) | (go_at_call 17; refine (pleatref08_Resolve.calls k8 A0 c0 l0 (cvs d) e n m _ (Kd.C_below HR.out (below_then (below_then HB2.out HB2.out.size H3.out) (Nat.le_trans HB2.out.size H3.out.size) H4.out)) HC.out HRS8.out).mono ?_; rintro e_ w5 ⟨vq, rfl, hod, hb_⟩; obtain ⟨A5, c5, e5⟩ := Kd.S_slice hod; subst e5; have TT := Aside0.mk (Wipe.start HA.out H3.out HBb.out H4.out hod hb_); clear HA HBb H3 H4 HRS8 hod hb_) | (go_at_call 19; refine (pleatref08_Find.calls kf A0 c0 l0 a1 x0 x1 x2 _ (Kd.C_below HR.out (below_then HB2.out HB2.out.size TT.out.low)) HC.out HFD8.out).mono ?_; rintro e_ w9 ⟨rfl, hb_⟩; have Tn := Aside0.mk (TT.out.below hb_); have BXn := Aside0.mk (blk_below BX.out hb_); clear TT hb_ BX hq0 hq1; have TT := Tn; clear Tn; have BX := BXn; clear BXn; have hq0 := blk_cell BX.out 0; have hq1 := blk_cell BX.out 1) | (go_at_call 18; refine (symbol_Find.calls _ _ l0 a1 x0 x1 x2 _ (wide_C (HX.out.below TT.out.low)).2 (wide_C HX.out).1 HFD.out).mono ?_; rintro e_ w6 ⟨rfl, hb_⟩; have Tn := Aside0.mk (TT.out.below hb_); clear TT hb_; have TT := Tn; clear Tn) | ((with_reducible refine gate_dst (N := 18) rfl ?_); refine box_event ?hg (N := 18) ?hd (cs := #[.int .i64 0, .int .i64 0]) (t := 54) ?hr ?_; (case hd => rfl); (case hg => rfl); (case hr => first | (go_simp; done) | (go_simp; rfl)); intro gx hg_ w7 BK_ hb_; have GX := Aside0.mk (show _ ≤ gx by rw [hg_]; exact TT.out.sz); have BX := Aside0.mk BK_; have Tn := Aside0.mk (TT.out.below hb_); clear TT hb_ BK_ hg_; have TT := Tn; clear Tn) | ((with_reducible refine gate_store (t := 54) rfl ?_); refine wpList_store_whole rfl rfl rfl gx _ #[.int .i64 x0, .int .i64 x1] _ rfl rfl BX.out (by kernel_rfl) rfl ((def_oneR _ _)) ?_; intro w8 hp_; have Tn := Aside0.mk (TT.out.put hp_ GX.out); have BXn := Aside0.mk hp_.blk; clear TT BX hp_; have TT := Tn; have BX := BXn; clear Tn BXn; have hq0 := blk_cell BX.out 0; have hq1 := blk_cell BX.out 1) | ((with_reducible refine gate_dst (N := 20) rfl ?_); refine box_event ?hg (N := 20) ?hd (cs := #[.int .i64 0, .int .i64 0]) (t := 57) ?hr ?_; (case hd => rfl); (case hg => rfl); (case hr => first | (go_simp; done) | (go_simp; rfl)); intro gy hg_ w10 BK_ hb_; have GY := Aside0.mk (show _ ≤ gy by rw [hg_]; exact TT.out.sz); have NE := Aside0.mk (show gx ≠ gy by rw [hg_]; exact Nat.ne_of_lt (blk_lt BX.out)); have BY := Aside0.mk BK_; have Tn := Aside0.mk (TT.out.below hb_); have BXn := Aside0.mk (blk_below BX.out hb_); clear TT hb_ BK_ hg_ BX hq0 hq1; have TT := Tn; have BX := BXn; clear Tn BXn; have hq0 := blk_cell BX.out 0; have hq1 := blk_cell BX.out 1) | ((with_reducible refine gate_store (t := 57) rfl ?_); refine wpList_store_whole rfl rfl rfl gy _ #[.int .i64 x0, .int .i64 x1] _ rfl rfl BY.out (by kernel_rfl) rfl ((def_oneR _ _)) ?_; intro w11 hp_; have Tn := Aside0.mk (TT.out.put hp_ GY.out); have BYn := Aside0.mk hp_.blk; have BXn := Aside0.mk (blk_grown BX.out (put_grownN hp_) (fun e_ => NE.out (Option.some.inj e_))); clear TT BX BY hp_ hq0 hq1; have TT := Tn; have BX := BXn; have BY := BYn; clear Tn BXn BYn; have hq0 := blk_cell BX.out 0; have hq1 := blk_cell BX.out 1; have hq2 := blk_cell BY.out 0; have hq3 := blk_cell BY.out 1))
  go_wp2_with (first | (go_at_call 20; have _ := HS1.out; refine (sameS.calls _ _ _ _ d _ (Kd.S_reads' TT.out.a).2.2 (Kd.S_reads' TT.out.q).2.2 HDL.out HRL.out).mono ?_; rintro e_ w12 ⟨rfl, hb_⟩; clear HS1; have Tn := Aside0.mk (TT.out.below hb_); have BXn := Aside0.mk (blk_below BX.out hb_); have BYn := Aside0.mk (blk_below BY.out hb_); clear TT hb_ BX BY hq0 hq1 hq2 hq3; have TT := Tn; clear Tn; have BX := BXn; have BY := BYn; clear BXn BYn; have hq0 := blk_cell BX.out 0; have hq1 := blk_cell BX.out 1; have hq2 := blk_cell BY.out 0; have hq3 := blk_cell BY.out 1))
  go_wp2_with (first | (go_at_call 20; have _ := HS2.out; refine (sameS.calls _ _ _ _ d _ (Kd.S_reads' TT.out.b).2.2 (Kd.S_reads' TT.out.q).2.2 HDL.out HRL.out).mono ?_; rintro e_ w13 ⟨rfl, hb_⟩; clear HS2; have Tn := Aside0.mk (TT.out.below hb_); have BXn := Aside0.mk (blk_below BX.out hb_); have BYn := Aside0.mk (blk_below BY.out hb_); clear TT hb_ BX BY hq0 hq1 hq2 hq3; have TT := Tn; clear Tn; have BX := BXn; have BY := BYn; clear BXn BYn; have hq0 := blk_cell BX.out 0; have hq1 := blk_cell BX.out 1; have hq2 := blk_cell BY.out 0; have hq3 := blk_cell BY.out 1))
  clear hq0 hq1 hq2 hq3 BX BY
  obtain ⟨mb, nb, hT⟩ : ∃ mb nb, Wipe w2 w13 nb mb (.slice A3 d.length c3) (.slice A4 d.length c4) (.slice A5 (cvs d).length c5) d d (cvs d) := ⟨_, _, TT.out⟩
  have OV := Aside0.mk (show Over w2 w13 nb mb (.slice A3 d.length c3) (.slice A4 d.length c4) (.slice A5 (cvs d).length c5) d (cvs d) from ⟨d, Lens.refl d, hT⟩)
  clear TT hT
  go_loopw [22] (fun u22 wr => ∃ j : Nat, u22 = .int .i64 (j : Int) ∧ j ≤ d.length ∧ Aside0 (Over w2 wr nb mb (.slice A3 d.length c3) (.slice A4 d.length c4) (.slice A5 (cvs d).length c5) d (cvs d))) (fun u22 _ => d.length - (intOf u22).toNat)
  case atStart => exact ⟨0, rfl, Nat.zero_le _, OV⟩
  case round =>
   clear OV
   obtain ⟨j, rfl, hjle, OV⟩ := hrel
   by_cases hlt : j < d.length
   ·
    have p0t : ((0 : Int) ≤ (j : Int)) = True := eq_true (by omega)
    have q0t : ((j : Int) < (d.length : Int)) = True := eq_true (by omega)
    have hltb : decide ((j : Int) < (d.length : Int)) = true := decide_eq_true (by omega)
    have HLT := Aside0.mk hlt
    have HWR := Aside0.mk (show wrap64 ((j : Int) + 1) = ((j + 1 : Nat) : Int) by rw [wrap64_id (by have := HDL.out; omega) (by have := HDL.out; omega)]; rfl)
    obtain ⟨nr, hnr⟩ : ∃ nr, nr = (d.getD j []).length := ⟨_, rfl⟩
    have HNR := Aside0.mk hnr
    clear hlt hjle hnr
    go_wp2
    go_loopw [23] (fun u23 wr => ∃ t9 : Nat, u23 = .int .i64 (t9 : Int) ∧ t9 ≤ nr ∧ Aside0 (Over w2 wr nb mb (.slice A3 d.length c3) (.slice A4 d.length c4) (.slice A5 (cvs d).length c5) d (cvs d))) (fun u23 _ => nr - (intOf u23).toNat)
    case atStart => exact ⟨0, rfl, Nat.zero_le _, OV⟩
    case round =>
     clear OV
     obtain ⟨t9, rfl, hhle, OV⟩ := hrel
     obtain ⟨rows, hlens, hT⟩ := OV.out
     clear OV
     have hjr : j < rows.length := by rw [hlens.1]; exact HLT.out
     obtain ⟨ad, Aj, cj, oki, eA, _, hh0, hRw, hbk⟩ := hT.row hjr
     have hnl : (rows.getD j []).length = nr := by rw [hlens.2 j, ← HNR.out]
     have LS := Aside0.mk hlens
     have TT := Aside0.mk hT
     have RW := Aside0.mk hRw
     have BK := Aside0.mk hbk
     have NL := Aside0.mk hnl
     subst eA
     rw [hnl] at hh0
     clear hlens hT hRw hbk hnl
     by_cases hl2 : t9 < nr
     ·
      have hltb2 : decide ((t9 : Int) < (nr : Int)) = true := decide_eq_true (by omega)
      have p1t : ((0 : Int) ≤ (t9 : Int)) = True := eq_true (by omega)
      have q1t : ((t9 : Int) < (nr : Int)) = True := eq_true (by omega)
      have HL2 := Aside0.mk hl2
      have HWR2 := Aside0.mk (show wrap64 ((t9 : Int) + 1) = ((t9 + 1 : Nat) : Int) by have h1 := HRL.out j; have h2 := HNR.out; rw [wrap64_id (by omega) (by omega)]; rfl)
      obtain ⟨ag, cg, eg⟩ := Kd.R_slice1 RW.out (by rw [NL.out]; omega)
      injection eg with eg1 eg2 eg3
      subst eg1 eg3
      obtain ⟨gv, egv⟩ := Kd.R_head RW.out
      subst egv
      obtain ⟨ce, hcl, _, hcc, hcf⟩ := Kd.R_elem RW.out (⟨0, 0⟩ : DefT) (t9 : Int) (by omega) (by rw [NL.out]; omega)
      rw [show ((t9 : Int)).toNat = t9 by omega] at hcc hcf
      have HCE := Aside0.mk (And.intro hcl hcc)
      clear hcl hcc hcf hl2 hhle
      go_wp2_with (first | ((with_reducible refine gate_store (t := 54) rfl ?_); refine Kd.R_store k54 (w0 := w2) w2.heap.size rfl rfl 54 _ _ rfl 54 (n := (rows.getD j []).length) (cap := cj) (t9 : Int) 0 (rows.getD j []) (⟨-1, 0⟩ : DefT) _ [.int .i64 (-1), .int .i64 0] ce oki (fun _ => False) rfl ?hoff rfl rfl ?hti ?hone RW.out ?hz0 ?hzn HCE.out.1 ?hcc ?hjl ?hM (fun _ hk => hk.elim) TT.out.low ?_; (case hoff => (show _ = ((t9 : Int)).toNat * 2 + 0; omega)); (case hti => kernel_rfl); (case hone => exact one2 _ _); (case hz0 => omega); (case hzn => (rw [NL.out]; have := HL2.out; omega)); (case hcc => exact fun q u hu => HCE.out.2 q u hu); (case hjl => (show 0 + 2 ≤ 2; omega)); (case hM => (rw [seg2 HCE.out.1 rfl]; exact k54_mkM _ _ _ (⟨-1, 0⟩ : DefT))); intro w14 hR hb hg; have OV := Aside0.mk (show Over w2 w14 nb mb (.slice (some ad) d.length c3) (.slice A4 d.length c4) (.slice A5 (cvs d).length c5) d (cvs d) from ⟨_, LS.out.set (List.length_set ..), BK.out w14 _ hR hb hg⟩); clear TT RW BK hR hb hg hh0))
      go_roundw
      case measure => have hq := HL2.out; (try rw [HWR2.out]); simp only [intOf]; omega
      case rel => exact ⟨t9 + 1, by first | rfl | (rw [HWR2.out]; done), by have := HL2.out; omega, OV⟩
     ·
      have hh : t9 = nr := by omega
      subst hh
      have hltb2 : decide ((t9 : Int) < (t9 : Int)) = false := by simp
      have OV := Aside0.mk (show Over w2 _ nb mb (.slice (some ad) d.length c3) (.slice A4 d.length c4) (.slice A5 (cvs d).length c5) d (cvs d) from ⟨_, LS.out, TT.out⟩)
      clear hl2 hhle TT RW BK LS
      go_wp2
      go_roundw
      case measure => have hq := HLT.out; (try rw [HWR.out]); simp only [intOf]; omega
      case rel => exact ⟨j + 1, by first | rfl | (rw [HWR.out]; done), by have := HLT.out; omega, OV⟩
   ·
    have hj0 : j = d.length := by omega
    subst hj0
    have hltb : decide ((d.length : Int) < (d.length : Int)) = false := by simp
    obtain ⟨rows, hlens, hT⟩ := OV.out
    have TT := Aside0.mk hT
    clear hlt hjle OV hlens hT
    go_wp2_with (first | (go_at_call 20; have _ := HS3.out; refine (sameS.calls _ _ _ _ d _ (Kd.S_reads' TT.out.b).2.2 (Kd.S_reads' TT.out.q).2.2 HDL.out HRL.out).mono ?_; rintro e_ w15 ⟨rfl, hb_⟩; clear HS3; have Tn := Aside0.mk (TT.out.below hb_); clear TT hb_; have TT := Tn; clear Tn) | (go_at_call 21; refine (eqObjsS.calls _ _ _ _ l0 _ (wide_C (HX.out.below TT.out.low)).2 (Kd.C_below HR.out (below_then HB2.out HB2.out.size TT.out.low)) (by have := H64.out; omega) (small_lim HSM.out)).mono ?_; rintro e_ w16 ⟨rfl, hb_⟩; have Tn := Aside0.mk (TT.out.below hb_); clear TT hb_; have TT := Tn; clear Tn) | (go_at_call 22; refine (spareL.calls _ _ l0 _ _ (HX.out.below TT.out.low) H64.out HSM.out).mono ?_; rintro e_ w17 ⟨rfl, hb_⟩; have Tn := Aside0.mk (TT.out.below hb_); clear TT hb_; have TT := Tn; clear Tn) | (go_at_call 14; refine (lives8.calls _).mono ?_; rintro e_ wl ⟨rfl, hbl⟩; have HBL := Aside0.mk hbl; clear hbl))
    go_ret
    exact ⟨rfl, below_then (below_then HB2.out HB2.out.size TT.out.low) (Nat.le_trans HB2.out.size TT.out.low.size) HBL.out⟩
end Go.Proofs.Ytiaohbbafaaibab.P

/- OWN TEXT: an argument of whatever plain type (whole numbers, bools, strings, slices, structs of these), read as a value of the print's own kinds. -/
set_option linter.unusedVariables false
set_option linter.unusedSimpArgs false
namespace Go.Proofs.Ytiaohbbafaaibab.Opn
open Go.ChangeShapes Go.WideShapes Go.Deep Go.RowKit Go.Proofs.YtiaohbbafaaibabW.PrintWords

/-- Whatever reads as data of type t is a value of kind d, and meets wf. -/
def Opens (P : Program) (t : TypeId) {α : Type} (d : Kd α) (wf : α → Prop) : Prop :=
 P.cellsOf t = d.sz ∧ ∀ (H : Type) (enc : TypeId × Value → H) (w : World) (base : Nat) (spare : Nat → Bool) (held : Bool) (fuel : Nat) (cs : List Value) (x : DataW H × List MemPlace),
  DataW.trod enc P w base spare held fuel t cs = some x → (∀ n ∈ x.1.weights P t, n ≤ reachBytes) → ∃ a : α, d.K w a cs ∧ wf a

theorem Opens.int {P : Program} {t : TypeId} {k : IntKind} (hc : P.cellsOf t = 1) (hu : P.underlying t = some (.int k)) : Opens P t (Kd.int k) (fun n => (Lit.int k n).wf = true) :=
  ⟨hc, fun H enc w base spare held fuel cs x h _ => by
    obtain ⟨n, rfl, rfl, hw⟩ := DataW.trod_int hu h
    exact ⟨n, rfl, hw⟩⟩
theorem Opens.bool {P : Program} {t : TypeId} (hc : P.cellsOf t = 1) (hu : P.underlying t = some .bool) : Opens P t Kd.bool (fun _ => True) :=
  ⟨hc, fun H enc w base spare held fuel cs x h _ => by
    obtain ⟨b, rfl, rfl⟩ := DataW.trod_bool hu h
    exact ⟨b, rfl, trivial⟩⟩
theorem Opens.string {P : Program} {t : TypeId} (hc : P.cellsOf t = 1) (hu : P.underlying t = some .string) : Opens P t Kd.string (fun s => s.size ≤ 140737488351232) :=
  ⟨hc, fun H enc w base spare held fuel cs x h hz => by
    obtain ⟨s, rfl, rfl, _⟩ := DataW.trod_string hu h
    have := hz s.data.toList.length (by simp [DataW.weights])
    rw [Array.length_toList] at this
    exact ⟨s, rfl, this⟩⟩

theorem weightsAll_mem {H : Type} {P : Program} {e : TypeId} : ∀ {l : List (DataW H)} {d : DataW H}, d ∈ l → ∀ n ∈ d.weights P e, n ∈ DataW.weightsAll P e l
  | d0 :: r, d, hd, n, hn => by
    simp only [DataW.weightsAll, List.mem_append]
    rcases List.mem_cons.1 hd with rfl | hd
    · exact .inl hn
    · exact .inr (weightsAll_mem hd n hn)

theorem Opens.slice {P : Program} {t e : TypeId} {α : Type} {d : Kd α} {wf : α → Prop} {B : Nat} (hc : P.cellsOf t = 1) (hu : P.underlying t = some (.slice e)) (hB : P.bytesOf e = B) (he : Opens P e d wf) :
    Opens P t (Kd.slice e d) (fun l => l.length ≤ 9223372036854775807 ∧ l.length * B ≤ 140737488351232 ∧ ∀ x ∈ l, wf x) :=
  ⟨hc, fun H enc w base spare held fuel cs x h hz => by
    rcases open_slice hu h with ⟨rfl, rfl⟩ | ⟨a, len, cap, m, n, D, Pl, rfl, hb, hl, hm, hmm, rfl, hi⟩
    · exact ⟨[], ⟨none, 0, rfl, Nat.le_refl _, rfl, by simp, fun h => absurd h (Nat.lt_irrefl 0)⟩, by simp, by simp, fun x hx => by cases hx⟩
    · have hlm : len ≤ m := by rw [hmm]; split <;> omega
      have hw0 : ∀ n ∈ (DataW.slice ((List.range len).map D) ((List.range (m - len)).map fun j => D (len + j))).weights P t, n ≤ reachBytes := hz
      have h1 : (len + (m - len)) * P.bytesOf e ≤ reachBytes := by
        have := hw0 _ (by simp only [DataW.weights, hu]; exact List.mem_cons_self)
        simpa using this
      have hel : ∀ i, i < len → ∃ (a' : α) (c : List Value), w.cells? base (a.add (i * P.cellsOf e)) (P.cellsOf e) = some c ∧ d.K w a' c ∧ wf a' := fun i hi' => by
        obtain ⟨c, hcc, ht⟩ := hi i (Nat.lt_of_lt_of_le hi' hlm)
        obtain ⟨a', hk, hwf⟩ := he.2 H enc w base spare held n c _ ht (fun q hq => hw0 q (by
          simp only [DataW.weights, hu]
          exact List.mem_cons_of_mem _ (List.mem_append_left _ (weightsAll_mem (List.mem_map.2 ⟨i, List.mem_range.2 hi', rfl⟩) q hq))))
        exact ⟨a', c, hcc, hk, hwf⟩
      have hl' : ∃ l : List α, l.length = len ∧ ∀ i x, l[i]? = some x → ∃ c, w.cells? base (a.add (i * P.cellsOf e)) (P.cellsOf e) = some c ∧ d.K w x c ∧ wf x := by
        clear hw0 h1 hi hlm hl hz hmm h
        induction len with
        | zero => exact ⟨[], rfl, fun i x hx => by simp at hx⟩
        | succ len ih =>
          obtain ⟨l, hl, hp⟩ := ih (fun i hi => hel i (Nat.lt_succ_of_lt hi))
          obtain ⟨a', c, h1, h2, h3⟩ := hel len (Nat.lt_succ_self len)
          refine ⟨l ++ [a'], by simp [hl], fun i x hx => ?_⟩
          rcases Nat.lt_or_ge i l.length with h | h
          · rw [List.getElem?_append_left h] at hx
            exact hp i x hx
          · rw [List.getElem?_append_right h] at hx
            have hi0 : i - l.length = 0 := by
              rcases Nat.eq_zero_or_pos (i - l.length) with h0 | h0
              · exact h0
              · rw [List.getElem?_eq_none (by simp; omega)] at hx; cases hx
            rw [hi0] at hx
            simp at hx
            subst hx
            obtain rfl : i = len := by omega
            exact ⟨c, h1, h2, h3⟩
      obtain ⟨l, hll, hp⟩ := hl'
      subst hll
      refine ⟨l, ⟨some a, cap, rfl, hl, rfl, by simp only [maxLen] at hm; omega, fun _ => ⟨a, rfl, fun j p hj => ?_⟩⟩, ?_, ?_, ?_⟩
      · obtain ⟨c, h1, h2, _⟩ := hp j p hj
        obtain ⟨_, hcl, hcell⟩ := World.cells?_some h1
        refine ⟨c, by rw [hcl, he.1], h2, fun i u hu' => ?_⟩
        have hi2 : i < P.cellsOf e := by
          rw [← hcl]
          exact (List.getElem?_eq_some_iff.1 hu').1
        rw [← he.1, ← Go.Deep.add_add, hcell i hi2, hu']
      · simp only [maxLen] at hm; omega
      · rw [← hB]
        refine Nat.le_trans (Nat.mul_le_mul_right _ (show l.length ≤ l.length + (m - l.length) by omega)) ?_
        exact h1
      · intro x hx
        obtain ⟨i, hi'⟩ := List.getElem?_of_mem hx
        obtain ⟨_, _, _, h3⟩ := hp i x hi'
        exact h3⟩

/-- The fields of a struct, from the cell off on: each one's cells behind the other's. -/
def OpensF (P : Program) (fs : List Field) (off : Nat) {α : Type} (d : Kd α) (wf : α → Prop) : Prop :=
 (fs.map fun f => P.cellsOf f.type).sum = d.sz ∧ ∀ (H : Type) (enc : TypeId × Value → H) (w : World) (base : Nat) (spare : Nat → Bool) (held : Bool) (fuel : Nat) (cs : List Value) (xs : List (DataW H × List MemPlace)),
  cs.length = off + d.sz → xs.length = fs.length → (∀ (i : Nat) (f : Field), fs[i]? = some f → DataW.trod enc P w base spare held fuel f.type ((cs.drop f.offset).take (P.cellsOf f.type)) = xs[i]?) →
  (∀ n ∈ DataW.weightsEach P (fs.map (·.type)) (xs.map (·.1)), n ≤ reachBytes) → ∃ a : α, d.K w a (cs.drop off) ∧ wf a

theorem OpensF.one {P : Program} {f : Field} {off : Nat} {α : Type} {d : Kd α} {wf : α → Prop} (ho : f.offset = off) (h : Opens P f.type d wf) : OpensF P [f] off d wf := by
 refine ⟨by simp [h.1], fun H enc w base spare held fuel cs xs hl hx hf hz => ?_⟩
 match xs, hx with
 | [x], _ =>
  have h0 := hf 0 f rfl
  rw [ho, h.1, List.take_of_length_le (by rw [List.length_drop]; omega)] at h0
  exact h.2 H enc w base spare held fuel _ x h0 (fun n hn => hz n (by simp only [List.map_cons, DataW.weightsEach, List.mem_append]; exact .inl hn))

theorem OpensF.cons {P : Program} {f : Field} {fs : List Field} {off : Nat} {α β : Type} {d : Kd α} {d' : Kd β} {wf : α → Prop} {wf' : β → Prop} (ho : f.offset = off) (h : Opens P f.type d wf) (hs : OpensF P fs (off + d.sz) d' wf') :
  OpensF P (f :: fs) off (Kd.pair d d') (fun x => wf x.1 ∧ wf' x.2) := by
 refine ⟨by simp [h.1, hs.1, Kd.pair], fun H enc w base spare held fuel cs xs hl hx hf hz => ?_⟩
 match xs, hx with
 | x :: xs, hx =>
  have hsz : (Kd.pair d d').sz = d.sz + d'.sz := rfl
  have h0 := hf 0 f rfl
  rw [ho, h.1] at h0
  obtain ⟨a, hk, hw⟩ := h.2 H enc w base spare held fuel _ x h0 (fun n hn => hz n (by simp only [List.map_cons, DataW.weightsEach, List.mem_append]; exact .inl hn))
  obtain ⟨b, hk', hw'⟩ := hs.2 H enc w base spare held fuel cs xs (by omega) (by simpa using hx) (fun i g hg => hf (i + 1) g hg) (fun n hn => hz n (by simp only [List.map_cons, DataW.weightsEach, List.mem_append]; exact .inr hn))
  exact ⟨(a, b), ⟨(cs.drop off).take d.sz, cs.drop (off + d.sz), by rw [← List.drop_drop, List.take_append_drop], hk, hk'⟩, hw, hw'⟩

theorem Opens.struct {P : Program} {t : TypeId} {fs : Array Field} {α β : Type} {d : Kd α} {wf : α → Prop} (f : β → α) (g : α → β) (hfg : ∀ a, f (g a) = a) (hc : P.cellsOf t = d.sz) (hu : P.underlying t = some (.struct fs)) (h : OpensF P fs.toList 0 d wf) :
  Opens P t (Kd.iso d f) (fun x => wf (f x)) := by
 refine ⟨hc, fun H enc w base spare held fuel cs x hx hz => ?_⟩
 obtain ⟨xs, n, rfl, rfl, hl, hlen, hf⟩ := DataW.trod_struct hu hx
 obtain ⟨a, hk, hw⟩ := h.2 H enc w base spare held n cs xs (by omega) (by simpa using hlen) (fun i fl hfl => hf i fl (by simpa using hfl)) (fun q hq => hz q (by simp only [DataW.weights, hu]; exact hq))
 refine ⟨g a, ?_, by show wf (f (g a)); rw [hfg]; exact hw⟩
 show d.K w (f (g a)) cs
 rw [hfg]
 simpa using hk

/-- An argument: what its cells are, and that it meets wf. -/
theorem Opens.arg {P : Program} {t : TypeId} {α : Type} {d : Kd α} {wf : α → Prop} (ho : Opens P t d wf) {H : Type} {enc : TypeId × Value → H} {ts : List TypeId} {ds : List (DataW H)} {w : World} {base : Nat} {spare : Nat → Bool} {held : Bool} {v : Value} {x : DataW H} {ps : List MemPlace} {j : Nat}
  (hsz : (DataW.weightsEach P ts ds).all (· ≤ reachBytes) = true) (ht : ts[j]? = some t) (hd : ds[j]? = some x) (h : DataW.Trod enc P w base spare held t v x ps) : ∃ a : α, d.K w a v.cells.toList ∧ wf a := by
 obtain ⟨fuel, hf⟩ := h
 refine ho.2 H enc w base spare held fuel _ _ hf (fun n hn => ?_)
 have := List.all_eq_true.1 hsz _ (DataW.weights_mem_each ht hd n hn)
 simpa using this

theorem slice_of {P : Program} {w : World} {r : Reach} {b0 : Nat} {t e : TypeId} {v : Value} {u : Value} (hs : P.underlying t = some (.slice e)) (hv : Value.okWide P w r b0 t v) (h : v.cells.toList = [u]) : v = u := by
 obtain ⟨a, len, cap, rfl⟩ := okWide_slice hs hv
 simpa [Value.cells] using h

end Go.Proofs.Ytiaohbbafaaibab.Opn

/- OWN TEXT, written by rows.py: what an argument of each parameter type of this seat's laws reads as. -/
namespace Go.Proofs.Ytiaohbbafaaibab.P
open Go.RowKit Go.Proofs.YtiaohbbafaaibabW.PrintWords Go.Proofs.YtiaohbbafaaibabW.PrintLast Go.Proofs.YtiaohbbafaaibabW.PrintMore Go.Proofs.Ytiaohbbafaaibab.Opn
set_option linter.unusedVariables false
set_option linter.unusedSimpArgs false
theorem opn9 : Opens Try.prog 9 Kd.string (fun s => s.size ≤ 140737488351232) := Opens.string (by kernel_rfl) Try.underlying9
theorem opn42 : Opens Try.prog 42 (Kd.int .u32) (fun n => (Lit.int .u32 n).wf = true) := Opens.int (by kernel_rfl) Try.underlying42
theorem opn22 : Opens Try.prog 22 (Kd.slice 42 (Kd.int .u32)) (fun l => l.length ≤ 9223372036854775807 ∧ l.length * 4 ≤ 140737488351232 ∧ ∀ y ∈ l, (Lit.int .u32 y).wf = true) := Opens.slice (by kernel_rfl) Try.underlying22 (by kernel_rfl) opn42
theorem opn3 : Opens Try.prog 3 (Kd.int .i64) (fun n => (Lit.int .i64 n).wf = true) := Opens.int (by kernel_rfl) Try.underlying3
theorem opn2 : Opens Try.prog 2 (Kd.int .i64) (fun n => (Lit.int .i64 n).wf = true) := Opens.int (by kernel_rfl) Try.underlying2
theorem opn23 : Opens Try.prog 23 (Kd.slice 2 (Kd.int .i64)) (fun l => l.length ≤ 9223372036854775807 ∧ l.length * 8 ≤ 140737488351232 ∧ ∀ y ∈ l, (Lit.int .i64 y).wf = true) := Opens.slice (by kernel_rfl) Try.underlying23 (by kernel_rfl) opn2
theorem opn35 : Opens Try.prog 35 (Kd.int .i8) (fun n => (Lit.int .i8 n).wf = true) := Opens.int (by kernel_rfl) Try.underlying35
def wf37 (x : S37) : Prop := (x.f0.size ≤ 140737488351232) ∧ ((Lit.int .i8 x.f1).wf = true) ∧ ((Lit.int .i64 x.f2).wf = true)
set_option maxRecDepth 100000 in
theorem opn37 : Opens Try.prog 37 k37 wf37 := by
 refine Opens.struct (d := (Kd.pair Kd.string (Kd.pair (Kd.int .i8) (Kd.int .i64)))) (wf := (fun p : (ByteArray) × (Int) × (Int) => (p.1.size ≤ 140737488351232) ∧ ((Lit.int .i8 p.2.1).wf = true) ∧ ((Lit.int .i64 p.2.2).wf = true))) (fun x : S37 => (x.f0, x.f1, x.f2)) (fun p => ⟨p.1, p.2.1, p.2.2⟩) (fun _ => rfl) (by kernel_rfl) Try.underlying37 ?_
 refine OpensF.cons (d := Kd.string) (d' := (Kd.pair (Kd.int .i8) (Kd.int .i64))) (wf := (fun p : ByteArray => p.size ≤ 140737488351232)) (wf' := (fun p : (Int) × (Int) => ((Lit.int .i8 p.1).wf = true) ∧ ((Lit.int .i64 p.2).wf = true))) rfl opn9 ?_
 refine OpensF.cons (d := (Kd.int .i8)) (d' := (Kd.int .i64)) (wf := (fun p : Int => (Lit.int .i8 p).wf = true)) (wf' := (fun p : (Int) => ((Lit.int .i64 p).wf = true))) rfl opn35 ?_
 exact OpensF.one rfl opn3
theorem opn24 : Opens Try.prog 24 (Kd.slice 37 k37) (fun l => l.length ≤ 9223372036854775807 ∧ l.length * 32 ≤ 140737488351232 ∧ ∀ y ∈ l, wf37 y) := Opens.slice (by kernel_rfl) Try.underlying24 (by kernel_rfl) opn37
def wf41 (x : S41) : Prop := ((Lit.int .i64 x.f0).wf = true) ∧ ((Lit.int .i64 x.f1).wf = true)
set_option maxRecDepth 100000 in
theorem opn41 : Opens Try.prog 41 k41 wf41 := by
 refine Opens.struct (d := (Kd.pair (Kd.int .i64) (Kd.int .i64))) (wf := (fun p : (Int) × (Int) => ((Lit.int .i64 p.1).wf = true) ∧ ((Lit.int .i64 p.2).wf = true))) (fun x : S41 => (x.f0, x.f1)) (fun p => ⟨p.1, p.2⟩) (fun _ => rfl) (by kernel_rfl) Try.underlying41 ?_
 refine OpensF.cons (d := (Kd.int .i64)) (d' := (Kd.int .i64)) (wf := (fun p : Int => (Lit.int .i64 p).wf = true)) (wf' := (fun p : (Int) => ((Lit.int .i64 p).wf = true))) rfl opn3 ?_
 exact OpensF.one rfl opn3
theorem opn25 : Opens Try.prog 25 (Kd.slice 41 k41) (fun l => l.length ≤ 9223372036854775807 ∧ l.length * 16 ≤ 140737488351232 ∧ ∀ y ∈ l, wf41 y) := Opens.slice (by kernel_rfl) Try.underlying25 (by kernel_rfl) opn41
def wf27 (x : S27) : Prop := (x.f0.size ≤ 140737488351232) ∧ (x.f1.length ≤ 9223372036854775807 ∧ x.f1.length * 4 ≤ 140737488351232 ∧ ∀ y ∈ x.f1, (Lit.int .u32 y).wf = true) ∧ ((Lit.int .i64 x.f2).wf = true) ∧ (x.f3.length ≤ 9223372036854775807 ∧ x.f3.length * 8 ≤ 140737488351232 ∧ ∀ y ∈ x.f3, (Lit.int .i64 y).wf = true) ∧ (x.f4.length ≤ 9223372036854775807 ∧ x.f4.length * 32 ≤ 140737488351232 ∧ ∀ y ∈ x.f4, wf37 y) ∧ (x.f5.length ≤ 9223372036854775807 ∧ x.f5.length * 16 ≤ 140737488351232 ∧ ∀ y ∈ x.f5, wf41 y)
set_option maxRecDepth 100000 in
theorem opn27 : Opens Try.prog 27 k27 wf27 := by
 refine Opens.struct (d := (Kd.pair Kd.string (Kd.pair (Kd.slice 42 (Kd.int .u32)) (Kd.pair (Kd.int .i64) (Kd.pair (Kd.slice 2 (Kd.int .i64)) (Kd.pair (Kd.slice 37 k37) (Kd.slice 41 k41))))))) (wf := (fun p : (ByteArray) × (List Int) × (Int) × (List Int) × (List (S37)) × (List (S41)) => (p.1.size ≤ 140737488351232) ∧ (p.2.1.length ≤ 9223372036854775807 ∧ p.2.1.length * 4 ≤ 140737488351232 ∧ ∀ y ∈ p.2.1, (Lit.int .u32 y).wf = true) ∧ ((Lit.int .i64 p.2.2.1).wf = true) ∧ (p.2.2.2.1.length ≤ 9223372036854775807 ∧ p.2.2.2.1.length * 8 ≤ 140737488351232 ∧ ∀ y ∈ p.2.2.2.1, (Lit.int .i64 y).wf = true) ∧ (p.2.2.2.2.1.length ≤ 9223372036854775807 ∧ p.2.2.2.2.1.length * 32 ≤ 140737488351232 ∧ ∀ y ∈ p.2.2.2.2.1, wf37 y) ∧ (p.2.2.2.2.2.length ≤ 9223372036854775807 ∧ p.2.2.2.2.2.length * 16 ≤ 140737488351232 ∧ ∀ y ∈ p.2.2.2.2.2, wf41 y))) (fun x : S27 => (x.f0, x.f1, x.f2, x.f3, x.f4, x.f5)) (fun p => ⟨p.1, p.2.1, p.2.2.1, p.2.2.2.1, p.2.2.2.2.1, p.2.2.2.2.2⟩) (fun _ => rfl) (by kernel_rfl) Try.underlying27 ?_
 refine OpensF.cons (d := Kd.string) (d' := (Kd.pair (Kd.slice 42 (Kd.int .u32)) (Kd.pair (Kd.int .i64) (Kd.pair (Kd.slice 2 (Kd.int .i64)) (Kd.pair (Kd.slice 37 k37) (Kd.slice 41 k41)))))) (wf := (fun p : ByteArray => p.size ≤ 140737488351232)) (wf' := (fun p : (List Int) × (Int) × (List Int) × (List (S37)) × (List (S41)) => (p.1.length ≤ 9223372036854775807 ∧ p.1.length * 4 ≤ 140737488351232 ∧ ∀ y ∈ p.1, (Lit.int .u32 y).wf = true) ∧ ((Lit.int .i64 p.2.1).wf = true) ∧ (p.2.2.1.length ≤ 9223372036854775807 ∧ p.2.2.1.length * 8 ≤ 140737488351232 ∧ ∀ y ∈ p.2.2.1, (Lit.int .i64 y).wf = true) ∧ (p.2.2.2.1.length ≤ 9223372036854775807 ∧ p.2.2.2.1.length * 32 ≤ 140737488351232 ∧ ∀ y ∈ p.2.2.2.1, wf37 y) ∧ (p.2.2.2.2.length ≤ 9223372036854775807 ∧ p.2.2.2.2.length * 16 ≤ 140737488351232 ∧ ∀ y ∈ p.2.2.2.2, wf41 y))) rfl opn9 ?_
 refine OpensF.cons (d := (Kd.slice 42 (Kd.int .u32))) (d' := (Kd.pair (Kd.int .i64) (Kd.pair (Kd.slice 2 (Kd.int .i64)) (Kd.pair (Kd.slice 37 k37) (Kd.slice 41 k41))))) (wf := (fun p : List Int => p.length ≤ 9223372036854775807 ∧ p.length * 4 ≤ 140737488351232 ∧ ∀ y ∈ p, (Lit.int .u32 y).wf = true)) (wf' := (fun p : (Int) × (List Int) × (List (S37)) × (List (S41)) => ((Lit.int .i64 p.1).wf = true) ∧ (p.2.1.length ≤ 9223372036854775807 ∧ p.2.1.length * 8 ≤ 140737488351232 ∧ ∀ y ∈ p.2.1, (Lit.int .i64 y).wf = true) ∧ (p.2.2.1.length ≤ 9223372036854775807 ∧ p.2.2.1.length * 32 ≤ 140737488351232 ∧ ∀ y ∈ p.2.2.1, wf37 y) ∧ (p.2.2.2.length ≤ 9223372036854775807 ∧ p.2.2.2.length * 16 ≤ 140737488351232 ∧ ∀ y ∈ p.2.2.2, wf41 y))) rfl opn22 ?_
 refine OpensF.cons (d := (Kd.int .i64)) (d' := (Kd.pair (Kd.slice 2 (Kd.int .i64)) (Kd.pair (Kd.slice 37 k37) (Kd.slice 41 k41)))) (wf := (fun p : Int => (Lit.int .i64 p).wf = true)) (wf' := (fun p : (List Int) × (List (S37)) × (List (S41)) => (p.1.length ≤ 9223372036854775807 ∧ p.1.length * 8 ≤ 140737488351232 ∧ ∀ y ∈ p.1, (Lit.int .i64 y).wf = true) ∧ (p.2.1.length ≤ 9223372036854775807 ∧ p.2.1.length * 32 ≤ 140737488351232 ∧ ∀ y ∈ p.2.1, wf37 y) ∧ (p.2.2.length ≤ 9223372036854775807 ∧ p.2.2.length * 16 ≤ 140737488351232 ∧ ∀ y ∈ p.2.2, wf41 y))) rfl opn3 ?_
 refine OpensF.cons (d := (Kd.slice 2 (Kd.int .i64))) (d' := (Kd.pair (Kd.slice 37 k37) (Kd.slice 41 k41))) (wf := (fun p : List Int => p.length ≤ 9223372036854775807 ∧ p.length * 8 ≤ 140737488351232 ∧ ∀ y ∈ p, (Lit.int .i64 y).wf = true)) (wf' := (fun p : (List (S37)) × (List (S41)) => (p.1.length ≤ 9223372036854775807 ∧ p.1.length * 32 ≤ 140737488351232 ∧ ∀ y ∈ p.1, wf37 y) ∧ (p.2.length ≤ 9223372036854775807 ∧ p.2.length * 16 ≤ 140737488351232 ∧ ∀ y ∈ p.2, wf41 y))) rfl opn23 ?_
 refine OpensF.cons (d := (Kd.slice 37 k37)) (d' := (Kd.slice 41 k41)) (wf := (fun p : List (S37) => p.length ≤ 9223372036854775807 ∧ p.length * 32 ≤ 140737488351232 ∧ ∀ y ∈ p, wf37 y)) (wf' := (fun p : (List (S41)) => (p.length ≤ 9223372036854775807 ∧ p.length * 16 ≤ 140737488351232 ∧ ∀ y ∈ p, wf41 y))) rfl opn24 ?_
 exact OpensF.one rfl opn25
theorem opn44 : Opens Try.prog 44 (Kd.slice 27 k27) (fun l => l.length ≤ 9223372036854775807 ∧ l.length * 120 ≤ 140737488351232 ∧ ∀ y ∈ l, wf27 y) := Opens.slice (by kernel_rfl) Try.underlying44 (by kernel_rfl) opn27
end Go.Proofs.Ytiaohbbafaaibab.P

/- OWN TEXT: what binding means, over plain lists: where a bound symbol stands; one more Wanted symbol. -/
set_option linter.unusedVariables false
set_option linter.unusedSimpArgs false
namespace Go.Proofs.Ytiaohbbafaaibab.P
open Go.RowKit Go.Maps Go.Proofs.YtiaohbbafaaibabW.PrintWords Go.Proofs.YtiaohbbafaaibabW.PrintLast Go.Proofs.YtiaohbbafaaibabW.PrintMore Go.Proofs.Ytiaohbbafaaibab.Arr Go.Proofs.Ytiaohbbafaaibab.MapB Go.Proofs.Ytiaohbbafaaibab.SymM

theorem ok_of {l : List ObjT} {d : List (List DefT)} {n m : Int} (h : resolveR l = some (d, 0, n, m)) : l.length ≤ 32 ∧ chkR l l.length = some none ∧ NoneBad l (twice l) ∧ NoneBad l (unbound (gObj l l.length) l) ∧ d = rowsL (gObj l l.length) l l.length := by
 by_cases c : (l.length : Int) > 32
 ·
  unfold resolveR at h
  rw [if_pos c] at h
  simp at h
 ·
  have hl : l.length ≤ 32 := by omega
  cases hc : chkR l l.length with
  | none => unfold resolveR at h; rw [if_neg c, hc] at h; cases h
  | some o =>
   cases o with
   | some x =>
    unfold resolveR at h
    rw [if_neg c, hc] at h
    obtain ⟨x1, x2, x3⟩ := x
    simp only [Option.some.injEq, Prod.mk.injEq] at h
    exact absurd h.2.1 (chkR_ne l _ _ hc)
   | none =>
    obtain ⟨x, hx, ht⟩ := resolve_told l hl hc
    rw [h] at hx
    have hx := Option.some.inj hx
    cases ht with
    | two hb => simp at hx
    | un h0 hb => simp at hx
    | ok h0 hn =>
     simp only [Prod.mk.injEq] at hx
     exact ⟨hl, rfl, h0, hn, hx.1⟩
theorem rowsL_get (L : List Ent) (l : List ObjT) (i : Nat) : ∀ n, i < n → (rowsL L l n).getD i [] = rowL L (ob l i).f4 (i : Int) (ob l i).f4.length
  | n + 1, h => by
    show (rowsL L l n ++ [_]).getD i [] = _
    have hl := rowsL_length L l n
    by_cases e : i = n
    · subst e
      rw [List.getD_eq_getElem?_getD, List.getElem?_append_right (by omega), hl, Nat.sub_self]
      rfl
    · rw [List.getD_eq_getElem?_getD, List.getElem?_append_left (by omega), ← List.getD_eq_getElem?_getD]
      exact rowsL_get L l i n (by omega)
theorem find_f {l : List ObjT} (hS : Small l) (s : ByteArray) : symbol_Find.f l s = some (findF l s l.length) := by
 unfold symbol_Find.f
 rw [if_pos, findR_gObj]
 rw [Bool.and_eq_true, decide_eq_true_eq, List.all_eq_true]
 refine ⟨by have := hS.len; omega, fun i hi => decide_eq_true ?_⟩
 have := hS.syms i (List.mem_range.1 hi)
 omega
theorem resolve_f {l : List ObjT} (hl : l.length ≤ 1000000) (hs : ∀ p, p < l.length → (ob l p).f4.length ≤ 100000000) : symbol_Resolve.f l = resolveR l := by
 unfold symbol_Resolve.f
 rw [if_pos]
 rw [Bool.and_eq_true, decide_eq_true_eq, List.all_eq_true]
 refine ⟨hl, fun i hi => decide_eq_true ?_⟩
 have := hs i (List.mem_range.1 hi)
 omega
section
variable {l l' : List ObjT}
end
end Go.Proofs.Ytiaohbbafaaibab.P

/- OWN TEXT: what more than a statement looks at is, and copies, over plain lists of objects. -/
set_option linter.unusedVariables false
set_option linter.unusedSimpArgs false
namespace Go.Proofs.Ytiaohbbafaaibab.P
open Go.RowKit Go.Maps Go.Proofs.YtiaohbbafaaibabW.PrintWords Go.Proofs.YtiaohbbafaaibabW.PrintLast Go.Proofs.YtiaohbbafaaibabW.PrintMore Go.Proofs.Ytiaohbbafaaibab.Arr Go.Proofs.Ytiaohbbafaaibab.MapB Go.Proofs.Ytiaohbbafaaibab.SymM

structure Bits (l : List ObjT) : Prop where
  nm : ∀ p, p < l.length → (ob l p).f0.size ≤ 140737488351232
  code : ∀ p, p < l.length → (ob l p).f1.length ≤ 140737488351232
  data : ∀ p, p < l.length → (ob l p).f3.length ≤ 140737488351232
  syms : ∀ p, p < l.length → (ob l p).f4.length ≤ 140737488351232
  rels : ∀ p, p < l.length → (ob l p).f5.length ≤ 140737488351232
  names : ∀ p, p < l.length → ∀ q, q < (ob l p).f4.length → (sy (ob l p).f4 q).f0.size ≤ 140737488351232
def Within (l : List ObjT) (r : Int) (p : Nat) : Prop := ((ob l p).f1.length : Int) ≤ r ∧ ((ob l p).f3.length : Int) ≤ r ∧ ((ob l p).f4.length : Int) ≤ r ∧ ((ob l p).f5.length : Int) ≤ r
theorem wrapA {m : Int} {s : Nat} (h0 : 0 ≤ m) (h1 : m ≤ 2147483647) (h3 : s ≤ 140737488351232) : wrap64 (m + (s : Int)) = m + (s : Int) := wrap64_id (by omega) (by omega)
theorem sizes8 {l : List ObjT} (hB : Bits l) (hl : l.length ≤ 1000000) : ∃ r : Int, Ev (fun K => pleatref00_SizeObjects.f K l) r ∧ (r ≤ 2147483647 → ∀ p, p < l.length → Within l r p) := by
 have main : ∀ d p : Nat, ∀ n : Int, p + d = l.length → 0 ≤ n → n ≤ 4000000000000000 → ∃ r : Int, Ev (fun K => pleatref00_SizeObjects.l0 K l n (p : Int)) r ∧ n ≤ r ∧ (r ≤ 2147483647 → ∀ q, p ≤ q → q < l.length → Within l r q) := by
  intro d
  induction d with
  | zero =>
   intro p n hp h0 h1
   refine ⟨n, ?_, Int.le_refl n, fun _ q h2 h3 => by omega⟩
   refine Ev.succ ?_
   simp only [pleatref00_SizeObjects.l0]
   refine Ev.iteF (by omega) ?_
   refine Ev.succ ?_
   simp only [pleatref00_SizeObjects.j1]
   exact Ev.iteF (by decide) (Ev.val rfl)
  | succ d ih =>
   intro p n hp h0 h1
   have hlt : p < l.length := by omega
   by_cases hn : n ≤ 2147483647
   ·
    have b0 := hB.nm p hlt
    have b1 := hB.code p hlt
    have b3 := hB.data p hlt
    have b4 := hB.syms p hlt
    have b5 := hB.rels p hlt
    obtain ⟨n1, hn1⟩ : ∃ n1 : Int, n1 = n + ((ob l p).f0.size : Int) + 4 * ((ob l p).f1.length : Int) + 8 * ((ob l p).f3.length : Int) + ((ob l p).f5.length : Int) + ((ob l p).f4.length : Int) := ⟨_, rfl⟩
    have inner : ∀ e q : Nat, ∀ m : Int, q + e = (ob l p).f4.length → 0 ≤ m → n1 ≤ m → m ≤ 4000000000000000 → ∃ r : Int, Ev (fun K => pleatref00_SizeObjects.l1 K l m (p : Int) (q : Int)) r ∧ m ≤ r ∧ (r ≤ 2147483647 → ∀ q, p + 1 ≤ q → q < l.length → Within l r q) := by
     intro e
     induction e with
     | zero =>
      intro q m hq h0m hm hm2
      obtain ⟨r, h2, h3, h4⟩ := ih (p + 1) m (by omega) h0m hm2
      refine ⟨r, ?_, h3, h4⟩
      refine Ev.succ ?_
      simp only [pleatref00_SizeObjects.l1]
      refine Ev.iteT (by omega) (Ev.iteT (by omega) (Ev.iteF ?_ ?_))
      ·
       show ¬ (q : Int) < ((ob l p).f4.length : Int)
       omega
      ·
       simp only [wrapS hlt (show l.length ≤ 1000000000 by omega)]
       exact h2
     | succ e ihe =>
      intro q m hq h0m hm hm2
      by_cases hm3 : m ≤ 2147483647
      ·
       have bq := hB.names p hlt q (by omega)
       obtain ⟨r, h2, h3, h4⟩ := ihe (q + 1) (m + ((sy (ob l p).f4 q).f0.size : Int)) (by omega) (Int.add_nonneg h0m (Int.natCast_nonneg _)) (by omega) (by omega)
       refine ⟨r, ?_, by omega, h4⟩
       refine Ev.succ ?_
       simp only [pleatref00_SizeObjects.l1]
       refine Ev.iteT (by omega) (Ev.iteT (by omega) (Ev.iteT ?_ (Ev.iteT hm3 (Ev.iteT (by omega) ?_))))
       ·
        show (q : Int) < ((ob l p).f4.length : Int)
        omega
       ·
        have hw : wrap64 ((q : Int) + 1) = ((q + 1 : Nat) : Int) := by rw [wrap64_id (by omega) (by omega)]; rfl
        have hw2 : wrap64 (m + ((rd_T37 (rd_T27 l (p : Int)).f4 (q : Int)).f0.size : Int)) = m + ((sy (ob l p).f4 q).f0.size : Int) := by
         show wrap64 (m + ((sy (ob l p).f4 q).f0.size : Int)) = _
         exact wrapA h0m hm3 bq
        simp only [hw, hw2]
        exact h2
      ·
       obtain ⟨r, h2, h3, h4⟩ := ih (p + 1) m (by omega) h0m hm2
       refine ⟨r, ?_, h3, h4⟩
       refine Ev.succ ?_
       simp only [pleatref00_SizeObjects.l1]
       refine Ev.iteT (by omega) (Ev.iteT (by omega) (Ev.iteT ?_ (Ev.iteF hm3 ?_)))
       ·
        show (q : Int) < ((ob l p).f4.length : Int)
        omega
       ·
        simp only [wrapS hlt (show l.length ≤ 1000000000 by omega)]
        exact h2
    obtain ⟨r, h2, h3, h4⟩ := inner (ob l p).f4.length 0 n1 (by omega) (by omega) (Int.le_refl _) (by omega)
    refine ⟨r, ?_, by omega, fun hr q h5 h6 => ?_⟩
    ·
     refine Ev.succ ?_
     simp only [pleatref00_SizeObjects.l0]
     refine Ev.iteT (by omega) ?_
     simp only [show decide (n ≤ 2147483647) = true from decide_eq_true hn]
     refine Ev.succ ?_
     simp only [pleatref00_SizeObjects.j1]
     refine Ev.iteT (by trivial) (Ev.iteT (by omega) (Ev.iteT (by omega) ?_))
     have hw : wrap64 (wrap64 (wrap64 (wrap64 (wrap64 (n + ((rd_T27 l (p : Int)).f0.size : Int)) + wrap64 (4 * ((rd_T27 l (p : Int)).f1.length : Int))) + wrap64 (8 * ((rd_T27 l (p : Int)).f3.length : Int))) + ((rd_T27 l (p : Int)).f5.length : Int)) + ((rd_T27 l (p : Int)).f4.length : Int)) = n1 := by
      show wrap64 (wrap64 (wrap64 (wrap64 (wrap64 (n + ((ob l p).f0.size : Int)) + wrap64 (4 * ((ob l p).f1.length : Int))) + wrap64 (8 * ((ob l p).f3.length : Int))) + ((ob l p).f5.length : Int)) + ((ob l p).f4.length : Int)) = n1
      rw [wrap64_id (x := n + ((ob l p).f0.size : Int)) (by omega) (by omega), wrap64_id (x := 4 * ((ob l p).f1.length : Int)) (by omega) (by omega), wrap64_id (x := 8 * ((ob l p).f3.length : Int)) (by omega) (by omega), wrap64_id (x := n + ((ob l p).f0.size : Int) + 4 * ((ob l p).f1.length : Int)) (by omega) (by omega), wrap64_id (x := n + ((ob l p).f0.size : Int) + 4 * ((ob l p).f1.length : Int) + 8 * ((ob l p).f3.length : Int)) (by omega) (by omega), wrap64_id (x := n + ((ob l p).f0.size : Int) + 4 * ((ob l p).f1.length : Int) + 8 * ((ob l p).f3.length : Int) + ((ob l p).f5.length : Int)) (by omega) (by omega), hn1, wrap64_id (by omega) (by omega)]
     simp only [hw]
     exact h2
    ·
     by_cases e : q = p
     ·
      subst e
      unfold Within
      omega
     ·
      exact h4 hr q (by omega) h6
   ·
    refine ⟨n, ?_, Int.le_refl n, fun hr => absurd hr (by omega)⟩
    refine Ev.succ ?_
    simp only [pleatref00_SizeObjects.l0]
    refine Ev.iteT (by omega) ?_
    simp only [show decide (n ≤ 2147483647) = false from decide_eq_false hn]
    refine Ev.succ ?_
    simp only [pleatref00_SizeObjects.j1]
    exact Ev.iteF (by decide) (Ev.val rfl)
 obtain ⟨r, h1, h2, h3⟩ := main l.length 0 (l.length : Int) (by omega) (by omega) (by omega)
 exact ⟨r, h1, fun hr p hp => h3 hr p (Nat.zero_le _) hp⟩
theorem heavy8 {l : List ObjT} (hB : Bits l) : ∃ b, Ev (fun K => pleatlaw08_heavy.f K l) b ∧ (b = false → l.length ≤ 64 ∧ ∀ p, p < l.length → Within l 524288 p) := by
 by_cases c : (l.length : Int) > 64
 ·
  refine ⟨true, ?_, fun h => by cases h⟩
  unfold pleatlaw08_heavy.f
  exact Ev.iteT c (Ev.val rfl)
 ·
  obtain ⟨r, h1, h2⟩ := sizes8 hB (by omega)
  by_cases c2 : r > 2147483647
  ·
   refine ⟨true, ?_, fun h => by cases h⟩
   unfold pleatlaw08_heavy.f
   refine Ev.iteF c (Ev.bind h1 (Ev.bind0 (a := true) ?_ (Ev.iteT rfl (Ev.val rfl))))
   unfold pleatref00_Long.f
   rw [decide_eq_true c2]
  ·
   by_cases c3 : r > 524288
   ·
    refine ⟨true, ?_, fun h => by cases h⟩
    unfold pleatlaw08_heavy.f
    refine Ev.iteF c (Ev.bind h1 (Ev.bind0 (a := false) ?_ (Ev.iteF (by decide) (Ev.bind h1 (Ev.val (decide_eq_true c3))))))
    unfold pleatref00_Long.f
    rw [decide_eq_false c2]
   ·
    refine ⟨false, ?_, fun _ => ⟨by omega, fun p hp => ?_⟩⟩
    ·
     unfold pleatlaw08_heavy.f
     refine Ev.iteF c (Ev.bind h1 (Ev.bind0 (a := false) ?_ (Ev.iteF (by decide) (Ev.bind h1 (Ev.val (decide_eq_false c3))))))
     unfold pleatref00_Long.f
     rw [decide_eq_false c2]
    ·
     have := h2 (by omega) p hp
     unfold Within at this ⊢
     omega
theorem small_of {l : List ObjT} (hl : l.length ≤ 64) (hW : ∀ p, p < l.length → Within l 524288 p) (hw : ∀ p, p < l.length → wordsO (ob l p).f1 = true) : Small l := by
 refine ⟨by omega, fun p hp => ?_, fun p hp => ?_, fun p hp => ?_, hw⟩
 all_goals (have h := hW p hp; unfold Within at h; omega)
end Go.Proofs.Ytiaohbbafaaibab.P

/- The statement SymbolBinds: of every objects and pick its law's Go function answers true and leaves its arguments as they were; no further condition. This text: the law over numbers and lists, no memory. -/
namespace Go.Proofs.Ytiaohbbafaaibab.P
open Go.RowKit Go.Maps Go.Proofs.YtiaohbbafaaibabW.PrintWords Go.Proofs.YtiaohbbafaaibabW.PrintLast Go.Proofs.YtiaohbbafaaibabW.PrintMore Go.Proofs.Ytiaohbbafaaibab.Opn Go.Proofs.Ytiaohbbafaaibab.Arr Go.Proofs.Ytiaohbbafaaibab.MapB Go.Proofs.Ytiaohbbafaaibab.SymM
set_option linter.unusedVariables false
set_option linter.unusedSimpArgs false
theorem ob_mem {l : List ObjT} {p : Nat} (h : p < l.length) : ob l p ∈ l := by
 have : ob l p = l[p] := by
  unfold ob rd_T27
  rw [Int.toNat_natCast, List.getD_eq_getElem?_getD, List.getElem?_eq_getElem h]
  rfl
 rw [this]
 exact List.getElem_mem h
theorem sy_mem {l : List Sym} {p : Nat} (h : p < l.length) : sy l p ∈ l := by
 rw [sy_at h]
 exact List.getElem_mem h
theorem bits_of {l : List ObjT} (h : ∀ y ∈ l, wf27 y) : Bits l ∧ ∀ p, p < l.length → wordsO (ob l p).f1 = true := by
 have hx : ∀ p, p < l.length → wf27 (ob l p) := fun p hp => h _ (ob_mem hp)
 refine ⟨⟨fun p hp => (hx p hp).1, fun p hp => ?_, fun p hp => ?_, fun p hp => ?_, fun p hp => ?_, fun p hp q hq => ?_⟩, fun p hp => ?_⟩
 ·
  have := (hx p hp).2.1.2.1; omega
 ·
  have := (hx p hp).2.2.2.1.2.1; omega
 ·
  have := (hx p hp).2.2.2.2.1.2.1; omega
 ·
  have := (hx p hp).2.2.2.2.2.2.1; omega
 ·
  exact ((hx p hp).2.2.2.2.1.2.2 _ (sy_mem hq)).1
 ·
  unfold wordsO
  rw [List.all_eq_true]
  intro y hy
  have := wf_u32 ((hx p hp).2.1.2.2 y hy)
  rw [Bool.and_eq_true, decide_eq_true_eq, decide_eq_true_eq]
  omega
theorem chkR_total {l : List ObjT} (hS : Small l) : ∀ n, n ≤ l.length → chkR l n ≠ none
  | 0, _ => by intro h; cases h
  | n + 1, hn => by
    intro h
    cases hc : chkR l n with
    | none => exact chkR_total hS n (by omega) hc
    | some o =>
      cases o with
      | some x => simp only [chkR, hc] at h; cases h
      | none =>
        rw [chkR_step l n hc, objCheck hS (by omega)] at h
        generalize chkO (ob l n).f0 (ob l n).f1 (ob l n).f2 (ob l n).f3 (ob l n).f4 (ob l n).f5 = x at h
        obtain ⟨e, m⟩ := x
        simp only at h
        split at h
        · cases h
        · split at h <;> cases h
theorem resolve_ways {l : List ObjT} (hS : Small l) (hl : l.length ≤ 32) : ∃ d e n m, resolveR l = some (d, e, n, m) ∧ ((e ≠ 0 ∧ d = []) ∨ e = 0) := by
 cases hc : chkR l l.length with
 | none => exact absurd hc (chkR_total hS _ (Nat.le_refl _))
 | some o =>
  cases o with
  | some x =>
   have hne := chkR_ne l _ _ hc
   obtain ⟨x1, x2, x3⟩ := x
   refine ⟨[], x1, x2, x3, ?_, .inl ⟨hne, rfl⟩⟩
   unfold resolveR
   rw [if_neg (by omega), hc]
  | none =>
   obtain ⟨x, hx, ht⟩ := resolve_told l hl hc
   cases ht with
   | two hb => exact ⟨_, _, _, _, hx, .inl ⟨by decide, rfl⟩⟩
   | un h0 hb => exact ⟨_, _, _, _, hx, .inl ⟨by decide, rfl⟩⟩
   | ok h0 hn => exact ⟨_, _, _, _, hx, .inr rfl⟩
end Go.Proofs.Ytiaohbbafaaibab.P

/- The statement SymbolResolves: of every objects and name its law's Go function answers true and leaves its arguments as they were; no further condition. This text: the law over numbers and lists, no memory. -/
namespace Go.Proofs.Ytiaohbbafaaibab.P
open Go.RowKit Go.Maps Go.Proofs.YtiaohbbafaaibabW.PrintWords Go.Proofs.YtiaohbbafaaibabW.PrintLast Go.Proofs.YtiaohbbafaaibabW.PrintMore Go.Proofs.Ytiaohbbafaaibab.Opn Go.Proofs.Ytiaohbbafaaibab.Arr Go.Proofs.Ytiaohbbafaaibab.MapB Go.Proofs.Ytiaohbbafaaibab.SymM
set_option linter.unusedVariables false
set_option linter.unusedSimpArgs false
theorem resolve_all {l : List ObjT} (hS : Small l) : ∃ d e n m, resolveR l = some (d, e, n, m) ∧ d.length ≤ 1000000 ∧ ∀ j, (d.getD j []).length ≤ 100000000 := by
 by_cases hl : l.length ≤ 32
 ·
  obtain ⟨d, e, n, m, hr, hways⟩ := resolve_ways hS hl
  refine ⟨d, e, n, m, hr, ?_⟩
  rcases hways with ⟨_, h⟩ | h
  ·
   subst h
   exact ⟨by simp, fun j => by simp⟩
  ·
   subst h
   obtain ⟨_, _, _, hN, hd⟩ := ok_of hr
   have hlen := rowsL_length (gObj l l.length) l l.length
   refine ⟨by rw [hd, hlen]; omega, fun j => ?_⟩
   rw [hd]
   by_cases hj : j < l.length
   ·
    rw [rowsL_get _ _ _ _ hj, rowL_length _ (fun q hq => hN j hj q hq)]
    exact hS.syms j hj
   ·
    rw [List.getD_eq_getElem?_getD, List.getElem?_eq_none (by omega)]
    simp
 ·
  refine ⟨[], 21, 32, 0, ?_, by simp, fun j => by simp⟩
  unfold resolveR
  rw [if_pos (by omega)]
theorem pureSymbolResolves (x0 : List ObjT) (x1 : ByteArray) (h0 : x0.length ≤ 9223372036854775807 ∧ x0.length * 120 ≤ 140737488351232 ∧ ∀ y ∈ x0, wf27 y) :
  ∃ kh hv, pleatlaw08_heavy.f kh x0 = some hv ∧ (hv = false → x1.size ≤ 65536 → x0.length ≤ 64 ∧ (∀ p, p < x0.length → smallO (ob x0 p).f0 (ob x0 p).f1 (ob x0 p).f2 (ob x0 p).f3 (ob x0 p).f4 (ob x0 p).f5 = true) ∧ ∃ d dq e n m y0 y1 y2 k8 kf, symbol_Resolve.f x0 = some (d, e, n, m) ∧ pleatref08_Resolve.f k8 x0 = some (dq, e, n, m) ∧ symbol_Find.f x0 x1 = some (y0, y1, y2) ∧ pleatref08_Find.f kf x0 x1 = some (y0, y1, y2) ∧ dq = cvs d ∧ d.length ≤ 1000000 ∧ ∀ j, (d.getD j []).length ≤ 1000000000) := by
 obtain ⟨hB, hw⟩ := bits_of h0.2.2
 obtain ⟨b, hEv, hsz⟩ := heavy8 hB
 obtain ⟨kh, hkh⟩ := hEv.rounds
 refine ⟨kh, b, hkh, fun hb _ => ?_⟩
 obtain ⟨h64, hW⟩ := hsz hb
 have hS := small_of h64 hW hw
 have hlim : ∀ p, p < x0.length → (ob x0 p).f1.length ≤ 1000000000 ∧ (ob x0 p).f3.length ≤ 1000000000 ∧ (ob x0 p).f4.length ≤ 1000000000 ∧ (ob x0 p).f5.length ≤ 1000000000 := fun p hp => by
  have h := hW p hp
  unfold Within at h
  omega
 refine ⟨h64, fun p hp => ?_, ?_⟩
 ·
  obtain ⟨h1, h3, h4, h5⟩ := hlim p hp
  unfold smallO
  simp only [Bool.and_eq_true, decide_eq_true_eq]
  exact ⟨h1, h3, h4, h5⟩
 ·
  obtain ⟨d, e, n, m, hr, hdl, hrl⟩ := resolve_all hS
  obtain ⟨k8, hk8⟩ := (resolve8 hS hr).rounds
  obtain ⟨kf, hkf⟩ := (find8 hS x1).rounds
  have hf := find_f hS x1
  generalize findF x0 x1 x0.length = y at hkf hf
  obtain ⟨y0, y1, y2⟩ := y
  exact ⟨d, _, e, n, m, y0, y1, y2, k8, kf, by rw [resolve_f hS.len hS.syms]; exact hr, hk8, hf, hkf, rfl, hdl, fun j => by have := hrl j; omega⟩
end Go.Proofs.Ytiaohbbafaaibab.P
