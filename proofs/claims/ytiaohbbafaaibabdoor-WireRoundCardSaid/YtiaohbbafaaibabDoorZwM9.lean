/- OWN TEXT and printed parts of this claim, laid together: HRound, Opn, Opns. -/
import Derived.Test.YtiaohbbafaaibabDoorZwM7
import Derived.Test.YtiaohbbafaaibabDoorZwM8
import Derived.Deep.DeepCutAuto
import Derived.Test.YtiaohbbafaaibabDoorZwWWords
import Derived.SizedLaws
import Derived.Deep.Slices
import Derived.Deep.Fields
import Derived.ChangeSame
import Derived.OpenShut
import Derived.Test.YtiaohbbafaaibabDoorZwM0
/- OWN TEXT: the law WireRound, walked. -/
namespace Go.Proofs.YtiaohbbafaaibabDoor.P
open Go.RowKit Go.Maps Go.Proofs.YtiaohbbafaaibabDoorW.PrintWords Go.Proofs.YtiaohbbafaaibabDoorW.PrintLast Go.Proofs.YtiaohbbafaaibabDoorW.PrintMore Go.Proofs.YtiaohbbafaaibabDoor.Arr Go.Proofs.YtiaohbbafaaibabDoor.MapB
set_option linter.unusedVariables false
set_option linter.unusedSimpArgs false
theorem set_by {l : List Int} {n : Nat} {y : Int} (h : ∀ x ∈ l, 0 ≤ x ∧ x < 256) (hy : 0 ≤ y ∧ y < 256) : ∀ x ∈ l.set n y, 0 ≤ x ∧ x < 256 := fun x hx => by
  rcases List.mem_or_eq_of_mem_set hx with h1 | rfl
  · exact h x h1
  · exact hy
theorem addr_add0 (g n : Nat) : (⟨g, 0, none⟩ : Addr).add n = ⟨g, n, none⟩ := by
  unfold Addr.add
  by_cases h : n = 0 <;> simp [h]
/-- wire.Read, once for all answers: the object's parts are rows of the call's own. -/
theorem wread2.calls (A : Option Addr) (c : Nat) (l : List Int) (w : World) (hC : Kd.C (Kd.int .u8) w A l.length l) (hcc : l.length ≤ c) (hl : l.length ≤ 1099511627776) (hby : ∀ x ∈ l, 0 ≤ x ∧ x < 256) (hgl : w.cell? ⟨0, 0, none⟩ = some (.iface 161 (.agg #[.pointer (some ⟨1, 79, none⟩)]))) :
    Calls Tryd.prog 7 #[.slice A l.length c] w fun e w' => ∃ v1 v3 v4 v5, e = .returned (.tuple #[.agg #[.string (roR l).nm, v1, .int .i64 (roR l).dat, v3, v4, v5], .int .i64 (readC l).1, .int .i64 (readC l).2]) ∧ Kd.R (Kd.int .u32) 63 w' w.heap.size (fun _ => True) v1 (roR l).code ∧ Kd.R (Kd.int .i64) 2 w' w.heap.size (fun _ => True) v3 (roR l).data ∧ Kd.R k75 75 w' w.heap.size (fun _ => True) v4 (roR l).syms ∧ Kd.R k68 68 w' w.heap.size (fun _ => True) v5 (roR l).rels ∧ Below w.heap.size w w' := by
  refine (wread.calls A c l w hC hcc hl hby hgl).mono ?_
  rintro e w' ⟨ov, rfl, hb, hok, hbad⟩
  by_cases h : (readC l).1 = 0
  · obtain ⟨v1, v3, v4, v5, rfl, h1, h3, h4, h5⟩ := hok h
    have e : roR l = ra5 l := by unfold roR; rw [if_pos h]
    rw [e]
    exact ⟨v1, v3, v4, v5, rfl, h1, h3, h4, h5, hb⟩
  · have e : roR l = ⟨⟨#[]⟩, [], 0, [], [], [], ⟨0, none⟩⟩ := by unfold roR; rw [if_neg h]
    rw [hbad h, e]
    exact ⟨_, _, _, _, rfl, Kd.R_nil _ _ _ _ _, Kd.R_nil _ _ _ _ _, Kd.R_nil _ _ _ _ _, Kd.R_nil _ _ _ _ _, hb⟩
set_option maxHeartbeats 60000000 in
set_option maxRecDepth 100000 in
theorem wround.walk (a0_0 : ByteArray) (A0_1 : Option Addr) (c0_1 : Nat) (l0_1 : List Int) (a0_2 : Int) (A0_3 : Option Addr) (c0_3 : Nat) (l0_3 : List Int) (A0_4 : Option Addr) (c0_4 : Nat) (l0_4 : List Sym) (A0_5 : Option Addr) (c0_5 : Nat) (l0_5 : List Rel) (p to_ : Int) (Ay : Option Addr) (cy : Nat) (ly : List Int) (w : World)
    (hr0_1 : Kd.C (Kd.int .u32) w A0_1 l0_1.length l0_1) (hc0_1 : l0_1.length ≤ c0_1) (hr0_3 : Kd.C (Kd.int .i64) w A0_3 l0_3.length l0_3) (hc0_3 : l0_3.length ≤ c0_3) (hr0_4 : Kd.C k75 w A0_4 l0_4.length l0_4) (hc0_4 : l0_4.length ≤ c0_4) (hr0_5 : Kd.C k68 w A0_5 l0_5.length l0_5) (hc0_5 : l0_5.length ≤ c0_5)
    (hry : Kd.C (Kd.int .u8) w Ay ly.length ly) (hcy : ly.length ≤ cy) (hgl : w.cell? ⟨0, 0, none⟩ = some (.iface 161 (.agg #[.pointer (some ⟨1, 79, none⟩)])))
    (kh : Nat) (hv : Bool) (hhv : pleatlaw04_heavy.f kh a0_0 l0_1 a0_2 l0_3 l0_4 l0_5 = some hv) (hlite : hv = false → Lite a0_0 l0_1 l0_3 l0_4 l0_5) (hwo : wordsO l0_1 = true) (h64 : ∀ x ∈ l0_3, -9223372036854775808 ≤ x ∧ x < 9223372036854775808) (hby : ∀ x ∈ ly, 0 ≤ x ∧ x < 256) (hto : 0 ≤ to_ ∧ to_ < 256) :
    Calls Tryd.prog 3 #[.agg #[.string a0_0, .slice A0_1 l0_1.length c0_1, .int .i64 a0_2, .slice A0_3 l0_3.length c0_3, .slice A0_4 l0_4.length c0_4, .slice A0_5 l0_5.length c0_5], .int .i64 p, .int .u8 to_, .slice Ay ly.length cy] w fun e w' => e = .returned (.bool true) ∧ Below w.heap.size w w' := by
  have hu1 := Tryd.underlying27
  have HGL := Aside0.mk hgl
  have HV := Aside0.mk hhv
  have HWO := Aside0.mk hwo
  have H64 := Aside0.mk h64
  have HBY := Aside0.mk hby
  have HTO := Aside0.mk hto
  have HY := Aside0.mk (And.intro hry hcy)
  have R1 := Aside0.mk (And.intro hr0_1 hc0_1)
  have R3 := Aside0.mk (And.intro hr0_3 hc0_3)
  have R4 := Aside0.mk (And.intro hr0_4 hc0_4)
  have R5 := Aside0.mk (And.intro hr0_5 hc0_5)
  have HB := Aside0.mk (Below.refl w.heap.size w)
  clear hgl hhv hwo h64 hby hto hry hcy hr0_1 hc0_1 hr0_3 hc0_3 hr0_4 hc0_4 hr0_5 hc0_5
  cases hv with
  | true =>
    clear hlite
    go_enter Tryd.func3, Tryd.ntmps3
    go_wp2_with (first | ((with_reducible refine gate_dst (N := 4) rfl ?_); refine box_event ?hg (N := 4) ?hd (cs := #[.string a0_0, .slice A0_1 l0_1.length c0_1, .int .i64 a0_2, .slice A0_3 l0_3.length c0_3, .slice A0_4 l0_4.length c0_4, .slice A0_5 l0_5.length c0_5]) (t := 27) ?hr ?_; (case hd => rfl); (case hg => rfl); (case hr => first | (go_simp; done) | (go_simp; rfl)); intro gb hg_ w1 BK_ hb_; have BO := Aside0.mk (show w1.heap[gb]? = some (objCell a0_0 A0_1 l0_1.length c0_1 a0_2 A0_3 l0_3.length c0_3 A0_4 l0_4.length c0_4 A0_5 l0_5.length c0_5) from BK_); have HBn := Aside0.mk (bsQ hb_ HB.out); have GB := Aside0.mk (gwQ hg_ HB.out); clear HB BK_ hb_ hg_; have HB := HBn; clear HBn; have ha0 := blk_cell BO.out 0; have ha1 := blk_cell BO.out 1; have ha2 := blk_cell BO.out 2; have ha3 := blk_cell BO.out 3; have ha4 := blk_cell BO.out 4; have ha5 := blk_cell BO.out 5) | (go_at_call 5; refine (pleatlaw04_heavy.calls kh _ _ _ _ _ _ _ _ _ _ _ _ _ _ true _ (Kd.C_below R1.out.1 HB.out) R1.out.2 (Kd.C_below R3.out.1 HB.out) R3.out.2 (Kd.C_below R4.out.1 HB.out) R4.out.2 (Kd.C_below R5.out.1 HB.out) R5.out.2 HV.out).mono ?_; rintro e_ w2 ⟨rfl, hb_⟩; have HBn := Aside0.mk (bsQ hb_ HB.out); have BOn := Aside0.mk (blk_below BO.out hb_); clear HB BO hb_ ha0 ha1 ha2 ha3 ha4 ha5; have HB := HBn; have BO := BOn; clear HBn BOn; have ha0 := blk_cell BO.out 0; have ha1 := blk_cell BO.out 1; have ha2 := blk_cell BO.out 2; have ha3 := blk_cell BO.out 3; have ha4 := blk_cell BO.out 4; have ha5 := blk_cell BO.out 5) | (go_at_call 6; refine (lives4.calls _ (pw_cell_below HB.out HGL.out)).mono ?_; rintro e_ wl ⟨rfl, hb_⟩; have HBn := Aside0.mk (bsQ hb_ HB.out); have BOn := Aside0.mk (blk_below BO.out hb_); clear HB BO hb_ ha0 ha1 ha2 ha3 ha4 ha5; have HB := HBn; have BO := BOn; clear HBn BOn; have ha0 := blk_cell BO.out 0; have ha1 := blk_cell BO.out 1; have ha2 := blk_cell BO.out 2; have ha3 := blk_cell BO.out 3; have ha4 := blk_cell BO.out 4; have ha5 := blk_cell BO.out 5))
    go_ret
    exact ⟨rfl, HB.out⟩
  | false =>
    have HLT := Aside0.mk (hlite rfl)
    clear hlite
    by_cases c8 : ly.length ≤ 65536
    rotate_left
    · have cb : decide ((ly.length : Int) > 65536) = true := decide_eq_true (by omega)
      clear c8
      go_enter Tryd.func3, Tryd.ntmps3
      go_wp2_with (first | ((with_reducible refine gate_dst (N := 4) rfl ?_); refine box_event ?hg (N := 4) ?hd (cs := #[.string a0_0, .slice A0_1 l0_1.length c0_1, .int .i64 a0_2, .slice A0_3 l0_3.length c0_3, .slice A0_4 l0_4.length c0_4, .slice A0_5 l0_5.length c0_5]) (t := 27) ?hr ?_; (case hd => rfl); (case hg => rfl); (case hr => first | (go_simp; done) | (go_simp; rfl)); intro gb hg_ w1 BK_ hb_; have BO := Aside0.mk (show w1.heap[gb]? = some (objCell a0_0 A0_1 l0_1.length c0_1 a0_2 A0_3 l0_3.length c0_3 A0_4 l0_4.length c0_4 A0_5 l0_5.length c0_5) from BK_); have HBn := Aside0.mk (bsQ hb_ HB.out); have GB := Aside0.mk (gwQ hg_ HB.out); clear HB BK_ hb_ hg_; have HB := HBn; clear HBn; have ha0 := blk_cell BO.out 0; have ha1 := blk_cell BO.out 1; have ha2 := blk_cell BO.out 2; have ha3 := blk_cell BO.out 3; have ha4 := blk_cell BO.out 4; have ha5 := blk_cell BO.out 5) | (go_at_call 5; refine (pleatlaw04_heavy.calls kh _ _ _ _ _ _ _ _ _ _ _ _ _ _ false _ (Kd.C_below R1.out.1 HB.out) R1.out.2 (Kd.C_below R3.out.1 HB.out) R3.out.2 (Kd.C_below R4.out.1 HB.out) R4.out.2 (Kd.C_below R5.out.1 HB.out) R5.out.2 HV.out).mono ?_; rintro e_ w2 ⟨rfl, hb_⟩; have HBn := Aside0.mk (bsQ hb_ HB.out); have BOn := Aside0.mk (blk_below BO.out hb_); clear HB BO hb_ ha0 ha1 ha2 ha3 ha4 ha5; have HB := HBn; have BO := BOn; clear HBn BOn; have ha0 := blk_cell BO.out 0; have ha1 := blk_cell BO.out 1; have ha2 := blk_cell BO.out 2; have ha3 := blk_cell BO.out 3; have ha4 := blk_cell BO.out 4; have ha5 := blk_cell BO.out 5) | (go_at_call 6; refine (lives4.calls _ (pw_cell_below HB.out HGL.out)).mono ?_; rintro e_ wl ⟨rfl, hb_⟩; have HBn := Aside0.mk (bsQ hb_ HB.out); have BOn := Aside0.mk (blk_below BO.out hb_); clear HB BO hb_ ha0 ha1 ha2 ha3 ha4 ha5; have HB := HBn; have BO := BOn; clear HBn BOn; have ha0 := blk_cell BO.out 0; have ha1 := blk_cell BO.out 1; have ha2 := blk_cell BO.out 2; have ha3 := blk_cell BO.out 3; have ha4 := blk_cell BO.out 4; have ha5 := blk_cell BO.out 5))
      go_ret
      exact ⟨rfl, HB.out⟩
    have cb : decide ((ly.length : Int) > 65536) = false := decide_eq_false (by omega)
    have HYL := Aside0.mk c8
    have HCY := Aside0.mk (copyBytesE (l := ly) (by omega))
    obtain ⟨kb, hkb⟩ := (eqBytesE ly (by omega)).rounds
    have HKB := Aside0.mk hkb
    clear c8 hkb
    go_enter Tryd.func3, Tryd.ntmps3
    go_upto_region 3 with (first | ((with_reducible refine gate_dst (N := 4) rfl ?_); refine box_event ?hg (N := 4) ?hd (cs := #[.string a0_0, .slice A0_1 l0_1.length c0_1, .int .i64 a0_2, .slice A0_3 l0_3.length c0_3, .slice A0_4 l0_4.length c0_4, .slice A0_5 l0_5.length c0_5]) (t := 27) ?hr ?_; (case hd => rfl); (case hg => rfl); (case hr => first | (go_simp; done) | (go_simp; rfl)); intro gb hg_ w1 BK_ hb_; have BO := Aside0.mk (show w1.heap[gb]? = some (objCell a0_0 A0_1 l0_1.length c0_1 a0_2 A0_3 l0_3.length c0_3 A0_4 l0_4.length c0_4 A0_5 l0_5.length c0_5) from BK_); have HBn := Aside0.mk (bsQ hb_ HB.out); have GB := Aside0.mk (gwQ hg_ HB.out); clear HB BK_ hb_ hg_; have HB := HBn; clear HBn; have ha0 := blk_cell BO.out 0; have ha1 := blk_cell BO.out 1; have ha2 := blk_cell BO.out 2; have ha3 := blk_cell BO.out 3; have ha4 := blk_cell BO.out 4; have ha5 := blk_cell BO.out 5) | (go_at_call 5; refine (pleatlaw04_heavy.calls kh _ _ _ _ _ _ _ _ _ _ _ _ _ _ false _ (Kd.C_below R1.out.1 HB.out) R1.out.2 (Kd.C_below R3.out.1 HB.out) R3.out.2 (Kd.C_below R4.out.1 HB.out) R4.out.2 (Kd.C_below R5.out.1 HB.out) R5.out.2 HV.out).mono ?_; rintro e_ w2 ⟨rfl, hb_⟩; have HBn := Aside0.mk (bsQ hb_ HB.out); have BOn := Aside0.mk (blk_below BO.out hb_); clear HB BO hb_ ha0 ha1 ha2 ha3 ha4 ha5; have HB := HBn; have BO := BOn; clear HBn BOn; have ha0 := blk_cell BO.out 0; have ha1 := blk_cell BO.out 1; have ha2 := blk_cell BO.out 2; have ha3 := blk_cell BO.out 3; have ha4 := blk_cell BO.out 4; have ha5 := blk_cell BO.out 5))
    clear cb
    go_upto_if 41 with (first | (go_at_call 8; refine (pleatref00_CopyBytes.calls _ _ ly ly _ (Kd.C_below HY.out.1 HB.out) HY.out.2 HCY.out).mono ?_; rintro e_ w3 ⟨vc, rfl, hr_, hb_⟩; obtain ⟨Ac, cc, ec⟩ := Kd.R_slice hr_; subst ec; have HCp := Aside0.mk hr_; clear hr_; have HBn := Aside0.mk (bsQ hb_ HB.out); have BOn := Aside0.mk (blk_below BO.out hb_); clear HB BO hb_ ha0 ha1 ha2 ha3 ha4 ha5; have HB := HBn; have BO := BOn; clear HBn BOn; have ha0 := blk_cell BO.out 0; have ha1 := blk_cell BO.out 1; have ha2 := blk_cell BO.out 2; have ha3 := blk_cell BO.out 3; have ha4 := blk_cell BO.out 4; have ha5 := blk_cell BO.out 5) | (go_at_call 7; refine (wread2.calls _ _ ly _ (Kd.R_reads' HCp.out).2.2 (Kd.R_reads' HCp.out).2.1 (by have := HYL.out; omega) HBY.out (pw_cell_below HB.out HGL.out)).mono ?_; rintro e_ w4 ⟨v1, v3, v4, v5, rfl, h1, h3, h4, h5, hb_⟩; obtain ⟨A1, c1, e_0⟩ := Kd.R_slice h1; subst e_0; obtain ⟨A3, c3, e_1⟩ := Kd.R_slice h3; subst e_1; obtain ⟨A4, c4, e_2⟩ := Kd.R_slice h4; subst e_2; obtain ⟨A5, c5, e_3⟩ := Kd.R_slice h5; subst e_3; have HX := Aside0.mk (And.intro h1 (And.intro h3 (And.intro h4 h5))); clear h1 h3 h4 h5; have HBn := Aside0.mk (bsQ hb_ HB.out); have BOn := Aside0.mk (blk_below BO.out hb_); clear HB BO hb_ ha0 ha1 ha2 ha3 ha4 ha5; have HB := HBn; have BO := BOn; clear HBn BOn; have ha0 := blk_cell BO.out 0; have ha1 := blk_cell BO.out 1; have ha2 := blk_cell BO.out 2; have ha3 := blk_cell BO.out 3; have ha4 := blk_cell BO.out 4; have ha5 := blk_cell BO.out 5) | ((with_reducible refine gate_dst (N := 9) rfl ?_); refine box_event ?hg (N := 9) ?hd (cs := zObj) (t := 27) ?hr ?_; (case hd => rfl); (case hg => rfl); (case hr => first | (go_simp; done) | (go_simp; rfl)); intro gx hg_ w5 BK_ hb_; have GX := Aside0.mk (gwQ hg_ HB.out); have NEgx := Aside0.mk (show gb ≠ gx by rw [hg_]; exact Nat.ne_of_lt (blk_lt BO.out)); have BX := Aside0.mk BK_; clear BK_ hg_; have HBn := Aside0.mk (bsQ hb_ HB.out); have BOn := Aside0.mk (blk_below BO.out hb_); have HXn := Aside0.mk (And.intro (Kd.R_below HX.out.1 hb_) (And.intro (Kd.R_below HX.out.2.1 hb_) (And.intro (Kd.R_below HX.out.2.2.1 hb_) (Kd.R_below HX.out.2.2.2 hb_)))); clear HB BO hb_ ha0 ha1 ha2 ha3 ha4 ha5 HX; have HB := HBn; have BO := BOn; clear HBn BOn; have HX := HXn; clear HXn; have ha0 := blk_cell BO.out 0; have ha1 := blk_cell BO.out 1; have ha2 := blk_cell BO.out 2; have ha3 := blk_cell BO.out 3; have ha4 := blk_cell BO.out 4; have ha5 := blk_cell BO.out 5) | ((with_reducible refine gate_store (t := 27) rfl ?_); refine wpList_store_whole rfl rfl rfl gx _ #[.string (roR ly).nm, .slice A1 (roR ly).code.length c1, .int .i64 (roR ly).dat, .slice A3 (roR ly).data.length c3, .slice A4 (roR ly).syms.length c4, .slice A5 (roR ly).rels.length c5] _ rfl rfl BX.out (by kernel_rfl) rfl (obj_oneR _ _ _ _ _ _ _ _ _ _ _ _ _ _) ?_; intro w6 hp_; have HBn := Aside0.mk (hp_.below HB.out GX.out); have BOn := Aside0.mk (blk_grown BO.out (put_grownN hp_) (fun e_ => NEgx.out (Option.some.inj e_))); have HXn := Aside0.mk (And.intro (Kd.R_grown1 HX.out.1 rfl (put_grownN hp_) (Kd.R_ne HX.out.1 BX.out (by decide))) (And.intro (Kd.R_grown1 HX.out.2.1 rfl (put_grownN hp_) (Kd.R_ne HX.out.2.1 BX.out (by decide))) (And.intro (Kd.R_grown1 HX.out.2.2.1 rfl (put_grownN hp_) (Kd.R_ne HX.out.2.2.1 BX.out (by decide))) (Kd.R_grown1 HX.out.2.2.2 rfl (put_grownN hp_) (Kd.R_ne HX.out.2.2.2 BX.out (by decide))))));  have BXn := Aside0.mk hp_.blk; clear HB BO ha0 ha1 ha2 ha3 ha4 ha5 BX hp_ HX; have HB := HBn; have BO := BOn; have BX := BXn; clear HBn BOn BXn; have HX := HXn; clear HXn;  have ha0 := blk_cell BO.out 0; have ha1 := blk_cell BO.out 1; have ha2 := blk_cell BO.out 2; have ha3 := blk_cell BO.out 3; have ha4 := blk_cell BO.out 4; have ha5 := blk_cell BO.out 5))
    clear HCp
    obtain ⟨rc, hrc⟩ : ∃ rc, rc = (readC ly).1 := ⟨_, rfl⟩
    obtain ⟨rp, hrp⟩ : ∃ rp, rp = (readC ly).2 := ⟨_, rfl⟩
    rw [← hrc, ← hrp]
    have HRC := Aside0.mk hrc
    clear hrc hrp
    go_cut [] (fun wx => Aside0 (Below w.heap.size w wx ∧ wx.heap[gb]? = some (objCell a0_0 A0_1 l0_1.length c0_1 a0_2 A0_3 l0_3.length c0_3 A0_4 l0_4.length c0_4 A0_5 l0_5.length c0_5)))
    case first =>
      by_cases hz : rc = 0
      · subst hz
        obtain ⟨_, hw, hck⟩ := read_written HBY.out HRC.out.symm
        have hro : roR ly = ra5 ly := by unfold roR; rw [if_pos HRC.out.symm]
        rw [← hro] at hw hck
        have hwx : wordsO (roR ly).code = true := by rw [hro]; exact ra5_words ly HBY.out
        have HCK := Aside0.mk (show object_Check.f (roR ly).nm (roR ly).code (roR ly).dat (roR ly).data (roR ly).syms (roR ly).rels = some (0, 0) by unfold object_Check.f; rw [if_pos hwx, (okO_of hck).chk])
        have HWK := Aside0.mk ((okO_of hck).wok hwx)
        have HWR := Aside0.mk hw
        clear hw hck hro hwx
        have hx0 := blk_cell BX.out 0
        have hx1 := blk_cell BX.out 1
        have hx2 := blk_cell BX.out 2
        have hx3 := blk_cell BX.out 3
        have hx4 := blk_cell BX.out 4
        have hx5 := blk_cell BX.out 5
        go_wp2_with (first | (go_at_call 9; refine (write_ok.calls _ _ _ _ _ _ _ _ _ _ _ _ _ _ _ 0 (Kd.R_reads' HX.out.1).2.2 (Kd.R_reads' HX.out.1).2.1 (Kd.R_reads' HX.out.2.1).2.2 (Kd.R_reads' HX.out.2.1).2.1 (Kd.R_reads' HX.out.2.2.1).2.2 (Kd.R_reads' HX.out.2.2.1).2.1 (Kd.R_reads' HX.out.2.2.2).2.2 (Kd.R_reads' HX.out.2.2.2).2.1 HCK.out HWK.out).mono ?_; rintro e_ w7 ⟨vb, rfl, hr_, hb_⟩; rw [← HWR.out] at hr_; obtain ⟨Ab, cb_, eb⟩ := Kd.R_slice hr_; subst eb; have HBk := Aside0.mk hr_; clear hr_; have HBn := Aside0.mk (bsQ hb_ HB.out); have BOn := Aside0.mk (blk_below BO.out hb_); have BXn := Aside0.mk (blk_below BX.out hb_); have HXn := Aside0.mk (And.intro (Kd.R_below HX.out.1 hb_) (And.intro (Kd.R_below HX.out.2.1 hb_) (And.intro (Kd.R_below HX.out.2.2.1 hb_) (Kd.R_below HX.out.2.2.2 hb_)))); clear HB BO hb_ ha0 ha1 ha2 ha3 ha4 ha5 BX HX; have HB := HBn; have BO := BOn; clear HBn BOn; have BX := BXn; clear BXn; have HX := HXn; clear HXn; have ha0 := blk_cell BO.out 0; have ha1 := blk_cell BO.out 1; have ha2 := blk_cell BO.out 2; have ha3 := blk_cell BO.out 3; have ha4 := blk_cell BO.out 4; have ha5 := blk_cell BO.out 5; clear hx0 hx1 hx2 hx3 hx4 hx5; have hx0 := blk_cell BX.out 0; have hx1 := blk_cell BX.out 1; have hx2 := blk_cell BX.out 2; have hx3 := blk_cell BX.out 3; have hx4 := blk_cell BX.out 4; have hx5 := blk_cell BX.out 5) | (go_at_call 10; refine (pleatref00_EqBytes.calls kb _ _ ly _ _ ly true _ (Kd.R_reads' HBk.out).2.2 (Kd.R_reads' HBk.out).2.1 (Kd.C_below HY.out.1 HB.out) HY.out.2 HKB.out).mono ?_; rintro e_ w8 ⟨rfl, hd_⟩; have hb_ := hd_.below; clear hd_; have HBn := Aside0.mk (bsQ hb_ HB.out); have BOn := Aside0.mk (blk_below BO.out hb_); clear HB BO hb_ ha0 ha1 ha2 ha3 ha4 ha5; have HB := HBn; have BO := BOn; clear HBn BOn; have ha0 := blk_cell BO.out 0; have ha1 := blk_cell BO.out 1; have ha2 := blk_cell BO.out 2; have ha3 := blk_cell BO.out 3; have ha4 := blk_cell BO.out 4; have ha5 := blk_cell BO.out 5))
        go_meet
        exact ⟨⟨HB.out, BO.out⟩⟩
      · have hzb : (rc == 0) = false := beq_eq_false_iff_ne.mpr hz
        clear hz
        go_wp2_with fail
        go_meet
        exact ⟨⟨HB.out, BO.out⟩⟩
    case rest =>
      clear HB BO BX HX ha0 ha1 ha2 ha3 ha4 ha5 HRC GX NEgx
      have HB := Aside0.mk hcut.out.1
      have BO := Aside0.mk hcut.out.2
      clear hcut
      have ha0 := blk_cell BO.out 0
      have ha1 := blk_cell BO.out 1
      have ha2 := blk_cell BO.out 2
      have ha3 := blk_cell BO.out 3
      have ha4 := blk_cell BO.out 4
      have ha5 := blk_cell BO.out 5
      have HCO := Aside0.mk (copyObjE (nm := a0_0) (dat := a0_2) (Nat.le_trans HLT.out.h1 (by decide)) (Nat.le_trans HLT.out.h3 (by decide)) (Nat.le_trans HLT.out.h4 (by decide)) (Nat.le_trans HLT.out.h5 (by decide)))
      obtain ⟨ke, hke⟩ := (eqObjE (nm := a0_0) (dat := a0_2) (Nat.le_trans HLT.out.h1 (by decide)) (Nat.le_trans HLT.out.h3 (by decide)) (Nat.le_trans HLT.out.h4 (by decide)) (Nat.le_trans HLT.out.h5 (by decide))).rounds
      have HKE := Aside0.mk hke
      clear hke
      obtain ⟨ce, cn, hce⟩ : ∃ ce cn, chkO a0_0 l0_1 a0_2 l0_3 l0_4 l0_5 = (ce, cn) := ⟨_, _, rfl⟩
      have HCK := Aside0.mk (show object_Check.f a0_0 l0_1 a0_2 l0_3 l0_4 l0_5 = some (ce, cn) by unfold object_Check.f; rw [if_pos HWO.out, hce])
      have HCE := Aside0.mk hce
      clear hce
      by_cases hz : ce = 0
      rotate_left
      · have hzb : (ce != 0) = true := bne_iff_ne.mpr hz
        have HZ := Aside0.mk hz
        clear hz
        go_upto_region 9 with (first | (go_at_call 12; refine (pleatref00_CopyObject.calls _ _ _ _ _ _ _ _ _ _ _ _ _ _ _ _ _ _ _ _ _ (Kd.C_below R1.out.1 HB.out) R1.out.2 (Kd.C_below R3.out.1 HB.out) R3.out.2 (Kd.C_below R4.out.1 HB.out) R4.out.2 (Kd.C_below R5.out.1 HB.out) R5.out.2 HCO.out).mono ?_; rintro e_ w3 ⟨v1, v3, v4, v5, rfl, h1, h3, h4, h5, hb_⟩; obtain ⟨B1, d1, e_0⟩ := Kd.R_slice h1; subst e_0; obtain ⟨B3, d3, e_1⟩ := Kd.R_slice h3; subst e_1; obtain ⟨B4, d4, e_2⟩ := Kd.R_slice h4; subst e_2; obtain ⟨B5, d5, e_3⟩ := Kd.R_slice h5; subst e_3; have HP := Aside0.mk (And.intro h1 (And.intro h3 (And.intro h4 h5))); clear h1 h3 h4 h5; have HBn := Aside0.mk (bsQ hb_ HB.out); have BOn := Aside0.mk (blk_below BO.out hb_); clear HB BO hb_ ha0 ha1 ha2 ha3 ha4 ha5; have HB := HBn; have BO := BOn; clear HBn BOn; have ha0 := blk_cell BO.out 0; have ha1 := blk_cell BO.out 1; have ha2 := blk_cell BO.out 2; have ha3 := blk_cell BO.out 3; have ha4 := blk_cell BO.out 4; have ha5 := blk_cell BO.out 5) | (go_at_call 11; refine (object_Check.calls _ _ _ _ _ _ _ _ _ _ _ _ _ _ ce cn _ (Kd.R_reads' HP.out.1).2.2 (Kd.R_reads' HP.out.1).2.1 (Kd.R_reads' HP.out.2.1).2.2 (Kd.R_reads' HP.out.2.1).2.1 (Kd.R_reads' HP.out.2.2.1).2.2 (Kd.R_reads' HP.out.2.2.1).2.1 (Kd.R_reads' HP.out.2.2.2).2.2 (Kd.R_reads' HP.out.2.2.2).2.1 HCK.out).mono ?_; rintro e_ w4 ⟨rfl, hb_⟩; clear HP; have HBn := Aside0.mk (bsQ hb_ HB.out); have BOn := Aside0.mk (blk_below BO.out hb_); clear HB BO hb_ ha0 ha1 ha2 ha3 ha4 ha5; have HB := HBn; have BO := BOn; clear HBn BOn; have ha0 := blk_cell BO.out 0; have ha1 := blk_cell BO.out 1; have ha2 := blk_cell BO.out 2; have ha3 := blk_cell BO.out 3; have ha4 := blk_cell BO.out 4; have ha5 := blk_cell BO.out 5))
        go_upto_region 10 with (first | (go_at_call 12; refine (pleatref00_CopyObject.calls _ _ _ _ _ _ _ _ _ _ _ _ _ _ _ _ _ _ _ _ _ (Kd.C_below R1.out.1 HB.out) R1.out.2 (Kd.C_below R3.out.1 HB.out) R3.out.2 (Kd.C_below R4.out.1 HB.out) R4.out.2 (Kd.C_below R5.out.1 HB.out) R5.out.2 HCO.out).mono ?_; rintro e_ w3 ⟨v1, v3, v4, v5, rfl, h1, h3, h4, h5, hb_⟩; obtain ⟨B1, d1, e_0⟩ := Kd.R_slice h1; subst e_0; obtain ⟨B3, d3, e_1⟩ := Kd.R_slice h3; subst e_1; obtain ⟨B4, d4, e_2⟩ := Kd.R_slice h4; subst e_2; obtain ⟨B5, d5, e_3⟩ := Kd.R_slice h5; subst e_3; have HP := Aside0.mk (And.intro h1 (And.intro h3 (And.intro h4 h5))); clear h1 h3 h4 h5; have HBn := Aside0.mk (bsQ hb_ HB.out); have BOn := Aside0.mk (blk_below BO.out hb_); clear HB BO hb_ ha0 ha1 ha2 ha3 ha4 ha5; have HB := HBn; have BO := BOn; clear HBn BOn; have ha0 := blk_cell BO.out 0; have ha1 := blk_cell BO.out 1; have ha2 := blk_cell BO.out 2; have ha3 := blk_cell BO.out 3; have ha4 := blk_cell BO.out 4; have ha5 := blk_cell BO.out 5) | (go_at_call 9; refine (write_bad.calls _ _ _ _ _ _ _ _ _ _ _ _ _ _ _ ce cn (Kd.R_reads' HP.out.1).2.2 (Kd.R_reads' HP.out.1).2.1 (Kd.R_reads' HP.out.2.1).2.2 (Kd.R_reads' HP.out.2.1).2.1 (Kd.R_reads' HP.out.2.2.1).2.2 (Kd.R_reads' HP.out.2.2.1).2.1 (Kd.R_reads' HP.out.2.2.2).2.2 (Kd.R_reads' HP.out.2.2.2).2.1 HCK.out HZ.out).mono ?_; rintro e_ w5 ⟨rfl, hb_⟩; clear HP; have HBn := Aside0.mk (bsQ hb_ HB.out); have BOn := Aside0.mk (blk_below BO.out hb_); clear HB BO hb_ ha0 ha1 ha2 ha3 ha4 ha5; have HB := HBn; have BO := BOn; clear HBn BOn; have ha0 := blk_cell BO.out 0; have ha1 := blk_cell BO.out 1; have ha2 := blk_cell BO.out 2; have ha3 := blk_cell BO.out 3; have ha4 := blk_cell BO.out 4; have ha5 := blk_cell BO.out 5))
        go_wp2_with (first | (go_at_call 6; refine (lives4.calls _ (pw_cell_below HB.out HGL.out)).mono ?_; rintro e_ wl ⟨rfl, hb_⟩; have HBn := Aside0.mk (bsQ hb_ HB.out); have BOn := Aside0.mk (blk_below BO.out hb_); clear HB BO hb_ ha0 ha1 ha2 ha3 ha4 ha5; have HB := HBn; have BO := BOn; clear HBn BOn; have ha0 := blk_cell BO.out 0; have ha1 := blk_cell BO.out 1; have ha2 := blk_cell BO.out 2; have ha3 := blk_cell BO.out 3; have ha4 := blk_cell BO.out 4; have ha5 := blk_cell BO.out 5))
        go_ret
        exact ⟨rfl, HB.out⟩
      subst hz
      have hok := okO_of (show (chkO a0_0 l0_1 a0_2 l0_3 l0_4 l0_5).1 = 0 by rw [HCE.out])
      have HWK := Aside0.mk (hok.wok HWO.out)
      have hwr := written_read a0_0 l0_1 a0_2 l0_3 l0_4 l0_5 HWK.out hok.fewer H64.out (by rw [HCE.out])
      obtain ⟨hrc, hro⟩ : (readC (writeB a0_0 l0_1 a0_2 l0_3 l0_4 l0_5)).1 = 0 ∧ ∃ s, roR (writeB a0_0 l0_1 a0_2 l0_3 l0_4 l0_5) = ⟨a0_0, l0_1, a0_2, l0_3, l0_4, l0_5, s⟩ := by
        obtain ⟨h1, s, h2⟩ := hwr
        exact ⟨by rw [h1], s, by unfold roR; rw [if_pos (by rw [h1])]; exact h2⟩
      have hbyL := writeB_by a0_0 l0_1 a0_2 l0_3 l0_4 l0_5
      have hset := fun (n : Nat) (hn : n < (writeB a0_0 l0_1 a0_2 l0_3 l0_4 l0_5).length) (hne : rd (writeB a0_0 l0_1 a0_2 l0_3 l0_4 l0_5) (n : Int) ≠ to_) => changed_set hn HTO.out hne
      have hlenL : (writeB a0_0 l0_1 a0_2 l0_3 l0_4 l0_5).length ≤ 1000000000 := Nat.le_trans (writeB_short HWK.out) (by decide)
      obtain ⟨L, hL⟩ : ∃ L, L = writeB a0_0 l0_1 a0_2 l0_3 l0_4 l0_5 := ⟨_, rfl⟩
      rw [← hL] at hrc hro hbyL hset hlenL
      have HL := Aside0.mk hL
      have HRC := Aside0.mk hrc
      have HRO := Aside0.mk hro
      have HBL := Aside0.mk hbyL
      have HSET := Aside0.mk hset
      have HLL := Aside0.mk hlenL
      have HCL := Aside0.mk (copyBytesE hlenL)
      clear hok hwr hrc hro hbyL hset hlenL hL
      go_upto_region 9 with (first | (go_at_call 12; refine (pleatref00_CopyObject.calls _ _ _ _ _ _ _ _ _ _ _ _ _ _ _ _ _ _ _ _ _ (Kd.C_below R1.out.1 HB.out) R1.out.2 (Kd.C_below R3.out.1 HB.out) R3.out.2 (Kd.C_below R4.out.1 HB.out) R4.out.2 (Kd.C_below R5.out.1 HB.out) R5.out.2 HCO.out).mono ?_; rintro e_ w3 ⟨v1, v3, v4, v5, rfl, h1, h3, h4, h5, hb_⟩; obtain ⟨B1, d1, e_0⟩ := Kd.R_slice h1; subst e_0; obtain ⟨B3, d3, e_1⟩ := Kd.R_slice h3; subst e_1; obtain ⟨B4, d4, e_2⟩ := Kd.R_slice h4; subst e_2; obtain ⟨B5, d5, e_3⟩ := Kd.R_slice h5; subst e_3; have HP := Aside0.mk (And.intro h1 (And.intro h3 (And.intro h4 h5))); clear h1 h3 h4 h5; have HBn := Aside0.mk (bsQ hb_ HB.out); have BOn := Aside0.mk (blk_below BO.out hb_); clear HB BO hb_ ha0 ha1 ha2 ha3 ha4 ha5; have HB := HBn; have BO := BOn; clear HBn BOn; have ha0 := blk_cell BO.out 0; have ha1 := blk_cell BO.out 1; have ha2 := blk_cell BO.out 2; have ha3 := blk_cell BO.out 3; have ha4 := blk_cell BO.out 4; have ha5 := blk_cell BO.out 5) | (go_at_call 11; refine (object_Check.calls _ _ _ _ _ _ _ _ _ _ _ _ _ _ 0 cn _ (Kd.R_reads' HP.out.1).2.2 (Kd.R_reads' HP.out.1).2.1 (Kd.R_reads' HP.out.2.1).2.2 (Kd.R_reads' HP.out.2.1).2.1 (Kd.R_reads' HP.out.2.2.1).2.2 (Kd.R_reads' HP.out.2.2.1).2.1 (Kd.R_reads' HP.out.2.2.2).2.2 (Kd.R_reads' HP.out.2.2.2).2.1 HCK.out).mono ?_; rintro e_ w4 ⟨rfl, hb_⟩; clear HP; have HBn := Aside0.mk (bsQ hb_ HB.out); have BOn := Aside0.mk (blk_below BO.out hb_); clear HB BO hb_ ha0 ha1 ha2 ha3 ha4 ha5; have HB := HBn; have BO := BOn; clear HBn BOn; have ha0 := blk_cell BO.out 0; have ha1 := blk_cell BO.out 1; have ha2 := blk_cell BO.out 2; have ha3 := blk_cell BO.out 3; have ha4 := blk_cell BO.out 4; have ha5 := blk_cell BO.out 5))
      go_upto_region 12 with (first | (go_at_call 12; refine (pleatref00_CopyObject.calls _ _ _ _ _ _ _ _ _ _ _ _ _ _ _ _ _ _ _ _ _ (Kd.C_below R1.out.1 HB.out) R1.out.2 (Kd.C_below R3.out.1 HB.out) R3.out.2 (Kd.C_below R4.out.1 HB.out) R4.out.2 (Kd.C_below R5.out.1 HB.out) R5.out.2 HCO.out).mono ?_; rintro e_ w3 ⟨v1, v3, v4, v5, rfl, h1, h3, h4, h5, hb_⟩; obtain ⟨B1, d1, e_0⟩ := Kd.R_slice h1; subst e_0; obtain ⟨B3, d3, e_1⟩ := Kd.R_slice h3; subst e_1; obtain ⟨B4, d4, e_2⟩ := Kd.R_slice h4; subst e_2; obtain ⟨B5, d5, e_3⟩ := Kd.R_slice h5; subst e_3; have HP := Aside0.mk (And.intro h1 (And.intro h3 (And.intro h4 h5))); clear h1 h3 h4 h5; have HBn := Aside0.mk (bsQ hb_ HB.out); have BOn := Aside0.mk (blk_below BO.out hb_); clear HB BO hb_ ha0 ha1 ha2 ha3 ha4 ha5; have HB := HBn; have BO := BOn; clear HBn BOn; have ha0 := blk_cell BO.out 0; have ha1 := blk_cell BO.out 1; have ha2 := blk_cell BO.out 2; have ha3 := blk_cell BO.out 3; have ha4 := blk_cell BO.out 4; have ha5 := blk_cell BO.out 5) | (go_at_call 9; refine (write_ok.calls _ _ _ _ _ _ _ _ _ _ _ _ _ _ _ cn (Kd.R_reads' HP.out.1).2.2 (Kd.R_reads' HP.out.1).2.1 (Kd.R_reads' HP.out.2.1).2.2 (Kd.R_reads' HP.out.2.1).2.1 (Kd.R_reads' HP.out.2.2.1).2.2 (Kd.R_reads' HP.out.2.2.1).2.1 (Kd.R_reads' HP.out.2.2.2).2.2 (Kd.R_reads' HP.out.2.2.2).2.1 HCK.out HWK.out).mono ?_; rintro e_ w5 ⟨vb, rfl, hr_, hb_⟩; rw [← HL.out] at hr_; obtain ⟨Ab, cb_, eb⟩ := Kd.R_slice hr_; subst eb; have HW := Aside0.mk hr_; clear HP hr_; have HBn := Aside0.mk (bsQ hb_ HB.out); have BOn := Aside0.mk (blk_below BO.out hb_); clear HB BO hb_ ha0 ha1 ha2 ha3 ha4 ha5; have HB := HBn; have BO := BOn; clear HBn BOn; have ha0 := blk_cell BO.out 0; have ha1 := blk_cell BO.out 1; have ha2 := blk_cell BO.out 2; have ha3 := blk_cell BO.out 3; have ha4 := blk_cell BO.out 4; have ha5 := blk_cell BO.out 5))
      go_upto_region 13 with (first | (go_at_call 8; refine (pleatref00_CopyBytes.calls _ _ L L _ (Kd.R_reads' HW.out).2.2 (Kd.R_reads' HW.out).2.1 HCL.out).mono ?_; rintro e_ w6 ⟨vc, rfl, hr_, hb_⟩; obtain ⟨Ac, cc, ec⟩ := Kd.R_slice hr_; subst ec; have HCp := Aside0.mk (Kd.R_lower hr_ (show w.heap.size ≤ _ from HB.out.size)); clear hr_; have HBn := Aside0.mk (bsQ hb_ HB.out); have BOn := Aside0.mk (blk_below BO.out hb_); have HWn := Aside0.mk (Kd.R_below HW.out hb_); clear HB BO hb_ ha0 ha1 ha2 ha3 ha4 ha5 HW; have HB := HBn; have BO := BOn; clear HBn BOn; have HW := HWn; clear HWn; have ha0 := blk_cell BO.out 0; have ha1 := blk_cell BO.out 1; have ha2 := blk_cell BO.out 2; have ha3 := blk_cell BO.out 3; have ha4 := blk_cell BO.out 4; have ha5 := blk_cell BO.out 5) | (go_at_call 7; refine (wread2.calls _ _ L _ (Kd.R_reads' HCp.out).2.2 (Kd.R_reads' HCp.out).2.1 (by have := HLL.out; omega) HBL.out (pw_cell_below HB.out HGL.out)).mono ?_; rintro e_ w7 ⟨v1, v3, v4, v5, rfl, h1, h3, h4, h5, hb_⟩; obtain ⟨E1, f1_, e_0⟩ := Kd.R_slice h1; subst e_0; obtain ⟨E3, f3_, e_1⟩ := Kd.R_slice h3; subst e_1; obtain ⟨E4, f4_, e_2⟩ := Kd.R_slice h4; subst e_2; obtain ⟨E5, f5_, e_3⟩ := Kd.R_slice h5; subst e_3; have HX := Aside0.mk (And.intro h1 (And.intro h3 (And.intro h4 h5))); clear h1 h3 h4 h5; have HBn := Aside0.mk (bsQ hb_ HB.out); have BOn := Aside0.mk (blk_below BO.out hb_); have HWn := Aside0.mk (Kd.R_below HW.out hb_); clear HB BO hb_ ha0 ha1 ha2 ha3 ha4 ha5 HW; have HB := HBn; have BO := BOn; clear HBn BOn; have HW := HWn; clear HWn; have ha0 := blk_cell BO.out 0; have ha1 := blk_cell BO.out 1; have ha2 := blk_cell BO.out 2; have ha3 := blk_cell BO.out 3; have ha4 := blk_cell BO.out 4; have ha5 := blk_cell BO.out 5) | ((with_reducible refine gate_dst (N := 18) rfl ?_); refine box_event ?hg (N := 18) ?hd (cs := zObj) (t := 27) ?hr ?_; (case hd => rfl); (case hg => rfl); (case hr => first | (go_simp; done) | (go_simp; rfl)); intro gy hg_ w8 BK_ hb_; have GY := Aside0.mk (gwQ hg_ HB.out); have NEgy := Aside0.mk (show gb ≠ gy by rw [hg_]; exact Nat.ne_of_lt (blk_lt BO.out)); have BY := Aside0.mk BK_; clear BK_ hg_; have HBn := Aside0.mk (bsQ hb_ HB.out); have BOn := Aside0.mk (blk_below BO.out hb_); have HXn := Aside0.mk (And.intro (Kd.R_below HX.out.1 hb_) (And.intro (Kd.R_below HX.out.2.1 hb_) (And.intro (Kd.R_below HX.out.2.2.1 hb_) (Kd.R_below HX.out.2.2.2 hb_)))); have HWn := Aside0.mk (Kd.R_below HW.out hb_); clear HB BO hb_ ha0 ha1 ha2 ha3 ha4 ha5 HX HW; have HB := HBn; have BO := BOn; clear HBn BOn; have HX := HXn; clear HXn; have HW := HWn; clear HWn; have ha0 := blk_cell BO.out 0; have ha1 := blk_cell BO.out 1; have ha2 := blk_cell BO.out 2; have ha3 := blk_cell BO.out 3; have ha4 := blk_cell BO.out 4; have ha5 := blk_cell BO.out 5) | ((with_reducible refine gate_store (t := 27) rfl ?_); refine wpList_store_whole rfl rfl rfl gy _ #[.string (roR L).nm, .slice E1 (roR L).code.length f1_, .int .i64 (roR L).dat, .slice E3 (roR L).data.length f3_, .slice E4 (roR L).syms.length f4_, .slice E5 (roR L).rels.length f5_] _ rfl rfl BY.out (by kernel_rfl) rfl (obj_oneR _ _ _ _ _ _ _ _ _ _ _ _ _ _) ?_; intro w9 hp_; have HBn := Aside0.mk (hp_.below HB.out GY.out); have BOn := Aside0.mk (blk_grown BO.out (put_grownN hp_) (fun e_ => NEgy.out (Option.some.inj e_))); have HXn := Aside0.mk (And.intro (Kd.R_grown1 HX.out.1 rfl (put_grownN hp_) (Kd.R_ne HX.out.1 BY.out (by decide))) (And.intro (Kd.R_grown1 HX.out.2.1 rfl (put_grownN hp_) (Kd.R_ne HX.out.2.1 BY.out (by decide))) (And.intro (Kd.R_grown1 HX.out.2.2.1 rfl (put_grownN hp_) (Kd.R_ne HX.out.2.2.1 BY.out (by decide))) (Kd.R_grown1 HX.out.2.2.2 rfl (put_grownN hp_) (Kd.R_ne HX.out.2.2.2 BY.out (by decide)))))); have HWn := Aside0.mk (Kd.R_grown1 HW.out rfl (put_grownN hp_) (Kd.R_ne HW.out BY.out (by decide)));  have BYn := Aside0.mk hp_.blk; clear HB BO ha0 ha1 ha2 ha3 ha4 ha5 BY hp_ HX HW; have HB := HBn; have BO := BOn; have BY := BYn; clear HBn BOn BYn; have HX := HXn; clear HXn; have HW := HWn; clear HWn;  have ha0 := blk_cell BO.out 0; have ha1 := blk_cell BO.out 1; have ha2 := blk_cell BO.out 2; have ha3 := blk_cell BO.out 3; have ha4 := blk_cell BO.out 4; have ha5 := blk_cell BO.out 5))
      clear HCp
      obtain ⟨s_, hs_⟩ := HRO.out
      rw [HRC.out]
      rw [hs_] at HX BY
      clear hs_
      have hy0 := blk_cell BY.out 0
      have hy1 := blk_cell BY.out 1
      have hy2 := blk_cell BY.out 2
      have hy3 := blk_cell BY.out 3
      have hy4 := blk_cell BY.out 4
      have hy5 := blk_cell BY.out 5
      go_upto_region 15 with ((go_at_call 13; refine (pleatref00_EqObject.calls ke _ _ _ _ _ _ _ _ _ _ _ _ _ _ _ _ _ _ _ _ _ _ _ _ _ _ _ _ true _ (Kd.R_reads' HX.out.1).2.2 (Kd.R_reads' HX.out.1).2.1 (Kd.R_reads' HX.out.2.1).2.2 (Kd.R_reads' HX.out.2.1).2.1 (Kd.R_reads' HX.out.2.2.1).2.2 (Kd.R_reads' HX.out.2.2.1).2.1 (Kd.R_reads' HX.out.2.2.2).2.2 (Kd.R_reads' HX.out.2.2.2).2.1 (Kd.C_below R1.out.1 HB.out) R1.out.2 (Kd.C_below R3.out.1 HB.out) R3.out.2 (Kd.C_below R4.out.1 HB.out) R4.out.2 (Kd.C_below R5.out.1 HB.out) R5.out.2 HKE.out).mono ?_; rintro e_ w10 ⟨rfl, hb_⟩; clear hy0 hy1 hy2 hy3 hy4 hy5 BY HX; have HBn := Aside0.mk (bsQ hb_ HB.out); have BOn := Aside0.mk (blk_below BO.out hb_); have HWn := Aside0.mk (Kd.R_below HW.out hb_); clear HB BO hb_ ha0 ha1 ha2 ha3 ha4 ha5 HW; have HB := HBn; have BO := BOn; clear HBn BOn; have HW := HWn; clear HWn; have ha0 := blk_cell BO.out 0; have ha1 := blk_cell BO.out 1; have ha2 := blk_cell BO.out 2; have ha3 := blk_cell BO.out 3; have ha4 := blk_cell BO.out 4; have ha5 := blk_cell BO.out 5))
      by_cases hp0 : p < 0
      · have pb : decide (p < 0) = true := decide_eq_true hp0
        clear hp0
        go_wp2_with (first | (go_at_call 6; refine (lives4.calls _ (pw_cell_below HB.out HGL.out)).mono ?_; rintro e_ wl ⟨rfl, hb_⟩; have HBn := Aside0.mk (bsQ hb_ HB.out); have BOn := Aside0.mk (blk_below BO.out hb_); clear HB BO hb_ ha0 ha1 ha2 ha3 ha4 ha5; have HB := HBn; have BO := BOn; clear HBn BOn; have ha0 := blk_cell BO.out 0; have ha1 := blk_cell BO.out 1; have ha2 := blk_cell BO.out 2; have ha3 := blk_cell BO.out 3; have ha4 := blk_cell BO.out 4; have ha5 := blk_cell BO.out 5))
        go_ret
        exact ⟨rfl, HB.out⟩
      have pb : decide (p < 0) = false := decide_eq_false hp0
      obtain ⟨n, rfl⟩ : ∃ n : Nat, p = (n : Int) := ⟨p.toNat, by omega⟩
      clear hp0
      by_cases hp1 : (n : Int) ≥ (L.length : Int)
      · have qb : decide ((n : Int) ≥ (L.length : Int)) = true := decide_eq_true hp1
        have qc : (L.length ≤ n) = True := eq_true (by omega)
        clear hp1
        go_wp2_with (first | (go_at_call 6; refine (lives4.calls _ (pw_cell_below HB.out HGL.out)).mono ?_; rintro e_ wl ⟨rfl, hb_⟩; have HBn := Aside0.mk (bsQ hb_ HB.out); have BOn := Aside0.mk (blk_below BO.out hb_); clear HB BO hb_ ha0 ha1 ha2 ha3 ha4 ha5; have HB := HBn; have BO := BOn; clear HBn BOn; have ha0 := blk_cell BO.out 0; have ha1 := blk_cell BO.out 1; have ha2 := blk_cell BO.out 2; have ha3 := blk_cell BO.out 3; have ha4 := blk_cell BO.out 4; have ha5 := blk_cell BO.out 5))
        go_ret
        exact ⟨rfl, HB.out⟩
      have hnL : n < L.length := by omega
      have HN := Aside0.mk hnL
      have qb : decide ((n : Int) ≥ (L.length : Int)) = false := decide_eq_false hp1
      have qc : (L.length ≤ n) = False := eq_false (by omega)
      clear hp1
      obtain ⟨ag, cg, eg⟩ := Kd.R_slice1 HW.out (by omega)
      injection eg with eg1 eg2 eg3
      subst eg1 eg3
      obtain ⟨gv, egv⟩ := Kd.R_head HW.out
      subst egv
      have hcb := Kd.R_reads' HW.out
      obtain ⟨ad, e0, h0⟩ := Kd.at_int hcb.2.2 (n : Int) (by omega) (by omega)
      injection e0 with e0
      subst e0
      rw [Int.toNat_natCast] at h0
      rw [addr_add0] at h0
      have p0 : (0 : Int) ≤ (n : Int) := by omega
      have q0 : (n : Int) < (L.length : Int) := by omega
      replace p0 := eq_true p0
      replace q0 := eq_true q0
      obtain ⟨x, hx⟩ : ∃ x, x = rd L (n : Int) := ⟨_, rfl⟩
      rw [← hx] at h0
      have HXX := Aside0.mk hx
      clear hx hcb
      by_cases hxe : x = to_
      · subst hxe
        clear hnL
        go_wp2_with (first | (go_at_call 6; refine (lives4.calls _ (pw_cell_below HB.out HGL.out)).mono ?_; rintro e_ wl ⟨rfl, hb_⟩; have HBn := Aside0.mk (bsQ hb_ HB.out); have BOn := Aside0.mk (blk_below BO.out hb_); clear HB BO hb_ ha0 ha1 ha2 ha3 ha4 ha5; have HB := HBn; have BO := BOn; clear HBn BOn; have ha0 := blk_cell BO.out 0; have ha1 := blk_cell BO.out 1; have ha2 := blk_cell BO.out 2; have ha3 := blk_cell BO.out 3; have ha4 := blk_cell BO.out 4; have ha5 := blk_cell BO.out 5))
        go_ret
        exact ⟨rfl, HB.out⟩
      have hxb : (x == to_) = false := beq_eq_false_iff_ne.mpr hxe
      have hj := HSET.out n HN.out (by rw [← HXX.out]; exact hxe)
      have HJ := Aside0.mk hj
      clear hxe hj hnL
      go_upto_region 18 with ((go_at_call 8; refine (pleatref00_CopyBytes.calls _ _ L L _ (Kd.R_reads' HW.out).2.2 (Kd.R_reads' HW.out).2.1 HCL.out).mono ?_; rintro e_ w6 ⟨vc, rfl, hr_, hb_⟩; obtain ⟨Ac, cc, ec⟩ := Kd.R_slice hr_; subst ec; have HCp := Aside0.mk (Kd.R_lower hr_ (show w.heap.size ≤ _ from HB.out.size)); clear hr_; have HBn := Aside0.mk (bsQ hb_ HB.out); have BOn := Aside0.mk (blk_below BO.out hb_); have HWn := Aside0.mk (Kd.R_below HW.out hb_); clear HB BO hb_ ha0 ha1 ha2 ha3 ha4 ha5 HW; have HB := HBn; have BO := BOn; clear HBn BOn; have HW := HWn; clear HWn; have ha0 := blk_cell BO.out 0; have ha1 := blk_cell BO.out 1; have ha2 := blk_cell BO.out 2; have ha3 := blk_cell BO.out 3; have ha4 := blk_cell BO.out 4; have ha5 := blk_cell BO.out 5))
      clear pb qb qc h0 hxb
      obtain ⟨ag, cg, eg⟩ := Kd.R_slice1 HCp.out (by have := HN.out; omega)
      injection eg with eg1 eg2 eg3
      subst eg1 eg3
      obtain ⟨gc, egv⟩ := Kd.R_head HCp.out
      subst egv
      have hc2 := Kd.R_celln (0 : Int) HCp.out (n : Int) (by omega) (by have := HN.out; omega)
      rw [Int.toNat_natCast] at hc2
      obtain ⟨h0, h1⟩ := hc2
      have GC := Kd.R_base HCp.out gc rfl
      have hput := Kd.R_putg HCp.out (n : Int) to_
      rw [Int.toNat_natCast] at hput
      have HB2 := Aside0.mk (below_grown HB.out GC hput.2)
      have HP2 := Aside0.mk hput.1
      clear hput HCp HW GC BO ha0 ha1 ha2 ha3 ha4 ha5
      go_upto_region 19 with (fail)
      clear h0 h1 HB
      generalize World.setCell _ _ _ = w12 at HB2 HP2 ⊢
      have HB := HB2
      clear HB2
      have hcall := wread2.calls (some ⟨gc, 0, none⟩) cc (L.set n to_) w12 (Kd.R_reads' HP2.out).2.2 (by first | exact (Kd.R_reads' HP2.out).2.1 | (rw [List.length_set]; exact (Kd.R_reads' HP2.out).2.1)) (by rw [List.length_set]; have := HLL.out; omega) (set_by HBL.out HTO.out) (pw_cell_below HB.out HGL.out)
      rw [List.length_set] at hcall
      have HCALL := Aside0.mk hcall
      clear hcall HP2
      have hjb : ((readC (L.set n to_)).1 != 0) = true := bne_iff_ne.mpr HJ.out
      go_wp2_with (first | (go_at_call 7; refine HCALL.out.mono ?_; rintro e_ w13 ⟨v1, v3, v4, v5, rfl, h1, h3, h4, h5, hb_⟩; obtain ⟨E1, f1_, e_0⟩ := Kd.R_slice h1; subst e_0; obtain ⟨E3, f3_, e_1⟩ := Kd.R_slice h3; subst e_1; obtain ⟨E4, f4_, e_2⟩ := Kd.R_slice h4; subst e_2; obtain ⟨E5, f5_, e_3⟩ := Kd.R_slice h5; subst e_3; clear h1 h3 h4 h5; have HBn := Aside0.mk (bsQ hb_ HB.out); clear HB hb_; have HB := HBn; clear HBn) | ((with_reducible refine gate_dst (N := 22) rfl ?_); refine box_event ?hg (N := 22) ?hd (cs := zObj) (t := 27) ?hr ?_; (case hd => rfl); (case hg => rfl); (case hr => first | (go_simp; done) | (go_simp; rfl)); intro gz hg_ w14 BK_ hb_; have GZ := Aside0.mk (gwQ hg_ HB.out); have BZ := Aside0.mk BK_; clear BK_ hg_; have HBn := Aside0.mk (bsQ hb_ HB.out); clear HB hb_; have HB := HBn; clear HBn) | ((with_reducible refine gate_store (t := 27) rfl ?_); refine wpList_store_whole rfl rfl rfl gz _ #[.string (roR (L.set n to_)).nm, .slice E1 (roR (L.set n to_)).code.length f1_, .int .i64 (roR (L.set n to_)).dat, .slice E3 (roR (L.set n to_)).data.length f3_, .slice E4 (roR (L.set n to_)).syms.length f4_, .slice E5 (roR (L.set n to_)).rels.length f5_] _ rfl rfl BZ.out (by kernel_rfl) rfl (obj_oneR _ _ _ _ _ _ _ _ _ _ _ _ _ _) ?_; intro w15 hp_; have HBn := Aside0.mk (hp_.below HB.out GZ.out); clear HB BZ hp_; have HB := HBn; clear HBn) | (go_at_call 6; refine (lives4.calls _ (pw_cell_below HB.out HGL.out)).mono ?_; rintro e_ wl ⟨rfl, hb_⟩; have HBn := Aside0.mk (bsQ hb_ HB.out); clear HB hb_; have HB := HBn; clear HBn))
      go_ret
      exact ⟨rfl, HB.out⟩
end Go.Proofs.YtiaohbbafaaibabDoor.P

/- OWN TEXT: an argument of whatever plain type (whole numbers, bools, strings, slices, structs of these), read as a value of the print's own kinds. -/
set_option linter.unusedVariables false
set_option linter.unusedSimpArgs false
namespace Go.Proofs.YtiaohbbafaaibabDoor.Opn
open Go.ChangeShapes Go.WideShapes Go.Deep Go.RowKit Go.Proofs.YtiaohbbafaaibabDoorW.PrintWords

/-- Whatever reads as data of type t is a value of kind d, and meets wf. -/
def Opens (P : Program) (t : TypeId) {α : Type} (d : Kd α) (wf : α → Prop) : Prop :=
  P.cellsOf t = d.sz ∧ ∀ (H : Type) (enc : TypeId × Value → H) (w : World) (base : Nat) (spare : Nat → Bool) (held : Bool) (fuel : Nat) (cs : List Value) (x : DataW H × List MemPlace),
    DataW.trod enc P w base spare held fuel t cs = some x → (∀ n ∈ x.1.weights P t, n ≤ reachBytes) → ∃ a : α, d.K w a cs ∧ wf a

theorem Opens.int {P : Program} {t : TypeId} {k : IntKind} (hc : P.cellsOf t = 1) (hu : P.underlying t = some (.int k)) : Opens P t (Kd.int k) (fun n => (Lit.int k n).wf = true) :=
  ⟨hc, fun H enc w base spare held fuel cs x h _ => by
    obtain ⟨n, rfl, rfl, hw⟩ := DataW.trod_int hu h
    exact ⟨n, rfl, hw⟩⟩
theorem Opens.bool {P : Program} {t : TypeId} (hc : P.cellsOf t = 1) (hu : P.underlying t = some .bool) : Opens P t Kd.bool (fun _ => True) :=
  ⟨hc, fun H enc w base spare held fuel cs x h _ => by
    obtain ⟨b, rfl, rfl⟩ := DataW.trod_bool hu h
    exact ⟨b, rfl, trivial⟩⟩
theorem Opens.string {P : Program} {t : TypeId} (hc : P.cellsOf t = 1) (hu : P.underlying t = some .string) : Opens P t Kd.string (fun s => s.size ≤ 140737488351232) :=
  ⟨hc, fun H enc w base spare held fuel cs x h hz => by
    obtain ⟨s, rfl, rfl, _⟩ := DataW.trod_string hu h
    have := hz s.data.toList.length (by simp [DataW.weights])
    rw [Array.length_toList] at this
    exact ⟨s, rfl, this⟩⟩

theorem weightsAll_mem {H : Type} {P : Program} {e : TypeId} : ∀ {l : List (DataW H)} {d : DataW H}, d ∈ l → ∀ n ∈ d.weights P e, n ∈ DataW.weightsAll P e l
  | d0 :: r, d, hd, n, hn => by
    simp only [DataW.weightsAll, List.mem_append]
    rcases List.mem_cons.1 hd with rfl | hd
    · exact .inl hn
    · exact .inr (weightsAll_mem hd n hn)

theorem Opens.slice {P : Program} {t e : TypeId} {α : Type} {d : Kd α} {wf : α → Prop} {B : Nat} (hc : P.cellsOf t = 1) (hu : P.underlying t = some (.slice e)) (hB : P.bytesOf e = B) (he : Opens P e d wf) :
    Opens P t (Kd.slice e d) (fun l => l.length ≤ 9223372036854775807 ∧ l.length * B ≤ 140737488351232 ∧ ∀ x ∈ l, wf x) :=
  ⟨hc, fun H enc w base spare held fuel cs x h hz => by
    rcases open_slice hu h with ⟨rfl, rfl⟩ | ⟨a, len, cap, m, n, D, Pl, rfl, hb, hl, hm, hmm, rfl, hi⟩
    · exact ⟨[], ⟨none, 0, rfl, Nat.le_refl _, rfl, by simp, fun h => absurd h (Nat.lt_irrefl 0)⟩, by simp, by simp, fun x hx => by cases hx⟩
    · have hlm : len ≤ m := by rw [hmm]; split <;> omega
      have hw0 : ∀ n ∈ (DataW.slice ((List.range len).map D) ((List.range (m - len)).map fun j => D (len + j))).weights P t, n ≤ reachBytes := hz
      have h1 : (len + (m - len)) * P.bytesOf e ≤ reachBytes := by
        have := hw0 _ (by simp only [DataW.weights, hu]; exact List.mem_cons_self)
        simpa using this
      have hel : ∀ i, i < len → ∃ (a' : α) (c : List Value), w.cells? base (a.add (i * P.cellsOf e)) (P.cellsOf e) = some c ∧ d.K w a' c ∧ wf a' := fun i hi' => by
        obtain ⟨c, hcc, ht⟩ := hi i (Nat.lt_of_lt_of_le hi' hlm)
        obtain ⟨a', hk, hwf⟩ := he.2 H enc w base spare held n c _ ht (fun q hq => hw0 q (by
          simp only [DataW.weights, hu]
          exact List.mem_cons_of_mem _ (List.mem_append_left _ (weightsAll_mem (List.mem_map.2 ⟨i, List.mem_range.2 hi', rfl⟩) q hq))))
        exact ⟨a', c, hcc, hk, hwf⟩
      have hl' : ∃ l : List α, l.length = len ∧ ∀ i x, l[i]? = some x → ∃ c, w.cells? base (a.add (i * P.cellsOf e)) (P.cellsOf e) = some c ∧ d.K w x c ∧ wf x := by
        clear hw0 h1 hi hlm hl hz hmm h
        induction len with
        | zero => exact ⟨[], rfl, fun i x hx => by simp at hx⟩
        | succ len ih =>
          obtain ⟨l, hl, hp⟩ := ih (fun i hi => hel i (Nat.lt_succ_of_lt hi))
          obtain ⟨a', c, h1, h2, h3⟩ := hel len (Nat.lt_succ_self len)
          refine ⟨l ++ [a'], by simp [hl], fun i x hx => ?_⟩
          rcases Nat.lt_or_ge i l.length with h | h
          · rw [List.getElem?_append_left h] at hx
            exact hp i x hx
          · rw [List.getElem?_append_right h] at hx
            have hi0 : i - l.length = 0 := by
              rcases Nat.eq_zero_or_pos (i - l.length) with h0 | h0
              · exact h0
              · rw [List.getElem?_eq_none (by simp; omega)] at hx; cases hx
            rw [hi0] at hx
            simp at hx
            subst hx
            obtain rfl : i = len := by omega
            exact ⟨c, h1, h2, h3⟩
      obtain ⟨l, hll, hp⟩ := hl'
      subst hll
      refine ⟨l, ⟨some a, cap, rfl, hl, rfl, by simp only [maxLen] at hm; omega, fun _ => ⟨a, rfl, fun j p hj => ?_⟩⟩, ?_, ?_, ?_⟩
      · obtain ⟨c, h1, h2, _⟩ := hp j p hj
        obtain ⟨_, hcl, hcell⟩ := World.cells?_some h1
        refine ⟨c, by rw [hcl, he.1], h2, fun i u hu' => ?_⟩
        have hi2 : i < P.cellsOf e := by
          rw [← hcl]
          exact (List.getElem?_eq_some_iff.1 hu').1
        rw [← he.1, ← Go.Deep.add_add, hcell i hi2, hu']
      · simp only [maxLen] at hm; omega
      · rw [← hB]
        refine Nat.le_trans (Nat.mul_le_mul_right _ (show l.length ≤ l.length + (m - l.length) by omega)) ?_
        exact h1
      · intro x hx
        obtain ⟨i, hi'⟩ := List.getElem?_of_mem hx
        obtain ⟨_, _, _, h3⟩ := hp i x hi'
        exact h3⟩

/-- The fields of a struct, from the cell off on: each one's cells behind the other's. -/
def OpensF (P : Program) (fs : List Field) (off : Nat) {α : Type} (d : Kd α) (wf : α → Prop) : Prop :=
  (fs.map fun f => P.cellsOf f.type).sum = d.sz ∧ ∀ (H : Type) (enc : TypeId × Value → H) (w : World) (base : Nat) (spare : Nat → Bool) (held : Bool) (fuel : Nat) (cs : List Value) (xs : List (DataW H × List MemPlace)),
    cs.length = off + d.sz → xs.length = fs.length → (∀ (i : Nat) (f : Field), fs[i]? = some f → DataW.trod enc P w base spare held fuel f.type ((cs.drop f.offset).take (P.cellsOf f.type)) = xs[i]?) →
    (∀ n ∈ DataW.weightsEach P (fs.map (·.type)) (xs.map (·.1)), n ≤ reachBytes) → ∃ a : α, d.K w a (cs.drop off) ∧ wf a

theorem OpensF.one {P : Program} {f : Field} {off : Nat} {α : Type} {d : Kd α} {wf : α → Prop} (ho : f.offset = off) (h : Opens P f.type d wf) : OpensF P [f] off d wf := by
  refine ⟨by simp [h.1], fun H enc w base spare held fuel cs xs hl hx hf hz => ?_⟩
  match xs, hx with
  | [x], _ =>
    have h0 := hf 0 f rfl
    rw [ho, h.1, List.take_of_length_le (by rw [List.length_drop]; omega)] at h0
    exact h.2 H enc w base spare held fuel _ x h0 (fun n hn => hz n (by simp only [List.map_cons, DataW.weightsEach, List.mem_append]; exact .inl hn))

theorem OpensF.cons {P : Program} {f : Field} {fs : List Field} {off : Nat} {α β : Type} {d : Kd α} {d' : Kd β} {wf : α → Prop} {wf' : β → Prop} (ho : f.offset = off) (h : Opens P f.type d wf) (hs : OpensF P fs (off + d.sz) d' wf') :
    OpensF P (f :: fs) off (Kd.pair d d') (fun x => wf x.1 ∧ wf' x.2) := by
  refine ⟨by simp [h.1, hs.1, Kd.pair], fun H enc w base spare held fuel cs xs hl hx hf hz => ?_⟩
  match xs, hx with
  | x :: xs, hx =>
    have hsz : (Kd.pair d d').sz = d.sz + d'.sz := rfl
    have h0 := hf 0 f rfl
    rw [ho, h.1] at h0
    obtain ⟨a, hk, hw⟩ := h.2 H enc w base spare held fuel _ x h0 (fun n hn => hz n (by simp only [List.map_cons, DataW.weightsEach, List.mem_append]; exact .inl hn))
    obtain ⟨b, hk', hw'⟩ := hs.2 H enc w base spare held fuel cs xs (by omega) (by simpa using hx) (fun i g hg => hf (i + 1) g hg) (fun n hn => hz n (by simp only [List.map_cons, DataW.weightsEach, List.mem_append]; exact .inr hn))
    exact ⟨(a, b), ⟨(cs.drop off).take d.sz, cs.drop (off + d.sz), by rw [← List.drop_drop, List.take_append_drop], hk, hk'⟩, hw, hw'⟩

theorem Opens.struct {P : Program} {t : TypeId} {fs : Array Field} {α β : Type} {d : Kd α} {wf : α → Prop} (f : β → α) (g : α → β) (hfg : ∀ a, f (g a) = a) (hc : P.cellsOf t = d.sz) (hu : P.underlying t = some (.struct fs)) (h : OpensF P fs.toList 0 d wf) :
    Opens P t (Kd.iso d f) (fun x => wf (f x)) := by
  refine ⟨hc, fun H enc w base spare held fuel cs x hx hz => ?_⟩
  obtain ⟨xs, n, rfl, rfl, hl, hlen, hf⟩ := DataW.trod_struct hu hx
  obtain ⟨a, hk, hw⟩ := h.2 H enc w base spare held n cs xs (by omega) (by simpa using hlen) (fun i fl hfl => hf i fl (by simpa using hfl)) (fun q hq => hz q (by simp only [DataW.weights, hu]; exact hq))
  refine ⟨g a, ?_, by show wf (f (g a)); rw [hfg]; exact hw⟩
  show d.K w (f (g a)) cs
  rw [hfg]
  simpa using hk

/-- An argument: what its cells are, and that it meets wf. -/
theorem Opens.arg {P : Program} {t : TypeId} {α : Type} {d : Kd α} {wf : α → Prop} (ho : Opens P t d wf) {H : Type} {enc : TypeId × Value → H} {ts : List TypeId} {ds : List (DataW H)} {w : World} {base : Nat} {spare : Nat → Bool} {held : Bool} {v : Value} {x : DataW H} {ps : List MemPlace} {j : Nat}
    (hsz : (DataW.weightsEach P ts ds).all (· ≤ reachBytes) = true) (ht : ts[j]? = some t) (hd : ds[j]? = some x) (h : DataW.Trod enc P w base spare held t v x ps) : ∃ a : α, d.K w a v.cells.toList ∧ wf a := by
  obtain ⟨fuel, hf⟩ := h
  refine ho.2 H enc w base spare held fuel _ _ hf (fun n hn => ?_)
  have := List.all_eq_true.1 hsz _ (DataW.weights_mem_each ht hd n hn)
  simpa using this

theorem agg_of {P : Program} {w : World} {r : Reach} {b0 : Nat} {t : TypeId} {fs : Array Field} {v : Value} {l : List Value} (hs : P.underlying t = some (.struct fs)) (hv : Value.okWide P w r b0 t v) (h : v.cells.toList = l) : v = .agg l.toArray := by
  obtain ⟨cs, rfl, _⟩ := okWide_struct hs hv
  simp only [Value.cells] at h
  rw [← h, Array.toArray_toList]

theorem slice_of {P : Program} {w : World} {r : Reach} {b0 : Nat} {t e : TypeId} {v : Value} {u : Value} (hs : P.underlying t = some (.slice e)) (hv : Value.okWide P w r b0 t v) (h : v.cells.toList = [u]) : v = u := by
  obtain ⟨a, len, cap, rfl⟩ := okWide_slice hs hv
  simpa [Value.cells] using h

end Go.Proofs.YtiaohbbafaaibabDoor.Opn

/- OWN TEXT, written by rows.py: what an argument of each parameter type of this seat's laws reads as. -/
namespace Go.Proofs.YtiaohbbafaaibabDoor.P
open Go.RowKit Go.Proofs.YtiaohbbafaaibabDoorW.PrintWords Go.Proofs.YtiaohbbafaaibabDoorW.PrintLast Go.Proofs.YtiaohbbafaaibabDoorW.PrintMore Go.Proofs.YtiaohbbafaaibabDoor.Opn
set_option linter.unusedVariables false
set_option linter.unusedSimpArgs false
theorem opn9 : Opens Tryd.prog 9 Kd.string (fun s => s.size ≤ 140737488351232) := Opens.string (by kernel_rfl) Tryd.underlying9
theorem opn63 : Opens Tryd.prog 63 (Kd.int .u32) (fun n => (Lit.int .u32 n).wf = true) := Opens.int (by kernel_rfl) Tryd.underlying63
theorem opn22 : Opens Tryd.prog 22 (Kd.slice 63 (Kd.int .u32)) (fun l => l.length ≤ 9223372036854775807 ∧ l.length * 4 ≤ 140737488351232 ∧ ∀ y ∈ l, (Lit.int .u32 y).wf = true) := Opens.slice (by kernel_rfl) Tryd.underlying22 (by kernel_rfl) opn63
theorem opn3 : Opens Tryd.prog 3 (Kd.int .i64) (fun n => (Lit.int .i64 n).wf = true) := Opens.int (by kernel_rfl) Tryd.underlying3
theorem opn2 : Opens Tryd.prog 2 (Kd.int .i64) (fun n => (Lit.int .i64 n).wf = true) := Opens.int (by kernel_rfl) Tryd.underlying2
theorem opn23 : Opens Tryd.prog 23 (Kd.slice 2 (Kd.int .i64)) (fun l => l.length ≤ 9223372036854775807 ∧ l.length * 8 ≤ 140737488351232 ∧ ∀ y ∈ l, (Lit.int .i64 y).wf = true) := Opens.slice (by kernel_rfl) Tryd.underlying23 (by kernel_rfl) opn2
theorem opn73 : Opens Tryd.prog 73 (Kd.int .i8) (fun n => (Lit.int .i8 n).wf = true) := Opens.int (by kernel_rfl) Tryd.underlying73
def wf75 (x : S75) : Prop := (x.f0.size ≤ 140737488351232) ∧ ((Lit.int .i8 x.f1).wf = true) ∧ ((Lit.int .i64 x.f2).wf = true)
set_option maxRecDepth 100000 in
theorem opn75 : Opens Tryd.prog 75 k75 wf75 := by
  refine Opens.struct (d := (Kd.pair Kd.string (Kd.pair (Kd.int .i8) (Kd.int .i64)))) (wf := (fun p : (ByteArray) × (Int) × (Int) => (p.1.size ≤ 140737488351232) ∧ ((Lit.int .i8 p.2.1).wf = true) ∧ ((Lit.int .i64 p.2.2).wf = true))) (fun x : S75 => (x.f0, x.f1, x.f2)) (fun p => ⟨p.1, p.2.1, p.2.2⟩) (fun _ => rfl) (by kernel_rfl) Tryd.underlying75 ?_
  refine OpensF.cons (d := Kd.string) (d' := (Kd.pair (Kd.int .i8) (Kd.int .i64))) (wf := (fun p : ByteArray => p.size ≤ 140737488351232)) (wf' := (fun p : (Int) × (Int) => ((Lit.int .i8 p.1).wf = true) ∧ ((Lit.int .i64 p.2).wf = true))) rfl opn9 ?_
  refine OpensF.cons (d := (Kd.int .i8)) (d' := (Kd.int .i64)) (wf := (fun p : Int => (Lit.int .i8 p).wf = true)) (wf' := (fun p : (Int) => ((Lit.int .i64 p).wf = true))) rfl opn73 ?_
  exact OpensF.one rfl opn3
theorem opn24 : Opens Tryd.prog 24 (Kd.slice 75 k75) (fun l => l.length ≤ 9223372036854775807 ∧ l.length * 32 ≤ 140737488351232 ∧ ∀ y ∈ l, wf75 y) := Opens.slice (by kernel_rfl) Tryd.underlying24 (by kernel_rfl) opn75
def wf68 (x : S68) : Prop := ((Lit.int .i64 x.f0).wf = true) ∧ ((Lit.int .i64 x.f1).wf = true)
set_option maxRecDepth 100000 in
theorem opn68 : Opens Tryd.prog 68 k68 wf68 := by
  refine Opens.struct (d := (Kd.pair (Kd.int .i64) (Kd.int .i64))) (wf := (fun p : (Int) × (Int) => ((Lit.int .i64 p.1).wf = true) ∧ ((Lit.int .i64 p.2).wf = true))) (fun x : S68 => (x.f0, x.f1)) (fun p => ⟨p.1, p.2⟩) (fun _ => rfl) (by kernel_rfl) Tryd.underlying68 ?_
  refine OpensF.cons (d := (Kd.int .i64)) (d' := (Kd.int .i64)) (wf := (fun p : Int => (Lit.int .i64 p).wf = true)) (wf' := (fun p : (Int) => ((Lit.int .i64 p).wf = true))) rfl opn3 ?_
  exact OpensF.one rfl opn3
theorem opn25 : Opens Tryd.prog 25 (Kd.slice 68 k68) (fun l => l.length ≤ 9223372036854775807 ∧ l.length * 16 ≤ 140737488351232 ∧ ∀ y ∈ l, wf68 y) := Opens.slice (by kernel_rfl) Tryd.underlying25 (by kernel_rfl) opn68
def wf27 (x : S27) : Prop := (x.f0.size ≤ 140737488351232) ∧ (x.f1.length ≤ 9223372036854775807 ∧ x.f1.length * 4 ≤ 140737488351232 ∧ ∀ y ∈ x.f1, (Lit.int .u32 y).wf = true) ∧ ((Lit.int .i64 x.f2).wf = true) ∧ (x.f3.length ≤ 9223372036854775807 ∧ x.f3.length * 8 ≤ 140737488351232 ∧ ∀ y ∈ x.f3, (Lit.int .i64 y).wf = true) ∧ (x.f4.length ≤ 9223372036854775807 ∧ x.f4.length * 32 ≤ 140737488351232 ∧ ∀ y ∈ x.f4, wf75 y) ∧ (x.f5.length ≤ 9223372036854775807 ∧ x.f5.length * 16 ≤ 140737488351232 ∧ ∀ y ∈ x.f5, wf68 y)
set_option maxRecDepth 100000 in
theorem opn27 : Opens Tryd.prog 27 k27 wf27 := by
  refine Opens.struct (d := (Kd.pair Kd.string (Kd.pair (Kd.slice 63 (Kd.int .u32)) (Kd.pair (Kd.int .i64) (Kd.pair (Kd.slice 2 (Kd.int .i64)) (Kd.pair (Kd.slice 75 k75) (Kd.slice 68 k68))))))) (wf := (fun p : (ByteArray) × (List Int) × (Int) × (List Int) × (List (S75)) × (List (S68)) => (p.1.size ≤ 140737488351232) ∧ (p.2.1.length ≤ 9223372036854775807 ∧ p.2.1.length * 4 ≤ 140737488351232 ∧ ∀ y ∈ p.2.1, (Lit.int .u32 y).wf = true) ∧ ((Lit.int .i64 p.2.2.1).wf = true) ∧ (p.2.2.2.1.length ≤ 9223372036854775807 ∧ p.2.2.2.1.length * 8 ≤ 140737488351232 ∧ ∀ y ∈ p.2.2.2.1, (Lit.int .i64 y).wf = true) ∧ (p.2.2.2.2.1.length ≤ 9223372036854775807 ∧ p.2.2.2.2.1.length * 32 ≤ 140737488351232 ∧ ∀ y ∈ p.2.2.2.2.1, wf75 y) ∧ (p.2.2.2.2.2.length ≤ 9223372036854775807 ∧ p.2.2.2.2.2.length * 16 ≤ 140737488351232 ∧ ∀ y ∈ p.2.2.2.2.2, wf68 y))) (fun x : S27 => (x.f0, x.f1, x.f2, x.f3, x.f4, x.f5)) (fun p => ⟨p.1, p.2.1, p.2.2.1, p.2.2.2.1, p.2.2.2.2.1, p.2.2.2.2.2⟩) (fun _ => rfl) (by kernel_rfl) Tryd.underlying27 ?_
  refine OpensF.cons (d := Kd.string) (d' := (Kd.pair (Kd.slice 63 (Kd.int .u32)) (Kd.pair (Kd.int .i64) (Kd.pair (Kd.slice 2 (Kd.int .i64)) (Kd.pair (Kd.slice 75 k75) (Kd.slice 68 k68)))))) (wf := (fun p : ByteArray => p.size ≤ 140737488351232)) (wf' := (fun p : (List Int) × (Int) × (List Int) × (List (S75)) × (List (S68)) => (p.1.length ≤ 9223372036854775807 ∧ p.1.length * 4 ≤ 140737488351232 ∧ ∀ y ∈ p.1, (Lit.int .u32 y).wf = true) ∧ ((Lit.int .i64 p.2.1).wf = true) ∧ (p.2.2.1.length ≤ 9223372036854775807 ∧ p.2.2.1.length * 8 ≤ 140737488351232 ∧ ∀ y ∈ p.2.2.1, (Lit.int .i64 y).wf = true) ∧ (p.2.2.2.1.length ≤ 9223372036854775807 ∧ p.2.2.2.1.length * 32 ≤ 140737488351232 ∧ ∀ y ∈ p.2.2.2.1, wf75 y) ∧ (p.2.2.2.2.length ≤ 9223372036854775807 ∧ p.2.2.2.2.length * 16 ≤ 140737488351232 ∧ ∀ y ∈ p.2.2.2.2, wf68 y))) rfl opn9 ?_
  refine OpensF.cons (d := (Kd.slice 63 (Kd.int .u32))) (d' := (Kd.pair (Kd.int .i64) (Kd.pair (Kd.slice 2 (Kd.int .i64)) (Kd.pair (Kd.slice 75 k75) (Kd.slice 68 k68))))) (wf := (fun p : List Int => p.length ≤ 9223372036854775807 ∧ p.length * 4 ≤ 140737488351232 ∧ ∀ y ∈ p, (Lit.int .u32 y).wf = true)) (wf' := (fun p : (Int) × (List Int) × (List (S75)) × (List (S68)) => ((Lit.int .i64 p.1).wf = true) ∧ (p.2.1.length ≤ 9223372036854775807 ∧ p.2.1.length * 8 ≤ 140737488351232 ∧ ∀ y ∈ p.2.1, (Lit.int .i64 y).wf = true) ∧ (p.2.2.1.length ≤ 9223372036854775807 ∧ p.2.2.1.length * 32 ≤ 140737488351232 ∧ ∀ y ∈ p.2.2.1, wf75 y) ∧ (p.2.2.2.length ≤ 9223372036854775807 ∧ p.2.2.2.length * 16 ≤ 140737488351232 ∧ ∀ y ∈ p.2.2.2, wf68 y))) rfl opn22 ?_
  refine OpensF.cons (d := (Kd.int .i64)) (d' := (Kd.pair (Kd.slice 2 (Kd.int .i64)) (Kd.pair (Kd.slice 75 k75) (Kd.slice 68 k68)))) (wf := (fun p : Int => (Lit.int .i64 p).wf = true)) (wf' := (fun p : (List Int) × (List (S75)) × (List (S68)) => (p.1.length ≤ 9223372036854775807 ∧ p.1.length * 8 ≤ 140737488351232 ∧ ∀ y ∈ p.1, (Lit.int .i64 y).wf = true) ∧ (p.2.1.length ≤ 9223372036854775807 ∧ p.2.1.length * 32 ≤ 140737488351232 ∧ ∀ y ∈ p.2.1, wf75 y) ∧ (p.2.2.length ≤ 9223372036854775807 ∧ p.2.2.length * 16 ≤ 140737488351232 ∧ ∀ y ∈ p.2.2, wf68 y))) rfl opn3 ?_
  refine OpensF.cons (d := (Kd.slice 2 (Kd.int .i64))) (d' := (Kd.pair (Kd.slice 75 k75) (Kd.slice 68 k68))) (wf := (fun p : List Int => p.length ≤ 9223372036854775807 ∧ p.length * 8 ≤ 140737488351232 ∧ ∀ y ∈ p, (Lit.int .i64 y).wf = true)) (wf' := (fun p : (List (S75)) × (List (S68)) => (p.1.length ≤ 9223372036854775807 ∧ p.1.length * 32 ≤ 140737488351232 ∧ ∀ y ∈ p.1, wf75 y) ∧ (p.2.length ≤ 9223372036854775807 ∧ p.2.length * 16 ≤ 140737488351232 ∧ ∀ y ∈ p.2, wf68 y))) rfl opn23 ?_
  refine OpensF.cons (d := (Kd.slice 75 k75)) (d' := (Kd.slice 68 k68)) (wf := (fun p : List (S75) => p.length ≤ 9223372036854775807 ∧ p.length * 32 ≤ 140737488351232 ∧ ∀ y ∈ p, wf75 y)) (wf' := (fun p : (List (S68)) => (p.length ≤ 9223372036854775807 ∧ p.length * 16 ≤ 140737488351232 ∧ ∀ y ∈ p, wf68 y))) rfl opn24 ?_
  exact OpensF.one rfl opn25
theorem opn5 : Opens Tryd.prog 5 (Kd.int .u8) (fun n => (Lit.int .u8 n).wf = true) := Opens.int (by kernel_rfl) Tryd.underlying5
theorem opn28 : Opens Tryd.prog 28 (Kd.slice 5 (Kd.int .u8)) (fun l => l.length ≤ 9223372036854775807 ∧ l.length * 1 ≤ 140737488351232 ∧ ∀ y ∈ l, (Lit.int .u8 y).wf = true) := Opens.slice (by kernel_rfl) Tryd.underlying28 (by kernel_rfl) opn5
end Go.Proofs.YtiaohbbafaaibabDoor.P
