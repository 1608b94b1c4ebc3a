/- OWN TEXT: what isa.Aim and the reference's Aim come to, in the print's own form. -/
import Derived.Test.YtiaohbbafaaibaaP12
import Derived.Test.YtiaohbbafaaibaaIsaL
import Derived.Test.YtiaohbbafaaibaaHArr
namespace Go.Proofs.Ytiaohbbafaaibaa.P
open Go.RowKit Go.Proofs.YtiaohbbafaaibaaW.PrintWords Go.Proofs.YtiaohbbafaaibaaW.PrintLast Go.Proofs.YtiaohbbafaaibaaW.PrintMore Go.Proofs.Ytiaohbbafaaibaa.Arr
set_option linter.unusedVariables false
set_option linter.unusedSimpArgs false

theorem arr5_one (a b c d e : Int) : ((#[.int .i8 a, .int .i8 b, .int .i8 c, .int .i8 d, .int .i64 e] : Array Value).all fun v => v.oneCell') = true := by kernel_rfl
theorem aim_size2 (W : World) : (sizeOf 2).run Try.prog W = .ok 1 W := by kernel_rfl
def aimS (w p : Int) : Int × Int := if (tgtS w).2 = true then (if p < 0 then (0, 11) else if p ≥ 16384 then (0, 11) else encS (decS w).1 (decS w).2.1 (decS w).2.2.1 (decS w).2.2.2.1 p) else (0, 10)

def isa_Aim.f (a0 a1 : Int) : Option (Int × Int) := if 0 ≤ a0 then (if a0 < 4294967296 then (some (aimS a0 a1)) else (none)) else (none)
set_option maxHeartbeats 4000000 in
set_option maxRecDepth 100000 in
theorem isa_Aim.calls (a0 a1 : Int) (r1 r2 : Int) (w : World) (h : isa_Aim.f a0 a1 = some (r1, r2)) :
    Calls Try.prog 35 #[.int .u32 a0, .int .i64 a1] w fun e w' => e = .returned (.tuple #[.int .u32 r1, .int .i64 r2]) ∧ Below w.heap.size w w' := by
  unfold isa_Aim.f at h
  by_cases w0 : 0 ≤ a0
  · rw [if_pos w0] at h
    by_cases w1 : a0 < 4294967296
    · rw [if_pos w1] at h
      have h := Option.some.inj h
      obtain ⟨k1, HT⟩ := Ev.rounds (tgt1 w0 w1)
      obtain ⟨k2, HD⟩ := Ev.rounds (dec1 w0 w1)
      replace HT := Aside0.mk HT
      replace HD := Aside0.mk HD
      generalize ht : tgtS a0 = t at HT
      generalize hd : decS a0 = i at HD
      obtain ⟨t1, t2⟩ := t
      obtain ⟨i0, i1, i2, i3, i4⟩ := i
      have HBx := Aside0.mk (Below.refl w.heap.size w)
      unfold aimS at h
      rw [ht, hd] at h
      clear ht hd
      by_cases c1 : t2 = true
      · subst c1
        have h2 : (if a1 < 0 then ((0 : Int), (11 : Int)) else if a1 ≥ 16384 then (0, 11) else encS i0 i1 i2 i3 a1) = (r1, r2) := by rw [if_pos rfl] at h; exact h
        clear h
        by_cases c2 : a1 < 0
        · rw [if_pos c2] at h2
          injection h2 with e1 e2
          subst e1 e2
          have HB := HBx
          clear HBx
          go_enter Try.func35, Try.ntmps35
          go_wp2_with (first | (go_at_call 25; refine (isa_Target.calls k1 a0 t1 _ _ HT.out).mono ?_; rintro e w1 ⟨rfl, hb⟩; have HBn := Aside0.mk (below_then HB.out HB.out.size hb); clear HB hb; have HB := HBn; clear HBn) | (go_at_call 24; refine (isa_Decode.calls k2 a0 i0 i1 i2 i3 i4 _ HD.out).mono ?_; rintro e w2 ⟨rfl, hb⟩; have HBn := Aside0.mk (below_then HB.out HB.out.size hb); clear HB hb; have HB := HBn; clear HBn) | ((with_reducible refine gate_dst (N := 8) rfl ?_); refine box_event ?hg (N := 8) ?hd (cs := #[.int .i8 0, .int .i8 0, .int .i8 0, .int .i8 0, .int .i64 0]) (t := 36) ?hr ?_; (case hd => rfl); (case hg => rfl); (case hr => first | (go_simp; done) | (go_simp; rfl)); intro g0 hge0 w3 BK0 hb; have GE0 := Aside0.mk (show w.heap.size ≤ g0 by have := HB.out.size; omega); have BK := Aside0.mk BK0; clear BK0 hge0; have HBn := Aside0.mk (below_then HB.out HB.out.size hb); clear HB hb; have HB := HBn; clear HBn) | ((with_reducible refine gate_store (t := 36) rfl ?_); refine wpList_store_whole rfl rfl rfl g0 _ #[.int .i8 i0, .int .i8 i1, .int .i8 i2, .int .i8 i3, .int .i64 i4] _ rfl (by rfl) BK.out (by kernel_rfl) (by rfl) (arr5_one _ _ _ _ _) ?_; intro w4 hp; have hb := hp.below HB.out GE0.out; have BKn := Aside0.mk hp.blk; clear HB BK hp; have HB := Aside0.mk hb; have BK := BKn; clear hb BKn) | ((with_reducible refine gate_store (t := 2) rfl ?_); refine wpList_store_arr rfl rfl rfl g0 4 _ _ (.int .i64 a1) (by rfl) (by rfl) rfl rfl (aim_size2 _) BK.out (show 4 < 5 by decide) ?_; intro w5 hp; have hb := hp.below HB.out GE0.out; have BKn := Aside0.mk (show w5.heap[g0]? = some (.cells #[.int .i8 i0, .int .i8 i1, .int .i8 i2, .int .i8 i3, .int .i64 a1] 36 (0, 0)) from hp.blk); clear HB BK hp; have HB := Aside0.mk hb; have BK := BKn; clear hb BKn) | ((with_reducible refine gate_dst (N := 26) rfl ?_); refine wpList_load_row rfl 36 _ rfl g0 rfl 36 #[.int .i8 i0, .int .i8 i1, .int .i8 i2, .int .i8 i3, .int .i64 a1] (0, 0) _ BK.out Try.underlying36 rfl (by kernel_rfl) ?_) | (go_at_call 32; refine (isa_Encode.calls i0 i1 i2 i3 a1 r1 r2 _ HE2.out).mono ?_; rintro e w6 ⟨rfl, hb⟩; have HBn := Aside0.mk (below_then HB.out HB.out.size hb); clear HB hb; have HB := HBn; clear HBn))
          go_ret2
          exact ⟨rfl, HB.out⟩
        rw [if_neg c2] at h2
        by_cases c3 : a1 ≥ 16384
        · rw [if_pos c3] at h2
          injection h2 with e1 e2
          subst e1 e2
          have HB := HBx
          clear HBx
          go_enter Try.func35, Try.ntmps35
          go_wp2_with (first | (go_at_call 25; refine (isa_Target.calls k1 a0 t1 _ _ HT.out).mono ?_; rintro e w1 ⟨rfl, hb⟩; have HBn := Aside0.mk (below_then HB.out HB.out.size hb); clear HB hb; have HB := HBn; clear HBn) | (go_at_call 24; refine (isa_Decode.calls k2 a0 i0 i1 i2 i3 i4 _ HD.out).mono ?_; rintro e w2 ⟨rfl, hb⟩; have HBn := Aside0.mk (below_then HB.out HB.out.size hb); clear HB hb; have HB := HBn; clear HBn) | ((with_reducible refine gate_dst (N := 8) rfl ?_); refine box_event ?hg (N := 8) ?hd (cs := #[.int .i8 0, .int .i8 0, .int .i8 0, .int .i8 0, .int .i64 0]) (t := 36) ?hr ?_; (case hd => rfl); (case hg => rfl); (case hr => first | (go_simp; done) | (go_simp; rfl)); intro g0 hge0 w3 BK0 hb; have GE0 := Aside0.mk (show w.heap.size ≤ g0 by have := HB.out.size; omega); have BK := Aside0.mk BK0; clear BK0 hge0; have HBn := Aside0.mk (below_then HB.out HB.out.size hb); clear HB hb; have HB := HBn; clear HBn) | ((with_reducible refine gate_store (t := 36) rfl ?_); refine wpList_store_whole rfl rfl rfl g0 _ #[.int .i8 i0, .int .i8 i1, .int .i8 i2, .int .i8 i3, .int .i64 i4] _ rfl (by rfl) BK.out (by kernel_rfl) (by rfl) (arr5_one _ _ _ _ _) ?_; intro w4 hp; have hb := hp.below HB.out GE0.out; have BKn := Aside0.mk hp.blk; clear HB BK hp; have HB := Aside0.mk hb; have BK := BKn; clear hb BKn) | ((with_reducible refine gate_store (t := 2) rfl ?_); refine wpList_store_arr rfl rfl rfl g0 4 _ _ (.int .i64 a1) (by rfl) (by rfl) rfl rfl (aim_size2 _) BK.out (show 4 < 5 by decide) ?_; intro w5 hp; have hb := hp.below HB.out GE0.out; have BKn := Aside0.mk (show w5.heap[g0]? = some (.cells #[.int .i8 i0, .int .i8 i1, .int .i8 i2, .int .i8 i3, .int .i64 a1] 36 (0, 0)) from hp.blk); clear HB BK hp; have HB := Aside0.mk hb; have BK := BKn; clear hb BKn) | ((with_reducible refine gate_dst (N := 26) rfl ?_); refine wpList_load_row rfl 36 _ rfl g0 rfl 36 #[.int .i8 i0, .int .i8 i1, .int .i8 i2, .int .i8 i3, .int .i64 a1] (0, 0) _ BK.out Try.underlying36 rfl (by kernel_rfl) ?_) | (go_at_call 32; refine (isa_Encode.calls i0 i1 i2 i3 a1 r1 r2 _ HE2.out).mono ?_; rintro e w6 ⟨rfl, hb⟩; have HBn := Aside0.mk (below_then HB.out HB.out.size hb); clear HB hb; have HB := HBn; clear HBn))
          go_ret2
          exact ⟨rfl, HB.out⟩
        rw [if_neg c3] at h2
        have HE := Aside0.mk h2
        clear h2
        have HE2 := Aside0.mk (show isa_Encode.f i0 i1 i2 i3 a1 = some (r1, r2) by rw [enc1, HE.out])
        have HB := HBx
        clear HBx
        go_enter Try.func35, Try.ntmps35
        go_wp2_with (first | (go_at_call 25; refine (isa_Target.calls k1 a0 t1 _ _ HT.out).mono ?_; rintro e w1 ⟨rfl, hb⟩; have HBn := Aside0.mk (below_then HB.out HB.out.size hb); clear HB hb; have HB := HBn; clear HBn) | (go_at_call 24; refine (isa_Decode.calls k2 a0 i0 i1 i2 i3 i4 _ HD.out).mono ?_; rintro e w2 ⟨rfl, hb⟩; have HBn := Aside0.mk (below_then HB.out HB.out.size hb); clear HB hb; have HB := HBn; clear HBn) | ((with_reducible refine gate_dst (N := 8) rfl ?_); refine box_event ?hg (N := 8) ?hd (cs := #[.int .i8 0, .int .i8 0, .int .i8 0, .int .i8 0, .int .i64 0]) (t := 36) ?hr ?_; (case hd => rfl); (case hg => rfl); (case hr => first | (go_simp; done) | (go_simp; rfl)); intro g0 hge0 w3 BK0 hb; have GE0 := Aside0.mk (show w.heap.size ≤ g0 by have := HB.out.size; omega); have BK := Aside0.mk BK0; clear BK0 hge0; have HBn := Aside0.mk (below_then HB.out HB.out.size hb); clear HB hb; have HB := HBn; clear HBn) | ((with_reducible refine gate_store (t := 36) rfl ?_); refine wpList_store_whole rfl rfl rfl g0 _ #[.int .i8 i0, .int .i8 i1, .int .i8 i2, .int .i8 i3, .int .i64 i4] _ rfl (by rfl) BK.out (by kernel_rfl) (by rfl) (arr5_one _ _ _ _ _) ?_; intro w4 hp; have hb := hp.below HB.out GE0.out; have BKn := Aside0.mk hp.blk; clear HB BK hp; have HB := Aside0.mk hb; have BK := BKn; clear hb BKn) | ((with_reducible refine gate_store (t := 2) rfl ?_); refine wpList_store_arr rfl rfl rfl g0 4 _ _ (.int .i64 a1) (by rfl) (by rfl) rfl rfl (aim_size2 _) BK.out (show 4 < 5 by decide) ?_; intro w5 hp; have hb := hp.below HB.out GE0.out; have BKn := Aside0.mk (show w5.heap[g0]? = some (.cells #[.int .i8 i0, .int .i8 i1, .int .i8 i2, .int .i8 i3, .int .i64 a1] 36 (0, 0)) from hp.blk); clear HB BK hp; have HB := Aside0.mk hb; have BK := BKn; clear hb BKn) | ((with_reducible refine gate_dst (N := 26) rfl ?_); refine wpList_load_row rfl 36 _ rfl g0 rfl 36 #[.int .i8 i0, .int .i8 i1, .int .i8 i2, .int .i8 i3, .int .i64 a1] (0, 0) _ BK.out Try.underlying36 rfl (by kernel_rfl) ?_) | (go_at_call 32; refine (isa_Encode.calls i0 i1 i2 i3 a1 r1 r2 _ HE2.out).mono ?_; rintro e w6 ⟨rfl, hb⟩; have HBn := Aside0.mk (below_then HB.out HB.out.size hb); clear HB hb; have HB := HBn; clear HBn))
        go_ret2
        exact ⟨rfl, HB.out⟩
      · have c1 : t2 = false := by simpa using c1
        subst c1
        have h2 : ((0 : Int), (10 : Int)) = (r1, r2) := by rw [if_neg (show ¬ ((t1, false).2 = true) from Bool.false_ne_true)] at h; exact h
        injection h2 with e1 e2
        subst e1 e2
        clear h
        have HB := HBx
        clear HBx
        go_enter Try.func35, Try.ntmps35
        go_wp2_with (first | (go_at_call 25; refine (isa_Target.calls k1 a0 t1 _ _ HT.out).mono ?_; rintro e w1 ⟨rfl, hb⟩; have HBn := Aside0.mk (below_then HB.out HB.out.size hb); clear HB hb; have HB := HBn; clear HBn) | (go_at_call 24; refine (isa_Decode.calls k2 a0 i0 i1 i2 i3 i4 _ HD.out).mono ?_; rintro e w2 ⟨rfl, hb⟩; have HBn := Aside0.mk (below_then HB.out HB.out.size hb); clear HB hb; have HB := HBn; clear HBn) | ((with_reducible refine gate_dst (N := 8) rfl ?_); refine box_event ?hg (N := 8) ?hd (cs := #[.int .i8 0, .int .i8 0, .int .i8 0, .int .i8 0, .int .i64 0]) (t := 36) ?hr ?_; (case hd => rfl); (case hg => rfl); (case hr => first | (go_simp; done) | (go_simp; rfl)); intro g0 hge0 w3 BK0 hb; have GE0 := Aside0.mk (show w.heap.size ≤ g0 by have := HB.out.size; omega); have BK := Aside0.mk BK0; clear BK0 hge0; have HBn := Aside0.mk (below_then HB.out HB.out.size hb); clear HB hb; have HB := HBn; clear HBn) | ((with_reducible refine gate_store (t := 36) rfl ?_); refine wpList_store_whole rfl rfl rfl g0 _ #[.int .i8 i0, .int .i8 i1, .int .i8 i2, .int .i8 i3, .int .i64 i4] _ rfl (by rfl) BK.out (by kernel_rfl) (by rfl) (arr5_one _ _ _ _ _) ?_; intro w4 hp; have hb := hp.below HB.out GE0.out; have BKn := Aside0.mk hp.blk; clear HB BK hp; have HB := Aside0.mk hb; have BK := BKn; clear hb BKn) | ((with_reducible refine gate_store (t := 2) rfl ?_); refine wpList_store_arr rfl rfl rfl g0 4 _ _ (.int .i64 a1) (by rfl) (by rfl) rfl rfl (aim_size2 _) BK.out (show 4 < 5 by decide) ?_; intro w5 hp; have hb := hp.below HB.out GE0.out; have BKn := Aside0.mk (show w5.heap[g0]? = some (.cells #[.int .i8 i0, .int .i8 i1, .int .i8 i2, .int .i8 i3, .int .i64 a1] 36 (0, 0)) from hp.blk); clear HB BK hp; have HB := Aside0.mk hb; have BK := BKn; clear hb BKn) | ((with_reducible refine gate_dst (N := 26) rfl ?_); refine wpList_load_row rfl 36 _ rfl g0 rfl 36 #[.int .i8 i0, .int .i8 i1, .int .i8 i2, .int .i8 i3, .int .i64 a1] (0, 0) _ BK.out Try.underlying36 rfl (by kernel_rfl) ?_) | (go_at_call 32; refine (isa_Encode.calls i0 i1 i2 i3 a1 r1 r2 _ HE2.out).mono ?_; rintro e w6 ⟨rfl, hb⟩; have HBn := Aside0.mk (below_then HB.out HB.out.size hb); clear HB hb; have HB := HBn; clear HBn))
        go_ret2
        exact ⟨rfl, HB.out⟩
    · rw [if_neg w1] at h; cases h
  · rw [if_neg w0] at h; cases h

def pleatref02_Aim.f (a0 a1 : Int) : Option (Int × Int) := if 0 ≤ a0 then (if a0 < 4294967296 then (some (aimS a0 a1)) else (none)) else (none)
set_option maxHeartbeats 4000000 in
set_option maxRecDepth 100000 in
theorem pleatref02_Aim.calls (a0 a1 : Int) (r1 r2 : Int) (w : World) (h : pleatref02_Aim.f a0 a1 = some (r1, r2)) :
    Calls Try.prog 36 #[.int .u32 a0, .int .i64 a1] w fun e w' => e = .returned (.tuple #[.int .u32 r1, .int .i64 r2]) ∧ Below w.heap.size w w' := by
  unfold pleatref02_Aim.f at h
  by_cases w0 : 0 ≤ a0
  · rw [if_pos w0] at h
    by_cases w1 : a0 < 4294967296
    · rw [if_pos w1] at h
      have h := Option.some.inj h
      obtain ⟨k1, HT⟩ := Ev.rounds (tgt2 w0 w1)
      obtain ⟨k2, HD⟩ := Ev.rounds (dec2 w0 w1)
      replace HT := Aside0.mk HT
      replace HD := Aside0.mk HD
      generalize ht : tgtS a0 = t at HT
      generalize hd : decS a0 = i at HD
      obtain ⟨t1, t2⟩ := t
      obtain ⟨i0, i1, i2, i3, i4⟩ := i
      have HBx := Aside0.mk (Below.refl w.heap.size w)
      unfold aimS at h
      rw [ht, hd] at h
      clear ht hd
      by_cases c1 : t2 = true
      · subst c1
        have h2 : (if a1 < 0 then ((0 : Int), (11 : Int)) else if a1 ≥ 16384 then (0, 11) else encS i0 i1 i2 i3 a1) = (r1, r2) := by rw [if_pos rfl] at h; exact h
        clear h
        by_cases c2 : a1 < 0
        · rw [if_pos c2] at h2
          injection h2 with e1 e2
          subst e1 e2
          have HB := HBx
          clear HBx
          go_enter Try.func36, Try.ntmps36
          go_wp2_with (first | (go_at_call 26; refine (pleatref02_Target.calls k1 a0 t1 _ _ HT.out).mono ?_; rintro e w1 ⟨rfl, hb⟩; have HBn := Aside0.mk (below_then HB.out HB.out.size hb); clear HB hb; have HB := HBn; clear HBn) | (go_at_call 27; refine (pleatref02_Decode.calls k2 a0 i0 i1 i2 i3 i4 _ HD.out).mono ?_; rintro e w2 ⟨rfl, hb⟩; have HBn := Aside0.mk (below_then HB.out HB.out.size hb); clear HB hb; have HB := HBn; clear HBn) | ((with_reducible refine gate_dst (N := 8) rfl ?_); refine box_event ?hg (N := 8) ?hd (cs := #[.int .i8 0, .int .i8 0, .int .i8 0, .int .i8 0, .int .i64 0]) (t := 36) ?hr ?_; (case hd => rfl); (case hg => rfl); (case hr => first | (go_simp; done) | (go_simp; rfl)); intro g0 hge0 w3 BK0 hb; have GE0 := Aside0.mk (show w.heap.size ≤ g0 by have := HB.out.size; omega); have BK := Aside0.mk BK0; clear BK0 hge0; have HBn := Aside0.mk (below_then HB.out HB.out.size hb); clear HB hb; have HB := HBn; clear HBn) | ((with_reducible refine gate_store (t := 36) rfl ?_); refine wpList_store_whole rfl rfl rfl g0 _ #[.int .i8 i0, .int .i8 i1, .int .i8 i2, .int .i8 i3, .int .i64 i4] _ rfl (by rfl) BK.out (by kernel_rfl) (by rfl) (arr5_one _ _ _ _ _) ?_; intro w4 hp; have hb := hp.below HB.out GE0.out; have BKn := Aside0.mk hp.blk; clear HB BK hp; have HB := Aside0.mk hb; have BK := BKn; clear hb BKn) | ((with_reducible refine gate_store (t := 2) rfl ?_); refine wpList_store_arr rfl rfl rfl g0 4 _ _ (.int .i64 a1) (by rfl) (by rfl) rfl rfl (aim_size2 _) BK.out (show 4 < 5 by decide) ?_; intro w5 hp; have hb := hp.below HB.out GE0.out; have BKn := Aside0.mk (show w5.heap[g0]? = some (.cells #[.int .i8 i0, .int .i8 i1, .int .i8 i2, .int .i8 i3, .int .i64 a1] 36 (0, 0)) from hp.blk); clear HB BK hp; have HB := Aside0.mk hb; have BK := BKn; clear hb BKn) | ((with_reducible refine gate_dst (N := 26) rfl ?_); refine wpList_load_row rfl 36 _ rfl g0 rfl 36 #[.int .i8 i0, .int .i8 i1, .int .i8 i2, .int .i8 i3, .int .i64 a1] (0, 0) _ BK.out Try.underlying36 rfl (by kernel_rfl) ?_) | (go_at_call 34; refine (pleatref02_Encode.calls k3 i0 i1 i2 i3 a1 r1 r2 _ HE2.out).mono ?_; rintro e w6 ⟨rfl, hb⟩; have HBn := Aside0.mk (below_then HB.out HB.out.size hb); clear HB hb; have HB := HBn; clear HBn))
          go_ret2
          exact ⟨rfl, HB.out⟩
        rw [if_neg c2] at h2
        by_cases c3 : a1 ≥ 16384
        · rw [if_pos c3] at h2
          injection h2 with e1 e2
          subst e1 e2
          have HB := HBx
          clear HBx
          go_enter Try.func36, Try.ntmps36
          go_wp2_with (first | (go_at_call 26; refine (pleatref02_Target.calls k1 a0 t1 _ _ HT.out).mono ?_; rintro e w1 ⟨rfl, hb⟩; have HBn := Aside0.mk (below_then HB.out HB.out.size hb); clear HB hb; have HB := HBn; clear HBn) | (go_at_call 27; refine (pleatref02_Decode.calls k2 a0 i0 i1 i2 i3 i4 _ HD.out).mono ?_; rintro e w2 ⟨rfl, hb⟩; have HBn := Aside0.mk (below_then HB.out HB.out.size hb); clear HB hb; have HB := HBn; clear HBn) | ((with_reducible refine gate_dst (N := 8) rfl ?_); refine box_event ?hg (N := 8) ?hd (cs := #[.int .i8 0, .int .i8 0, .int .i8 0, .int .i8 0, .int .i64 0]) (t := 36) ?hr ?_; (case hd => rfl); (case hg => rfl); (case hr => first | (go_simp; done) | (go_simp; rfl)); intro g0 hge0 w3 BK0 hb; have GE0 := Aside0.mk (show w.heap.size ≤ g0 by have := HB.out.size; omega); have BK := Aside0.mk BK0; clear BK0 hge0; have HBn := Aside0.mk (below_then HB.out HB.out.size hb); clear HB hb; have HB := HBn; clear HBn) | ((with_reducible refine gate_store (t := 36) rfl ?_); refine wpList_store_whole rfl rfl rfl g0 _ #[.int .i8 i0, .int .i8 i1, .int .i8 i2, .int .i8 i3, .int .i64 i4] _ rfl (by rfl) BK.out (by kernel_rfl) (by rfl) (arr5_one _ _ _ _ _) ?_; intro w4 hp; have hb := hp.below HB.out GE0.out; have BKn := Aside0.mk hp.blk; clear HB BK hp; have HB := Aside0.mk hb; have BK := BKn; clear hb BKn) | ((with_reducible refine gate_store (t := 2) rfl ?_); refine wpList_store_arr rfl rfl rfl g0 4 _ _ (.int .i64 a1) (by rfl) (by rfl) rfl rfl (aim_size2 _) BK.out (show 4 < 5 by decide) ?_; intro w5 hp; have hb := hp.below HB.out GE0.out; have BKn := Aside0.mk (show w5.heap[g0]? = some (.cells #[.int .i8 i0, .int .i8 i1, .int .i8 i2, .int .i8 i3, .int .i64 a1] 36 (0, 0)) from hp.blk); clear HB BK hp; have HB := Aside0.mk hb; have BK := BKn; clear hb BKn) | ((with_reducible refine gate_dst (N := 26) rfl ?_); refine wpList_load_row rfl 36 _ rfl g0 rfl 36 #[.int .i8 i0, .int .i8 i1, .int .i8 i2, .int .i8 i3, .int .i64 a1] (0, 0) _ BK.out Try.underlying36 rfl (by kernel_rfl) ?_) | (go_at_call 34; refine (pleatref02_Encode.calls k3 i0 i1 i2 i3 a1 r1 r2 _ HE2.out).mono ?_; rintro e w6 ⟨rfl, hb⟩; have HBn := Aside0.mk (below_then HB.out HB.out.size hb); clear HB hb; have HB := HBn; clear HBn))
          go_ret2
          exact ⟨rfl, HB.out⟩
        rw [if_neg c3] at h2
        have HE := Aside0.mk h2
        clear h2
        obtain ⟨k3, HE1⟩ := Ev.rounds (enc2 i0 i1 i2 i3 a1)
        have HE2 := Aside0.mk (show pleatref02_Encode.f k3 i0 i1 i2 i3 a1 = some (r1, r2) by rw [HE1, HE.out])
        clear HE1
        have HB := HBx
        clear HBx
        go_enter Try.func36, Try.ntmps36
        go_wp2_with (first | (go_at_call 26; refine (pleatref02_Target.calls k1 a0 t1 _ _ HT.out).mono ?_; rintro e w1 ⟨rfl, hb⟩; have HBn := Aside0.mk (below_then HB.out HB.out.size hb); clear HB hb; have HB := HBn; clear HBn) | (go_at_call 27; refine (pleatref02_Decode.calls k2 a0 i0 i1 i2 i3 i4 _ HD.out).mono ?_; rintro e w2 ⟨rfl, hb⟩; have HBn := Aside0.mk (below_then HB.out HB.out.size hb); clear HB hb; have HB := HBn; clear HBn) | ((with_reducible refine gate_dst (N := 8) rfl ?_); refine box_event ?hg (N := 8) ?hd (cs := #[.int .i8 0, .int .i8 0, .int .i8 0, .int .i8 0, .int .i64 0]) (t := 36) ?hr ?_; (case hd => rfl); (case hg => rfl); (case hr => first | (go_simp; done) | (go_simp; rfl)); intro g0 hge0 w3 BK0 hb; have GE0 := Aside0.mk (show w.heap.size ≤ g0 by have := HB.out.size; omega); have BK := Aside0.mk BK0; clear BK0 hge0; have HBn := Aside0.mk (below_then HB.out HB.out.size hb); clear HB hb; have HB := HBn; clear HBn) | ((with_reducible refine gate_store (t := 36) rfl ?_); refine wpList_store_whole rfl rfl rfl g0 _ #[.int .i8 i0, .int .i8 i1, .int .i8 i2, .int .i8 i3, .int .i64 i4] _ rfl (by rfl) BK.out (by kernel_rfl) (by rfl) (arr5_one _ _ _ _ _) ?_; intro w4 hp; have hb := hp.below HB.out GE0.out; have BKn := Aside0.mk hp.blk; clear HB BK hp; have HB := Aside0.mk hb; have BK := BKn; clear hb BKn) | ((with_reducible refine gate_store (t := 2) rfl ?_); refine wpList_store_arr rfl rfl rfl g0 4 _ _ (.int .i64 a1) (by rfl) (by rfl) rfl rfl (aim_size2 _) BK.out (show 4 < 5 by decide) ?_; intro w5 hp; have hb := hp.below HB.out GE0.out; have BKn := Aside0.mk (show w5.heap[g0]? = some (.cells #[.int .i8 i0, .int .i8 i1, .int .i8 i2, .int .i8 i3, .int .i64 a1] 36 (0, 0)) from hp.blk); clear HB BK hp; have HB := Aside0.mk hb; have BK := BKn; clear hb BKn) | ((with_reducible refine gate_dst (N := 26) rfl ?_); refine wpList_load_row rfl 36 _ rfl g0 rfl 36 #[.int .i8 i0, .int .i8 i1, .int .i8 i2, .int .i8 i3, .int .i64 a1] (0, 0) _ BK.out Try.underlying36 rfl (by kernel_rfl) ?_) | (go_at_call 34; refine (pleatref02_Encode.calls k3 i0 i1 i2 i3 a1 r1 r2 _ HE2.out).mono ?_; rintro e w6 ⟨rfl, hb⟩; have HBn := Aside0.mk (below_then HB.out HB.out.size hb); clear HB hb; have HB := HBn; clear HBn))
        go_ret2
        exact ⟨rfl, HB.out⟩
      · have c1 : t2 = false := by simpa using c1
        subst c1
        have h2 : ((0 : Int), (10 : Int)) = (r1, r2) := by rw [if_neg (show ¬ ((t1, false).2 = true) from Bool.false_ne_true)] at h; exact h
        injection h2 with e1 e2
        subst e1 e2
        clear h
        have HB := HBx
        clear HBx
        go_enter Try.func36, Try.ntmps36
        go_wp2_with (first | (go_at_call 26; refine (pleatref02_Target.calls k1 a0 t1 _ _ HT.out).mono ?_; rintro e w1 ⟨rfl, hb⟩; have HBn := Aside0.mk (below_then HB.out HB.out.size hb); clear HB hb; have HB := HBn; clear HBn) | (go_at_call 27; refine (pleatref02_Decode.calls k2 a0 i0 i1 i2 i3 i4 _ HD.out).mono ?_; rintro e w2 ⟨rfl, hb⟩; have HBn := Aside0.mk (below_then HB.out HB.out.size hb); clear HB hb; have HB := HBn; clear HBn) | ((with_reducible refine gate_dst (N := 8) rfl ?_); refine box_event ?hg (N := 8) ?hd (cs := #[.int .i8 0, .int .i8 0, .int .i8 0, .int .i8 0, .int .i64 0]) (t := 36) ?hr ?_; (case hd => rfl); (case hg => rfl); (case hr => first | (go_simp; done) | (go_simp; rfl)); intro g0 hge0 w3 BK0 hb; have GE0 := Aside0.mk (show w.heap.size ≤ g0 by have := HB.out.size; omega); have BK := Aside0.mk BK0; clear BK0 hge0; have HBn := Aside0.mk (below_then HB.out HB.out.size hb); clear HB hb; have HB := HBn; clear HBn) | ((with_reducible refine gate_store (t := 36) rfl ?_); refine wpList_store_whole rfl rfl rfl g0 _ #[.int .i8 i0, .int .i8 i1, .int .i8 i2, .int .i8 i3, .int .i64 i4] _ rfl (by rfl) BK.out (by kernel_rfl) (by rfl) (arr5_one _ _ _ _ _) ?_; intro w4 hp; have hb := hp.below HB.out GE0.out; have BKn := Aside0.mk hp.blk; clear HB BK hp; have HB := Aside0.mk hb; have BK := BKn; clear hb BKn) | ((with_reducible refine gate_store (t := 2) rfl ?_); refine wpList_store_arr rfl rfl rfl g0 4 _ _ (.int .i64 a1) (by rfl) (by rfl) rfl rfl (aim_size2 _) BK.out (show 4 < 5 by decide) ?_; intro w5 hp; have hb := hp.below HB.out GE0.out; have BKn := Aside0.mk (show w5.heap[g0]? = some (.cells #[.int .i8 i0, .int .i8 i1, .int .i8 i2, .int .i8 i3, .int .i64 a1] 36 (0, 0)) from hp.blk); clear HB BK hp; have HB := Aside0.mk hb; have BK := BKn; clear hb BKn) | ((with_reducible refine gate_dst (N := 26) rfl ?_); refine wpList_load_row rfl 36 _ rfl g0 rfl 36 #[.int .i8 i0, .int .i8 i1, .int .i8 i2, .int .i8 i3, .int .i64 a1] (0, 0) _ BK.out Try.underlying36 rfl (by kernel_rfl) ?_) | (go_at_call 34; refine (pleatref02_Encode.calls k3 i0 i1 i2 i3 a1 r1 r2 _ HE2.out).mono ?_; rintro e w6 ⟨rfl, hb⟩; have HBn := Aside0.mk (below_then HB.out HB.out.size hb); clear HB hb; have HB := HBn; clear HBn))
        go_ret2
        exact ⟨rfl, HB.out⟩
    · rw [if_neg w1] at h; cases h
  · rw [if_neg w0] at h; cases h

end Go.Proofs.Ytiaohbbafaaibaa.P
