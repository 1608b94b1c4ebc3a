/- OWN TEXT and printed parts of this claim, laid together: P7, HLives4, HWid, P9. -/
import Derived.Test.YtiaohbbafaaibabGreatDoorZxM0
import Derived.Test.YtiaohbbafaaibabGreatDoorZxM6
/- What the Go functions named below come to, as plain functions, each with its proof; written by this session's prt.py over the kit's print. -/
namespace Go.Proofs.YtiaohbbafaaibabGreatDoor.P
open Go.RowKit Go.Proofs.YtiaohbbafaaibabGreatDoorW.PrintWords Go.Proofs.YtiaohbbafaaibabGreatDoorW.PrintLast Go.Proofs.YtiaohbbafaaibabGreatDoorW.PrintMore
attribute [local go_sem] max2_int min2_int max_two min_two max_three min_three max_four min_four   -- for this text's walks alone
set_option linter.unusedVariables false
set_option linter.unusedSimpArgs false
/-! ### pleatlaw04_one: function 20 -/
def pleatlaw04_one.f  : Option (ByteArray × List Int × Int × List Int × (List (S65)) × (List (S82))) := some ((⟨#[109, 97, 105, 110]⟩ : ByteArray), (([2818572288] : List Int)), 0, ([] : List Int), ([] : List (S65)), ([] : List (S82)))
set_option maxHeartbeats 8000000 in
set_option maxRecDepth 100000 in
theorem pleatlaw04_one.calls  (r1 : ByteArray) (r2 : List Int) (r3 : Int) (r4 : List Int) (r5 : List (S65)) (r6 : List (S82)) (w : World) (h : pleatlaw04_one.f  = some (r1, r2, r3, r4, r5, r6)) :
  Calls Tryz.prog 20 #[] w fun e w' => ∃ v1_ v3_ v4_ v5_ : Value, e = .returned (.agg #[.string r1, v1_, .int .i64 r3, v3_, v4_, v5_]) ∧ Kd.R (Kd.int .u32) 78 w' w.heap.size (fun _ => True) v1_ r2 ∧ Kd.R (Kd.int .i64) 2 w' w.heap.size (fun _ => True) v3_ r4 ∧ Kd.R k65 65 w' w.heap.size (fun _ => True) v4_ r5 ∧ Kd.R k82 82 w' w.heap.size (fun _ => True) v5_ r6 ∧ Below w.heap.size w w' := by
 have hu27 := Tryz.underlying27
 have HB := Aside0.mk (Below.refl w.heap.size w)
 have H : (some ((⟨#[109, 97, 105, 110]⟩ : ByteArray), (([2818572288] : List Int)), 0, ([] : List Int), ([] : List (S65)), ([] : List (S82)))) = some (r1, r2, r3, r4, r5, r6) := h
 clear h
 obtain ⟨y135, hy135⟩ : ∃ y_ : List Int, y_ = (([2818572288] : List Int)) := ⟨_, rfl⟩
 replace H : (some ((⟨#[109, 97, 105, 110]⟩ : ByteArray), y135, 0, ([] : List Int), ([] : List (S65)), ([] : List (S82)))) = some (r1, r2, r3, r4, r5, r6) := by first | (rw [hy135]; with_reducible exact H) | (have H2_ := (Option.bind_some _ _).symm.trans H; rw [hy135]; with_reducible exact H2_) | (have H2_ := (Option.bind_some _ _).symm.trans H; with_reducible exact H2_) | with_reducible exact H | (rw [hy135]; exact H) | exact H
 have Ny135 := Aside0.mk hy135
 clear hy135
 simp only [Option.some.injEq, Prod.mk.injEq] at H
 obtain ⟨rfl, rfl, rfl, rfl, rfl, rfl⟩ := H
 go_enter Tryz.func20, Tryz.ntmps20
 go_wp2_with (first | ((with_reducible refine gate_dst (N := 0) rfl ?_); refine box_event ?hg (N := 0) ?hd (cs := #[.string (⟨#[]⟩ : ByteArray), .slice none 0 0, .int .i64 0, .slice none 0 0, .slice none 0 0, .slice none 0 0]) (t := 27) ?hr ?_; (case hd => rfl); (case hg => rfl); (case hr => go_simp; try rfl); intro gb134 hg w1 hbox hb; have BK134 := Aside0.mk (hbox); have GW134 := Aside0.mk (gwQ hg HB.out); have GE134 := Aside0.mk (gwQ hg HB.out); replace HB := Aside0.mk (bsQ hb HB.out); clear hb hbox hg) | ((with_reducible refine gate_dst (N := 1) rfl ?_); refine Kd.R_lit (Kd.int .u32) _ 78 ?hg (N := 1) ?hd (xs := ([2818572288] : List Int)) (inner := [.int .u32 2818572288]) (ok := fun _ => True) (okp := fun _ => True) ?hr ?hp (fun _ hk => hk) trivial (Below.refl _ _) (Nat.le_refl _) (by simp) ?_; (case hd => rfl); (case hg => rfl); (case hr => go_simp; try rfl); (case hp => exact (Reps.one (show Kd.M (Kd.int .u32) _ _ _ 2818572288 [.int .u32 2818572288] from rfl) (Reps.none _ _))); intro v136 w2 ho3 hb hg_ hnew_; clear hg_ hnew_; (first | rw [← Ny135.out] at ho3 | (simp only [Int.reduceToNat] at ho3; rw [← Ny135.out] at ho3)); have HO137 := Aside0.mk (Kd.R_lower ho3 (below_size (by repeat with_reducible first | exact HB.out | apply pw_below_drewN | apply below_drew1 | refine below_set ?_ GE134.out))); replace BK134 := Aside0.mk (bbQ hb BK134.out); replace HB := Aside0.mk (bs1Q hb (by repeat with_reducible first | exact HB.out | apply pw_below_drewN | apply below_drew1 | refine below_set ?_ GE134.out)); clear hb ho3; obtain ⟨Ao4, co4, eo4⟩ := Kd.R_slice HO137.out; subst eo4; obtain ⟨hcz5_0, hcz5_1, hcz5_2, hcz5_3, hcz5_4, hcz5_5⟩ := bcQ6 BK134.out; obtain ⟨hfz5_0, hfz5_1, hfz5_2, hfz5_3, hfz5_4, hfz5_5⟩ := fzQ6 BK134.out))
 refine bodyPost_ret (results_cell_row rfl _ _ gb134 27 #[.string (⟨#[109, 97, 105, 110]⟩ : ByteArray), .slice Ao4 y135.length co4, .int .i64 0, .slice none 0 0, .slice none 0 0, .slice none 0 0] (0, 0) _ rfl (by refine blk_put (cs := #[.string (⟨#[109, 97, 105, 110]⟩ : ByteArray), .slice Ao4 y135.length co4, .int .i64 0, .slice none 0 0, .slice none 0 0, .slice none 0 0]) ?_ 5 _ rfl; refine blk_put (cs := #[.string (⟨#[109, 97, 105, 110]⟩ : ByteArray), .slice Ao4 y135.length co4, .int .i64 0, .slice none 0 0, .slice none 0 0, .slice none 0 0]) ?_ 4 _ rfl; refine blk_put (cs := #[.string (⟨#[109, 97, 105, 110]⟩ : ByteArray), .slice Ao4 y135.length co4, .int .i64 0, .slice none 0 0, .slice none 0 0, .slice none 0 0]) ?_ 3 _ rfl; refine blk_put (cs := #[.string (⟨#[109, 97, 105, 110]⟩ : ByteArray), .slice Ao4 y135.length co4, .int .i64 0, .slice none 0 0, .slice none 0 0, .slice none 0 0]) ?_ 2 _ rfl; refine blk_put (cs := #[.string (⟨#[109, 97, 105, 110]⟩ : ByteArray), .slice none 0 0, .int .i64 0, .slice none 0 0, .slice none 0 0, .slice none 0 0]) ?_ 1 _ rfl; refine blk_put (cs := #[.string (⟨#[]⟩ : ByteArray), .slice none 0 0, .int .i64 0, .slice none 0 0, .slice none 0 0, .slice none 0 0]) ?_ 0 _ rfl; exact BK134.out) Tryz.underlying27 rfl (by kernel_rfl)) rfl ?_
 exact ⟨_, _, _, _, by first | rfl | (simp [errW_none, errW_some] <;> rfl) | (simp [*, errW_none, errW_some] <;> rfl), by (with_reducible repeat (first | apply Kd.R_alloc | apply Kd.R_drewN | apply Kd.R_drew)); exact Kd.R_mono (Kd.R_far (p := ⟨gb134, 5, none⟩) (Kd.R_far (p := ⟨gb134, 4, none⟩) (Kd.R_far (p := ⟨gb134, 3, none⟩) (Kd.R_far (p := ⟨gb134, 2, none⟩) (Kd.R_far (p := ⟨gb134, 1, none⟩) (Kd.R_far (p := ⟨gb134, 0, none⟩) (Kd.R_types HO137.out BK134.out (by decide)) (fun _ hk => hk.2) (.string (⟨#[109, 97, 105, 110]⟩ : ByteArray))) (fun _ hk => hk.2) (.slice Ao4 y135.length co4)) (fun _ hk => hk.2) (.int .i64 0)) (fun _ hk => hk.2) (.slice none 0 0)) (fun _ hk => hk.2) (.slice none 0 0)) (fun _ hk => hk.2) (.slice none 0 0)) (fun _ hk => trivial), by first | exact Kd.R_nil _ _ _ _ _ | exact Kd.N_nil _ _ _ _ _ | exact Kd.V_nil _ _ _ _ _ | exact Kd.Q_nil _ _ _ _ _ | exact Kd.S_nil _ _ _ _ _, by first | exact Kd.R_nil _ _ _ _ _ | exact Kd.N_nil _ _ _ _ _ | exact Kd.V_nil _ _ _ _ _ | exact Kd.Q_nil _ _ _ _ _ | exact Kd.S_nil _ _ _ _ _, by first | exact Kd.R_nil _ _ _ _ _ | exact Kd.N_nil _ _ _ _ _ | exact Kd.V_nil _ _ _ _ _ | exact Kd.Q_nil _ _ _ _ _ | exact Kd.S_nil _ _ _ _ _, by repeat with_reducible first | exact HB.out | apply pw_below_drewN | apply below_drew1 | refine below_set ?_ GE134.out⟩
end Go.Proofs.YtiaohbbafaaibabGreatDoor.P

/- OWN TEXT: the small known run that the laws of wire ask of the program, walked: it answers true. -/
namespace Go.Proofs.YtiaohbbafaaibabGreatDoor.P
open Go.RowKit Go.Maps Go.Proofs.YtiaohbbafaaibabGreatDoorW.PrintWords Go.Proofs.YtiaohbbafaaibabGreatDoorW.PrintLast Go.Proofs.YtiaohbbafaaibabGreatDoorW.PrintMore Go.Proofs.YtiaohbbafaaibabGreatDoor.Arr Go.Proofs.YtiaohbbafaaibabGreatDoor.MapB
set_option linter.unusedVariables false
set_option linter.unusedSimpArgs false
def oneN : ByteArray := ⟨#[109, 97, 105, 110]⟩
def oneC : List Int := [2818572288]
def oneD : List Int := []
def oneS : List Sym := []
def oneR : List Rel := []
def oneB : List Int := writeB oneN oneC 0 oneD oneS oneR
theorem one_f : pleatlaw04_one.f = some (oneN, oneC, 0, oneD, oneS, oneR) := by kernel_rfl
theorem one_chk : object_Check.f oneN oneC 0 oneD oneS oneR = some (0, 0) := by kernel_rfl
theorem one_chkO : (chkO oneN oneC 0 oneD oneS oneR).1 = 0 := by kernel_rfl
theorem zero_chk : object_Check.f ⟨#[]⟩ [] 0 [] [] [] = some (20, -1) := by kernel_rfl
theorem one_ok : WOk oneN oneC 0 oneD oneS oneR := ⟨by decide, by decide, fun i hi => by
  obtain rfl : i = 0 := by have : oneC.length = 1 := rfl; omega
  exact ⟨by decide, by decide⟩, ⟨by decide, by decide⟩, by decide, by decide, fun i hi => absurd hi (Nat.not_lt_zero i), by decide, fun i hi => absurd hi (Nat.not_lt_zero i)⟩
theorem one_read : readC oneB = (0, 0) ∧ ∃ s, ra5 oneB = ⟨oneN, oneC, 0, oneD, oneS, oneR, s⟩ := written_read oneN oneC 0 oneD oneS oneR one_ok (by decide) (fun x hx => by cases hx) one_chkO
theorem oneB_len : ((oneB.length : Int) == 40) = true := by kernel_rfl
theorem oneB_long : oneB.length ≤ 1099511627776 := by
 have h : oneB.length = 40 := by kernel_rfl
 omega
theorem oneB_by : ∀ x ∈ oneB, 0 ≤ x ∧ x < 256 := by
 intro x hx
 have h : (oneB.all fun x => decide (0 ≤ x) && decide (x < 256)) = true := by kernel_rfl
 have := List.all_eq_true.1 h x hx
 rw [Bool.and_eq_true, decide_eq_true_eq, decide_eq_true_eq] at this
 exact this
def lives4T : Bool × List (List Nat × List Nat) := (true, [([], []), ([0], [0]), ([1], [1]), ([2], [2]), ([3, 2], [2, 3]), ([2, 4], [2, 4]), ([5, 2], [5]), ([6], [6]), ([7, 6], [6, 7]), ([6, 8], [6, 8]), ([9, 6], [9]), ([10], [10]), ([11, 10], [10, 11]), ([12, 10], [10, 12]), ([10, 13], [10, 13]), ([14, 10], [14]), ([15], [15]), ([15, 15], [15]), ([16, 17, 17, 15], [15, 16, 17]), ([15, 18], [15, 18]), ([19, 18, 0, 1, 2, 3, 4, 5, 6, 7, 8, 9, 10, 11, 12, 13, 14, 15, 16, 17, 18, 19], [19])])
def lives4B : List Nat := [0, 1, 3, 7, 15, 31, 63, 127, 255, 511, 1023, 2047, 4095, 8191, 16383, 32767, 65535, 65535, 262143, 524287, 1048575]
theorem lives4_tab : rtab .any (opsOf Tryz.f6 4) = lives4T := by kernel_rfl
theorem lives4_bits : waitsOk lives4T.2 lives4B = true := by kernel_rfl
set_option maxHeartbeats 8000000 in
set_option maxRecDepth 100000 in
theorem lives4.calls (w : World) (hgl : w.cell? ⟨0, 0, none⟩ = some (.iface 182 (.agg #[.pointer (some ⟨4, 95, none⟩)]))) : Calls Tryz.prog 6 #[] w fun e w' => e = .returned (.bool true) ∧ Below w.heap.size w w' := by
 have hu1 := Tryz.underlying27
 have HB := Aside0.mk (Below.refl w.heap.size w)
 have HGL := Aside0.mk hgl
 have hlen := oneB_len
 clear hgl
 go_enter Tryz.func6, Tryz.ntmps6
 go_wp2_with (first | (go_at_call 20; refine (pleatlaw04_one.calls _ _ _ _ _ _ _ one_f).mono ?_; rintro e_ w1 ⟨v1, v3, v4, v5, rfl, h1, h3, h4, h5, hb⟩; obtain ⟨A1, c1, e1⟩ := Kd.R_slice h1; obtain ⟨A3, c3, e3⟩ := Kd.R_slice h3; obtain ⟨A4, c4, e4⟩ := Kd.R_slice h4; obtain ⟨A5, c5, e5⟩ := Kd.R_slice h5; subst e1 e3 e4 e5; have HO := Aside0.mk (And.intro h1 (And.intro h3 (And.intro h4 h5))); replace HB := Aside0.mk (bsQ hb HB.out); clear hb h1 h3 h4 h5) | (go_at_call 8; refine (write_ok.calls _ _ _ _ _ _ _ _ _ _ _ _ _ _ _ 0 (Kd.R_reads' HO.out.1).2.2 (Kd.R_reads' HO.out.1).2.1 (Kd.R_reads' HO.out.2.1).2.2 (Kd.R_reads' HO.out.2.1).2.1 (Kd.R_reads' HO.out.2.2.1).2.2 (Kd.R_reads' HO.out.2.2.1).2.1 (Kd.R_reads' HO.out.2.2.2).2.2 (Kd.R_reads' HO.out.2.2.2).2.1 one_chk one_ok).mono ?_; rintro e_ w2 ⟨vb, rfl, hr, hb⟩; have hr2 : Kd.R (Kd.int .u8) 5 w2 _ (fun _ => True) vb oneB := hr; obtain ⟨Ab, cb, eb⟩ := Kd.R_slice hr2; subst eb; have HW := Aside0.mk hr2; replace HB := Aside0.mk (bsQ hb HB.out); clear HO hb hr hr2))
 go_wp2_with (first | (go_at_call 16; refine (wread.calls Ab cb oneB _ (Kd.R_reads' HW.out).2.2 (Kd.R_reads' HW.out).2.1 oneB_long oneB_by (pw_cell_below HB.out HGL.out)).mono ?_; rintro e_ w3 ⟨ov, rfl, hb, hok, _⟩; obtain ⟨hr0, s0, hr5⟩ := one_read; obtain ⟨v1, v3, v4, v5, rfl, h1, h3, h4, h5⟩ := hok (by rw [hr0]); rw [hr5] at h1 h3 h4 h5 ⊢; rw [hr0]; obtain ⟨A1, c1, e1⟩ := Kd.R_slice h1; obtain ⟨A3, c3, e3⟩ := Kd.R_slice h3; obtain ⟨A4, c4, e4⟩ := Kd.R_slice h4; obtain ⟨A5, c5, e5⟩ := Kd.R_slice h5; subst e1 e3 e4 e5; have HO := Aside0.mk (And.intro h1 (And.intro h3 (And.intro h4 h5))); replace HB := Aside0.mk (bsQ hb HB.out); clear hb h1 h3 h4 h5 hok hr0 hr5) | ((with_reducible refine gate_dst (N := 3) rfl ?_); refine box_event ?hg (N := 3) ?hd (cs := zObj) (t := 27) ?hr ?_; (case hd => rfl); (case hg => rfl); (case hr => first | (go_simp; done) | (go_simp; rfl)); intro gx hg w4 BK_ hb; replace HO := Aside0.mk (And.intro (Kd.R_below HO.out.1 hb) (And.intro (Kd.R_below HO.out.2.1 hb) (And.intro (Kd.R_below HO.out.2.2.1 hb) (Kd.R_below HO.out.2.2.2 hb)))); have GX := Aside0.mk (gwQ hg HB.out); replace HB := Aside0.mk (bsQ hb HB.out); have BX := Aside0.mk BK_; clear BK_ hb hg) | ((with_reducible refine gate_store (t := 27) rfl ?_); refine wpList_store_whole rfl rfl rfl gx _ #[.string oneN, .slice A1 oneC.length c1, .int .i64 0, .slice A3 oneD.length c3, .slice A4 oneS.length c4, .slice A5 oneR.length c5] _ rfl rfl BX.out (by kernel_rfl) rfl (obj_oneR _ _ _ _ _ _ _ _ _ _ _ _ _ _) ?_; intro w5 hp; replace HO := Aside0.mk (And.intro (Kd.R_grown1 HO.out.1 rfl (put_grownN hp) (Kd.R_ne HO.out.1 BX.out (by decide))) (And.intro (Kd.R_grown1 HO.out.2.1 rfl (put_grownN hp) (Kd.R_ne HO.out.2.1 BX.out (by decide))) (And.intro (Kd.R_grown1 HO.out.2.2.1 rfl (put_grownN hp) (Kd.R_ne HO.out.2.2.1 BX.out (by decide))) (Kd.R_grown1 HO.out.2.2.2 rfl (put_grownN hp) (Kd.R_ne HO.out.2.2.2 BX.out (by decide)))))); replace HB := Aside0.mk (hp.below HB.out GX.out); replace BX := Aside0.mk hp.blk; clear hp))
 go_upto_region 4 with ((go_at_call 8; refine (write_bad.calls ⟨#[]⟩ none 0 [] 0 none 0 [] none 0 [] none 0 [] _ 20 (-1) (Kd.R_reads' (Kd.R_nil _ 0 _ 0 (fun _ => True))).2.2 (Nat.le_refl 0) (Kd.R_reads' (Kd.R_nil _ 0 _ 0 (fun _ => True))).2.2 (Nat.le_refl 0) (Kd.R_reads' (Kd.R_nil _ 0 _ 0 (fun _ => True))).2.2 (Nat.le_refl 0) (Kd.R_reads' (Kd.R_nil _ 0 _ 0 (fun _ => True))).2.2 (Nat.le_refl 0) zero_chk (by decide)).mono ?_; rintro e_ w6 ⟨rfl, hb⟩; replace HO := Aside0.mk (And.intro (Kd.R_below HO.out.1 hb) (And.intro (Kd.R_below HO.out.2.1 hb) (And.intro (Kd.R_below HO.out.2.2.1 hb) (Kd.R_below HO.out.2.2.2 hb)))); replace BX := Aside0.mk (blk_below BX.out hb); replace HB := Aside0.mk (bsQ hb HB.out); clear hb))
 have HBn := Aside0.mk (below_drew1 HB.out)
 have BXn := Aside0.mk (blk_drew BX.out)
 have HOn := Aside0.mk (And.intro (Kd.R_drew HO.out.1) (And.intro (Kd.R_drew HO.out.2.1) (And.intro (Kd.R_drew HO.out.2.2.1) (Kd.R_drew HO.out.2.2.2))))
 clear HB BX HO HW
 have HB := HBn
 have BX := BXn
 have HO := HOn
 clear HBn BXn HOn
 refine start_ (n := 21) (S := fun w' => w'.cell? ⟨gx, 0, none⟩ = some (.string oneN) ∧ w'.cell? ⟨gx, 1, none⟩ = some (.slice A1 oneC.length c1) ∧ w'.cell? ⟨gx, 2, none⟩ = some (.int .i64 0) ∧ w'.cell? ⟨gx, 3, none⟩ = some (.slice A3 oneD.length c3) ∧ w'.cell? ⟨gx, 4, none⟩ = some (.slice A4 oneS.length c4) ∧ w'.cell? ⟨gx, 5, none⟩ = some (.slice A5 oneR.length c5)) (ds := []) #[false, false, false, false, false, false, false, false, false, false, false, false, false, false, false, false, false, false, false, false, false] (by kernel_rfl) rfl rfl ⟨(blk_cell BX.out 0).trans rfl, (blk_cell BX.out 1).trans rfl, (blk_cell BX.out 2).trans rfl, (blk_cell BX.out 3).trans rfl, (blk_cell BX.out 4).trans rfl, (blk_cell BX.out 5).trans rfl⟩ (fun hHeld => ?_)
 refine with_tabW lives4_tab lives4_bits (fun HT_ HW_ => ?_)
 generalize w6.drew = w7 at HO BX HB hHeld ⊢
 refine pure_ (i := 0) (N := some 24) (v := ?_) (a' := ?_) #[true, false, false, false, false, false, false, false, false, false, false, false, false, false, false, false, false, false, false, false, false] rfl rfl (any_of HT_.out (by kernel_rfl)) (fun _ _ _ h => h) (Or.inl ⟨by rfl, ?_⟩) ?_ ?_
 rotate_left
 ·
  intro w'
  go_simp
  with_reducible rfl
 rotate_left
 ·
  simp only [Act.put, List.setIfInBounds_toArray, List.set_cons_zero, List.set_cons_succ, i64_w, i32_w]
  rfl
 refine pure_ (i := 1) (N := some 25) (v := ?_) (a' := ?_) #[true, true, false, false, false, false, false, false, false, false, false, false, false, false, false, false, false, false, false, false, false] rfl rfl (any_of HT_.out (by kernel_rfl)) (fun _ _ _ h => h) (Or.inl ⟨by rfl, ?_⟩) ?_ ?_
 rotate_left
 ·
  intro w'
  go_simp
  with_reducible rfl
 rotate_left
 ·
  simp only [Act.put, List.setIfInBounds_toArray, List.set_cons_zero, List.set_cons_succ, i64_w, i32_w]
  rfl
 refine pure_ (i := 2) (N := some 26) (v := ?_) (a' := ?_) #[true, true, true, false, false, false, false, false, false, false, false, false, false, false, false, false, false, false, false, false, false] rfl rfl (any_of HT_.out (by kernel_rfl)) (fun _ _ _ h => h) (Or.inl ⟨by rfl, ?_⟩) ?_ ?_
 rotate_left
 ·
  intro w'
  go_simp
  with_reducible rfl
 rotate_left
 ·
  simp only [Act.put, List.setIfInBounds_toArray, List.set_cons_zero, List.set_cons_succ, i64_w, i32_w]
  rfl
 refine pure_ (i := 3) (N := some 27) (v := ?_) (a' := ?_) #[true, true, true, true, false, false, false, false, false, false, false, false, false, false, false, false, false, false, false, false, false] rfl rfl (any_of HT_.out (by kernel_rfl)) (fun _ _ _ h => h) (Or.inl ⟨by rfl, ?_⟩) ?_ ?_
 rotate_left
 ·
  intro w'
  go_simp
  with_reducible rfl
 rotate_left
 ·
  simp only [Act.put, List.setIfInBounds_toArray, List.set_cons_zero, List.set_cons_succ, i64_w, i32_w]
  rfl
 refine pure_ (i := 4) (N := some 28) (v := ?_) (a' := ?_) #[true, true, true, true, true, false, false, false, false, false, false, false, false, false, false, false, false, false, false, false, false] rfl rfl (any_of HT_.out (by kernel_rfl)) (fun _ _ _ h => h) (Or.inl ⟨by rfl, ?_⟩) ?_ ?_
 rotate_left
 ·
  intro w'
  go_simp
  with_reducible rfl
 rotate_left
 ·
  simp only [Act.put, List.setIfInBounds_toArray, List.set_cons_zero, List.set_cons_succ, i64_w, i32_w]
  rfl
 refine pure_ (i := 5) (N := some 29) (v := ?_) (a' := ?_) #[true, true, true, true, true, true, false, false, false, false, false, false, false, false, false, false, false, false, false, false, false] rfl rfl (any_of HT_.out (by kernel_rfl)) (fun _ _ _ h => h) (Or.inl ⟨by rfl, ?_⟩) ?_ ?_
 rotate_left
 ·
  intro w'
  go_simp
  with_reducible rfl
 rotate_left
 ·
  simp only [Act.put, List.setIfInBounds_toArray, List.set_cons_zero, List.set_cons_succ, i64_w, i32_w]
  rfl
 refine pure_ (i := 6) (N := some 30) (v := ?_) (a' := ?_) #[true, true, true, true, true, true, true, false, false, false, false, false, false, false, false, false, false, false, false, false, false] rfl rfl (any_of HT_.out (by kernel_rfl)) (fun _ _ _ h => h) (Or.inl ⟨by rfl, ?_⟩) ?_ ?_
 rotate_left
 ·
  intro w'
  go_simp
  with_reducible rfl
 rotate_left
 ·
  simp only [Act.put, List.setIfInBounds_toArray, List.set_cons_zero, List.set_cons_succ, i64_w, i32_w]
  rfl
 refine pure_ (i := 7) (N := some 31) (v := ?_) (a' := ?_) #[true, true, true, true, true, true, true, true, false, false, false, false, false, false, false, false, false, false, false, false, false] rfl rfl (any_of HT_.out (by kernel_rfl)) (fun _ _ _ h => h) (Or.inl ⟨by rfl, ?_⟩) ?_ ?_
 rotate_left
 ·
  intro w'
  go_simp
  with_reducible rfl
 rotate_left
 ·
  simp only [Act.put, List.setIfInBounds_toArray, List.set_cons_zero, List.set_cons_succ, i64_w, i32_w]
  rfl
 refine pure_ (i := 8) (N := some 32) (v := ?_) (a' := ?_) #[true, true, true, true, true, true, true, true, true, false, false, false, false, false, false, false, false, false, false, false, false] rfl rfl (any_of HT_.out (by kernel_rfl)) (fun _ _ _ h => h) (Or.inl ⟨by rfl, ?_⟩) ?_ ?_
 rotate_left
 ·
  intro w'
  go_simp
  with_reducible rfl
 rotate_left
 ·
  simp only [Act.put, List.setIfInBounds_toArray, List.set_cons_zero, List.set_cons_succ, i64_w, i32_w]
  rfl
 refine pure_ (i := 9) (N := some 33) (v := ?_) (a' := ?_) #[true, true, true, true, true, true, true, true, true, true, false, false, false, false, false, false, false, false, false, false, false] rfl rfl (any_of HT_.out (by kernel_rfl)) (fun _ _ _ h => h) (Or.inl ⟨by rfl, ?_⟩) ?_ ?_
 rotate_left
 ·
  intro w'
  go_simp
  with_reducible rfl
 rotate_left
 ·
  simp only [Act.put, List.setIfInBounds_toArray, List.set_cons_zero, List.set_cons_succ, i64_w, i32_w]
  rfl
 refine pure_ (i := 10) (N := some 34) (v := ?_) (a' := ?_) #[true, true, true, true, true, true, true, true, true, true, true, false, false, false, false, false, false, false, false, false, false] rfl rfl (any_of HT_.out (by kernel_rfl)) (fun _ _ _ h => h) (Or.inl ⟨by rfl, ?_⟩) ?_ ?_
 rotate_left
 ·
  intro w'
  go_simp
  with_reducible rfl
 rotate_left
 ·
  simp only [Act.put, List.setIfInBounds_toArray, List.set_cons_zero, List.set_cons_succ, i64_w, i32_w]
  rfl
 refine pure_ (i := 11) (N := some 35) (v := ?_) (a' := ?_) #[true, true, true, true, true, true, true, true, true, true, true, true, false, false, false, false, false, false, false, false, false] rfl rfl (any_of HT_.out (by kernel_rfl)) (fun _ _ _ h => h) (Or.inl ⟨by rfl, ?_⟩) ?_ ?_
 rotate_left
 ·
  intro w'
  go_simp
  with_reducible rfl
 rotate_left
 ·
  simp only [Act.put, List.setIfInBounds_toArray, List.set_cons_zero, List.set_cons_succ, i64_w, i32_w]
  rfl
 refine pure_ (i := 12) (N := some 36) (v := ?_) (a' := ?_) #[true, true, true, true, true, true, true, true, true, true, true, true, true, false, false, false, false, false, false, false, false] rfl rfl (any_of HT_.out (by kernel_rfl)) (fun _ _ _ h => h) (Or.inl ⟨by rfl, ?_⟩) ?_ ?_
 rotate_left
 ·
  intro w'
  go_simp
  with_reducible rfl
 rotate_left
 ·
  simp only [Act.put, List.setIfInBounds_toArray, List.set_cons_zero, List.set_cons_succ, i64_w, i32_w]
  rfl
 refine pure_ (i := 13) (N := some 37) (v := ?_) (a' := ?_) #[true, true, true, true, true, true, true, true, true, true, true, true, true, true, false, false, false, false, false, false, false] rfl rfl (any_of HT_.out (by kernel_rfl)) (fun _ _ _ h => h) (Or.inl ⟨by rfl, ?_⟩) ?_ ?_
 rotate_left
 ·
  intro w'
  go_simp
  with_reducible rfl
 rotate_left
 ·
  simp only [Act.put, List.setIfInBounds_toArray, List.set_cons_zero, List.set_cons_succ, i64_w, i32_w]
  rfl
 refine pure_ (i := 14) (N := some 38) (v := ?_) (a' := ?_) #[true, true, true, true, true, true, true, true, true, true, true, true, true, true, true, false, false, false, false, false, false] rfl rfl (any_of HT_.out (by kernel_rfl)) (fun _ _ _ h => h) (Or.inl ⟨by rfl, ?_⟩) ?_ ?_
 rotate_left
 ·
  intro w'
  go_simp
  with_reducible rfl
 rotate_left
 ·
  simp only [Act.put, List.setIfInBounds_toArray, List.set_cons_zero, List.set_cons_succ, i64_w, i32_w]
  rfl
 refine pure_ (i := 15) (N := some 39) (v := ?_) (a' := ?_) #[true, true, true, true, true, true, true, true, true, true, true, true, true, true, true, true, false, false, false, false, false] rfl rfl (any_of HT_.out (by kernel_rfl)) (fun _ _ _ h => h) (Or.inl ⟨by rfl, ?_⟩) ?_ ?_
 rotate_left
 ·
  intro w'
  go_simp
  with_reducible rfl
 rotate_left
 ·
  simp only [Act.put, List.setIfInBounds_toArray, List.set_cons_zero, List.set_cons_succ, i64_w, i32_w]
  rfl
 refine take_ (i := 16) (N := some 40) (v := ?_) (a' := ?_) #[true, true, true, true, true, true, true, true, true, true, true, true, true, true, true, true, true, false, false, false, false] rfl rfl (take_ofW HT_.out HW_.out (by kernel_rfl)) (fun _ _ _ h => h) (Or.inl ⟨by rfl, ?_⟩) hHeld ?_ ?_
 rotate_left
 ·
  rintro w' ⟨s0, s1, s2, s3, s4, s5⟩
  go_simp
  with_reducible rfl
 rotate_left
 ·
  simp only [Act.put, List.setIfInBounds_toArray, List.set_cons_zero, List.set_cons_succ, i64_w, i32_w]
  rfl
 refine one_ (i := 17) (N := some 41) #[true, true, true, true, true, true, true, true, true, true, true, true, true, true, true, true, true, true, false, false, false] rfl rfl (one_of HT_.out (by kernel_rfl)) (by decide) (fun K hK => ?_)
 refine call_ 20 #[] rfl rfl (by first | rfl | (go_simp; done) | (go_simp; rfl)) ?_
 refine (pleatlaw04_one.calls _ _ _ _ _ _ _ one_f).mono ?_
 rintro e_ w8 ⟨u1, u3, u4, u5, rfl, h1, h3, h4, h5, hb⟩
 refine ⟨_, rfl, ?_⟩
 obtain ⟨B1, d1, e1⟩ := Kd.R_slice h1
 obtain ⟨B3, d3, e3⟩ := Kd.R_slice h3
 obtain ⟨B4, d4, e4⟩ := Kd.R_slice h4
 obtain ⟨B5, d5, e5⟩ := Kd.R_slice h5
 subst e1 e3 e4 e5
 have HP := Aside0.mk (And.intro h1 (And.intro h3 (And.intro h4 h5)))
 have HOn := Aside0.mk (And.intro (Kd.R_below HO.out.1 hb) (And.intro (Kd.R_below HO.out.2.1 hb) (And.intro (Kd.R_below HO.out.2.2.1 hb) (Kd.R_below HO.out.2.2.2 hb))))
 have BXn := Aside0.mk (blk_below BX.out hb)
 have HBn := Aside0.mk (below_then HB.out HB.out.size hb)
 clear HB hb HO BX h1 h3 h4 h5
 have HB := HBn
 have HO := HOn
 have BX := BXn
 clear HBn HOn BXn
 refine hK.out _ _ ⟨(blk_cell BX.out 0).trans rfl, (blk_cell BX.out 1).trans rfl, (blk_cell BX.out 2).trans rfl, (blk_cell BX.out 3).trans rfl, (blk_cell BX.out 4).trans rfl, (blk_cell BX.out 5).trans rfl⟩ (fun hHeld => ?_)
 clear hK K
 refine norm_ (a' := ?_) ?_ ?_
 rotate_left
 ·
  show Act.put _ (some 41) _ = _
  simp only [Act.put, List.setIfInBounds_toArray, List.set_cons_zero, List.set_cons_succ, i64_w, i32_w]
  rfl
 refine one_ (i := 18) (N := some 42) #[true, true, true, true, true, true, true, true, true, true, true, true, true, true, true, true, true, true, true, false, false] rfl rfl (one_of HT_.out (by kernel_rfl)) (by decide) (fun K hK => ?_)
 refine call_ 11 #[.agg #[.string oneN, .slice A1 oneC.length c1, .int .i64 0, .slice A3 oneD.length c3, .slice A4 oneS.length c4, .slice A5 oneR.length c5], .agg #[.string oneN, .slice B1 oneC.length d1, .int .i64 0, .slice B3 oneD.length d3, .slice B4 oneS.length d4, .slice B5 oneR.length d5]] rfl rfl (by first | rfl | (go_simp; done) | (go_simp; rfl)) ?_
 refine (eqObjS.calls oneN oneC 0 oneD oneS oneR _ _ _ _ _ _ _ _ _ _ _ _ _ _ _ _ _ (Kd.R_reads' HO.out.1).2.2 (Kd.R_reads' HO.out.2.1).2.2 (Kd.R_reads' HO.out.2.2.1).2.2 (Kd.R_reads' HO.out.2.2.2).2.2 (Kd.R_reads' HP.out.1).2.2 (Kd.R_reads' HP.out.2.1).2.2 (Kd.R_reads' HP.out.2.2.1).2.2 (Kd.R_reads' HP.out.2.2.2).2.2 (by decide) (by decide) (by decide) (by decide)).mono ?_
 rintro e_ w9 ⟨rfl, hb⟩
 refine ⟨_, rfl, ?_⟩
 have BXn := Aside0.mk (blk_below BX.out hb)
 have HBn := Aside0.mk (below_then HB.out HB.out.size hb)
 clear HB hb HO HP BX
 have HB := HBn
 have BX := BXn
 clear HBn BXn
 refine hK.out _ _ ⟨(blk_cell BX.out 0).trans rfl, (blk_cell BX.out 1).trans rfl, (blk_cell BX.out 2).trans rfl, (blk_cell BX.out 3).trans rfl, (blk_cell BX.out 4).trans rfl, (blk_cell BX.out 5).trans rfl⟩ (fun hHeld => ?_)
 clear hK K
 refine norm_ (a' := ?_) ?_ ?_
 rotate_left
 ·
  show Act.put _ (some 42) _ = _
  simp only [Act.put, List.setIfInBounds_toArray, List.set_cons_zero, List.set_cons_succ, i64_w, i32_w]
  rfl
 refine pure_ (i := 19) (N := some 43) (v := ?_) (a' := ?_) #[true, true, true, true, true, true, true, true, true, true, true, true, true, true, true, true, true, true, true, true, false] rfl rfl (any_of HT_.out (by kernel_rfl)) (fun _ _ _ h => h) (Or.inl ⟨by rfl, ?_⟩) ?_ ?_
 rotate_left
 ·
  intro w'
  go_simp
  with_reducible rfl
 rotate_left
 ·
  simp only [Act.put, List.setIfInBounds_toArray, List.set_cons_zero, List.set_cons_succ, i64_w, i32_w]
  rfl
 refine pure_ (i := 20) (N := some 0) (v := ?_) (a' := ?_) #[true, true, true, true, true, true, true, true, true, true, true, true, true, true, true, true, true, true, true, true, true] rfl rfl (any_of HT_.out (by kernel_rfl)) (fun _ _ _ h => h) (Or.inl ⟨by rfl, ?_⟩) ?_ ?_
 rotate_left
 ·
  intro w'
  go_simp
  with_reducible rfl
 rotate_left
 ·
  simp only [Act.put, List.setIfInBounds_toArray, List.set_cons_zero, List.set_cons_succ, i64_w, i32_w]
  rfl
 refine done_ (done_of HT_.out (by kernel_rfl)) ?_
 try go_wp2
 go_ret
 exact ⟨rfl, HB.out⟩
end Go.Proofs.YtiaohbbafaaibabGreatDoor.P

/- OWN TEXT: lists of their own with marks behind them: what is behind such a list, and that it is filled round by round. -/
namespace Go.Proofs.YtiaohbbafaaibabGreatDoor.P
open Go.RowKit Go.Proofs.YtiaohbbafaaibabGreatDoorW.PrintWords Go.Proofs.YtiaohbbafaaibabGreatDoorW.PrintLast Go.Proofs.YtiaohbbafaaibabGreatDoorW.PrintMore
set_option linter.unusedVariables false
set_option linter.unusedSimpArgs false

def markN (i : Nat) : Int := 9437185 + (i : Int)
def marksL {α : Type} (mk : Nat → α) (n : Nat) : List α := (List.range 64).map fun j => mk (n + j)
theorem marksL_length {α : Type} (mk : Nat → α) (n : Nat) : (marksL mk n).length = 64 := by simp [marksL]
theorem marksL_at {α : Type} (mk : Nat → α) (n j : Nat) (h : j < 64) : (marksL mk n)[j]? = some (mk (n + j)) := by simp [marksL, h]
/-- filled up to i: so far as the list with its marks. -/
structure FillW {α : Type} (l : List α) (mk : Nat → α) (x : List α) (i : Int) : Prop where
  len : x.length = l.length + 64
  lo : 0 ≤ i
  big : l.length ≤ 1000000000000000
  same : ∀ j : Nat, (j : Int) < i → x[j]? = (l ++ marksL mk l.length)[j]?
theorem FillW.start {α : Type} {l : List α} {mk : Nat → α} {z : α} {x : List α} {j : Int} (hl : l.length ≤ 9223372036854775807) (hj : wrap64 ((l.length : Int) + 64) = j) (h0 : decide (0 ≤ j) = true) (h1 : decide (j.toNat ≤ 1000000000000000) = true) (hx : x = List.replicate j.toNat z) : FillW l mk x 0 := by
 have h0 := of_decide_eq_true h0
 have h1 := of_decide_eq_true h1
 have e : j = (l.length : Int) + 64 := by
  unfold wrap64 at hj
  omega
 exact ⟨by rw [hx, List.length_replicate]; omega, Int.le_refl _, by omega, fun j hj => by omega⟩
theorem FillW.copy {α : Type} {l : List α} {mk : Nat → α} {x y : List α} {i : Int} {v : α} (h : FillW l mk x i) (h0 : decide (i < (l.length : Int)) = true) (hv : l[i.toNat]? = some v) (hy : y = x.set i.toNat v) : FillW l mk y (wrap64 (i + 1)) := by
 have h0 := of_decide_eq_true h0
 have hb := h.big
 have hlo := h.lo
 have e : wrap64 (i + 1) = i + 1 := by unfold wrap64; omega
 refine ⟨by rw [hy, List.length_set, h.len], by omega, h.big, fun j hj => ?_⟩
 rw [e] at hj
 rw [hy]
 by_cases c : j = i.toNat
 ·
  subst c
  rw [List.getElem?_set_self (by rw [h.len]; omega), List.getElem?_append_left (by omega), hv]
 ·
  rw [List.getElem?_set_ne (by omega), h.same j (by omega)]
theorem FillW.mark {α : Type} {l : List α} {mk : Nat → α} {x y : List α} {i : Int} {v : α} (h : FillW l mk x i) (h0 : decide (i < (l.length : Int)) = false) (h1 : decide (i < (x.length : Int)) = true) (hv : mk i.toNat = v) (hy : y = x.set i.toNat v) : FillW l mk y (wrap64 (i + 1)) := by
 have h0 := of_decide_eq_false h0
 have h1 := of_decide_eq_true h1
 have hlen := h.len
 have hb := h.big
 have hlo := h.lo
 have e : wrap64 (i + 1) = i + 1 := by unfold wrap64; omega
 refine ⟨by rw [hy, List.length_set, h.len], by omega, h.big, fun j hj => ?_⟩
 rw [e] at hj
 rw [hy]
 by_cases c : j = i.toNat
 ·
  subst c
  rw [List.getElem?_set_self (by rw [h.len]; omega), List.getElem?_append_right (by omega), marksL_at _ _ _ (by omega), ← hv]
  congr 2
  omega
 ·
  rw [List.getElem?_set_ne (by omega), h.same j (by omega)]
theorem FillW.done {α : Type} {l : List α} {mk : Nat → α} {x : List α} {i : Int} (h : FillW l mk x i) (h1 : decide (i < (x.length : Int)) = false) : x = l ++ marksL mk l.length := by
 have h1 := of_decide_eq_false h1
 have hlen := h.len
 apply List.ext_getElem?
 intro j
 by_cases c : (j : Int) < i
 ·
  exact h.same j c
 ·
  rw [List.getElem?_eq_none (by omega), List.getElem?_eq_none (by rw [List.length_append, marksL_length]; omega)]
theorem FillW.lt {α : Type} {l : List α} {mk : Nat → α} {x : List α} {i : Int} (h : FillW l mk x i) : l.length ≤ 1000000000000000 := h.big
/-- a list of its own, with its marks behind it in the same memory. -/
def WideC {α : Type} (d : Kd α) (e : Nat) (W : World) (base : Nat) (v : Value) (l : List α) (mk : Nat → α) : Prop :=
 ∃ A c, v = .slice A l.length c ∧ Kd.R d e W base (fun _ => True) (.slice A (l.length + 64) c) (l ++ marksL mk l.length)
theorem WideC.of {α : Type} {d : Kd α} {e : Nat} {W : World} {base : Nat} {A : Option Addr} {c n m : Nat} {x l : List α} {mk : Nat → α} (hR : Kd.R d e W base (fun _ => True) (.slice A n c) x) (hn : n = x.length) (hx : x = l ++ marksL mk l.length) (hm : m = l.length) : WideC d e W base (.slice A m c) l mk := by
 subst hx
 rw [List.length_append, marksL_length] at hn
 subst hn
 exact ⟨A, c, by rw [hm], hR⟩
theorem WideC.below {α : Type} {d : Kd α} {e : Nat} {W W1 : World} {base : Nat} {v : Value} {l : List α} {mk : Nat → α} (h : WideC d e W base v l mk) (hb : Below W.heap.size W W1) : WideC d e W1 base v l mk := by
 obtain ⟨A, c, h1, h2⟩ := h
 exact ⟨A, c, h1, Kd.R_below h2 hb⟩
theorem WideC.lower {α : Type} {d : Kd α} {e : Nat} {W : World} {base base' : Nat} {v : Value} {l : List α} {mk : Nat → α} (h : WideC d e W base v l mk) (hb : base' ≤ base) : WideC d e W base' v l mk := by
 obtain ⟨A, c, h1, h2⟩ := h
 exact ⟨A, c, h1, Kd.R_lower h2 hb⟩
/-- what is cut off a list may be longer than the list, as far as its memory goes. -/
theorem cut_wide {P : Program} (t e : TypeId) (kh : IntKind) {i : TypeInfo} (ht : P.underlying t = some (.slice e)) (hi : P.info? e = some i) (A : Option Addr) (n c : Nat) (j : Int) (h0 : 0 ≤ j) (hm : j ≤ c) :
  ∀ W : World, (Instr.slice t (.slice A n c) none (some (.int kh j)) none).run P W = .ok (.slice A j.toNat c) W := by
 intro W
 have hel : P.elem t = e := by simp [Program.elem, ht]
 have hu : P.underlying t = some (.slice (P.elem t)) := by rw [hel]; exact ht
 have ha : (A.map fun x => x.add 0) = A := by cases A <;> simp [Addr.add]
 rw [run_slice_h W t A n c hu kh j h0 (by omega), hel]
 simp [sizeOf, typeInfo, hi, sliced, Result.andThen, ha]
end Go.Proofs.YtiaohbbafaaibabGreatDoor.P

/- What the Go functions named below come to, as plain functions, each with its proof; written by this session's prt.py over the kit's print. -/
namespace Go.Proofs.YtiaohbbafaaibabGreatDoor.P
open Go.RowKit Go.Proofs.YtiaohbbafaaibabGreatDoorW.PrintWords Go.Proofs.YtiaohbbafaaibabGreatDoorW.PrintLast Go.Proofs.YtiaohbbafaaibabGreatDoorW.PrintMore
attribute [local go_sem] max2_int min2_int max_two min_two max_three min_three max_four min_four   -- for this text's walks alone
set_option linter.unusedVariables false
set_option linter.unusedSimpArgs false
/-! ### pleatref00_num: function 79 -/
def pleatref00_num.f (a0 : Int) (a1 : Int) : Option (Int) := some (wrap64 ((wrap64 ((wrap64 (1048576 * a0)) + a1)) + 1))
set_option maxHeartbeats 8000000 in
set_option maxRecDepth 100000 in
theorem pleatref00_num.calls (a0 : Int) (a1 : Int) (r : Int) (w : World) (h : pleatref00_num.f a0 a1 = some r) :
  Calls Tryz.prog 79 #[.int .i64 a0, .int .i64 a1] w fun e w' => e = .returned (.int .i64 r) ∧ Drawn0 w w' := by
 have H : (some (wrap64 ((wrap64 ((wrap64 (1048576 * a0)) + a1)) + 1))) = some r := h
 clear h
 obtain rfl := Option.some.inj H
 go_enter Tryz.func79, Tryz.ntmps79
 go_wp2
 go_ret
 exact ⟨by first | rfl | (simp; done) | (simp [*]; done), by repeat (first | exact Drawn0.refl _ | apply Drawn0.step)⟩
theorem numW {i t : Int} (h0 : 0 ≤ i) (h1 : i ≤ 2000000000000000) (h : pleatref00_num.f 9 i = some t) : t = markN i.toNat := by
 unfold pleatref00_num.f at h
 have h := Option.some.inj h
 rw [← h, wrap64_id (x := 1048576 * 9) (by omega) (by omega), wrap64_id (x := 1048576 * 9 + i) (by omega) (by omega), wrap64_id (by omega) (by omega)]
 unfold markN
 omega
theorem getW {α : Type} {l : List α} {i : Int} {z : α} (h0 : 0 ≤ i) (h1 : decide (i < (l.length : Int)) = true) : l[i.toNat]? = some (l.getD i.toNat z) := by
 have h1 := of_decide_eq_true h1
 rw [List.getD_eq_getElem?_getD, List.getElem?_eq_getElem (by omega)]
 rfl


/-! ### pleatref00_WideWords: function 21 -/
def pleatref00_WideWords.l0 : Nat → List Int → List Int → Int → Option (List Int)
 | 0, _, _, _ => none
 | k + 1, x0, x3, x4 => if x4 < (x3.length : Int) then (if x4 < (x0.length : Int) then (if 0 ≤ x4 then (pleatref00_WideWords.l0 k x0 (x3.set (x4 : Int).toNat (rd x0 x4)) (wrap64 (x4 + 1))) else (none)) else ((pleatref00_num.f 9 x4).bind fun t197 => (if 0 ≤ x4 then (pleatref00_WideWords.l0 k x0 (x3.set (x4 : Int).toNat ((t197) % 4294967296)) (wrap64 (x4 + 1))) else (none)))) else (if 0 ≤ (x0.length : Int) then (if (x0.length : Int) ≤ (x3.length : Int) then (some (x3.take ((x0.length : Int) : Int).toNat)) else (none)) else (none))
def pleatref00_WideWords.f (k : Nat) (l0 : List Int) : Option (List Int) := if 0 ≤ (wrap64 ((l0.length : Int) + 64)) then (if (wrap64 ((l0.length : Int) + 64) : Int).toNat ≤ 70368744177664 then (pleatref00_WideWords.l0 k l0 (List.replicate (wrap64 ((l0.length : Int) + 64) : Int).toNat 0) 0) else (none)) else (none)
theorem pleatref00_WideWords.mono_l : ∀ k, (∀ y0 y1 y2, LeO (pleatref00_WideWords.l0 k y0 y1 y2) (pleatref00_WideWords.l0 (k + 1) y0 y1 y2))
 | 0 => fun _ _ _ r h => by simp [pleatref00_WideWords.l0] at h
 | k + 1 => by
  have ih0 := pleatref00_WideWords.mono_l k
  ·
   intro y0 y1 y2
   unfold pleatref00_WideWords.l0
   repeat' first
   | (with_reducible first | exact ih0 _ _ _ | exact LeO.refl _ | exact LeO.none _ | refine LeO.ite ?_ ?_ | refine LeO.bind ?_ (fun _ => ?_))
theorem pleatref00_WideWords.mono : ∀ a0 k, LeO (pleatref00_WideWords.f k a0) (pleatref00_WideWords.f (k + 1) a0) := by
 intro a0 k
 have ih0 := pleatref00_WideWords.mono_l k
 unfold pleatref00_WideWords.f
 repeat' first
   | (with_reducible first | exact ih0 _ _ _ | exact LeO.refl _ | exact LeO.none _ | refine LeO.ite ?_ ?_ | refine LeO.bind ?_ (fun _ => ?_))
set_option maxHeartbeats 8000000 in
set_option maxRecDepth 100000 in
theorem pleatref00_WideWords.callsW (k : Nat) (A0 : Option Addr) (c0 : Nat) (l0 : List Int) (r : List Int) (w : World) (hr0 : Kd.C (Kd.int .u32) w A0 l0.length l0) (hc0 : l0.length ≤ c0) (h : pleatref00_WideWords.f k l0 = some r) :
  Calls Tryz.prog 21 #[.slice A0 l0.length c0] w fun e w' => ∃ v0_ : Value, e = .returned (v0_) ∧ Kd.R (Kd.int .u32) 78 w' w.heap.size (fun _ => True) v0_ r ∧ Below w.heap.size w w' ∧ WideC (Kd.int .u32) 78 w' w.heap.size v0_ l0 (fun i => markN i % 4294967296) := by
 have HR0 := Aside0.mk hr0
 have HC0 := Aside0.mk hc0
 clear hr0 hc0
 have HB := Aside0.mk (Below.refl w.heap.size w)
 have H : (if 0 ≤ (wrap64 ((l0.length : Int) + 64)) then (if (wrap64 ((l0.length : Int) + 64) : Int).toNat ≤ 70368744177664 then (pleatref00_WideWords.l0 k l0 (List.replicate (wrap64 ((l0.length : Int) + 64) : Int).toNat 0) 0) else (none)) else (none)) = some r := h
 clear h
 obtain ⟨ji2, hji2⟩ : ∃ j_ : Int, (wrap64 ((l0.length : Int) + 64)) = j_ := ⟨_, rfl⟩
 replace H : (if 0 ≤ (ji2) then (if (ji2 : Int).toNat ≤ 70368744177664 then (pleatref00_WideWords.l0 k l0 (List.replicate (ji2 : Int).toNat 0) 0) else (none)) else (none)) = some r := by first | (rw [hji2] at H; exact H) | (simp only [hji2] at H ⊢; exact H)
 have hji2w : (IntKind.i64.wrap ((l0.length : Int) + 64)) = ji2 := (i64_w _).trans hji2
 by_cases c3 : 0 ≤ (ji2)
 ·
  rw [if_pos c3] at H
  have c3b0 := eq_true c3
  have c3b1 : decide (0 ≤ (ji2)) = true := decide_eq_true c3
  clear c3
  by_cases c4 : (ji2 : Int).toNat ≤ 70368744177664
  ·
   rw [if_pos c4] at H
   have c4b0 := eq_true c4
   have c4b1 : decide ((ji2 : Int).toNat ≤ 70368744177664) = true := decide_eq_true c4
   clear c4
   obtain ⟨y192, hy192⟩ : ∃ y_ : List Int, y_ = (List.replicate (ji2 : Int).toNat 0) := ⟨_, rfl⟩
   replace H : (pleatref00_WideWords.l0 k l0 y192 0) = some r := by first | (rw [hy192]; with_reducible exact H) | (have H2_ := (Option.bind_some _ _).symm.trans H; rw [hy192]; with_reducible exact H2_) | (have H2_ := (Option.bind_some _ _).symm.trans H; with_reducible exact H2_) | with_reducible exact H | (rw [hy192]; exact H) | exact H
   have Ny192 := Aside0.mk hy192
   have HFW0 := Aside0.mk (FillW.start (mk := fun i => markN i % 4294967296) HR0.out.2.1 hji2 c3b1 (decide_eq_true (Nat.le_trans (of_decide_eq_true c4b1) (by decide))) Ny192.out)
   clear hy192
   have H' := Aside0.mk H
   clear H
   go_enter Tryz.func21, Tryz.ntmps21
   go_wp2_with (first | ((with_reducible refine gate_dst (N := 8) rfl ?_); refine Kd.R_make (Kd.int .u32) _ 78 rfl (N := 8) rfl 22 _ _ rfl ji2 rfl rfl Tryz.underlying22 (.int .u32 0) 4 info78 rfl (by decide) (by omega) 0 (ok := fun _ => True) (okp := fun _ => True) rfl (fun _ hk => hk) trivial (of_decide_eq_true ‹_›) (Nat.le_trans (Nat.mul_le_mul_right _ (of_decide_eq_true ‹_› : ji2.toNat ≤ 70368744177664)) (by omega)) (Below.refl _ _) (Nat.le_refl _) ?_; intro v193 w5 ho6 hb hg_ hnew_; clear hg_ hnew_; (first | rw [← Ny192.out] at ho6 | (simp only [Int.reduceToNat] at ho6; rw [← Ny192.out] at ho6)); have HO194 := Aside0.mk (Kd.R_lower ho6 (below_size (bwQ HB.out))); replace HB := Aside0.mk (bsQ hb HB.out); clear hb ho6))
   go_loopg [4] k (fun kq v4 w' => ∃ (x3_1 : List Int) (x4_1 : Int), v4 = .int .i64 x4_1 ∧ Aside0 (pleatref00_WideWords.l0 kq l0 x3_1 x4_1 = some r) ∧ Aside0 (kq ≤ k) ∧ Aside0 (FillW l0 (fun i => markN i % 4294967296) x3_1 x4_1) ∧ Aside0 (Kd.R (Kd.int .u32) 78 w' w.heap.size (fun _ => True) v193 x3_1) ∧ Aside0 (Below w.heap.size w w'))
   case atStart => exact ⟨(y192), (0), (by first | rfl | (simp; done) | (simp [*]; done)), H', ⟨Nat.le_refl _⟩, HFW0, ⟨by (with_reducible repeat (first | apply Kd.R_alloc | apply Kd.R_drewN | apply Kd.R_drew)); exact HO194.out⟩, ⟨bwQ HB.out⟩⟩
   case round =>
    clear H'
    try clear c2
    try clear p2
    try clear c3
    try clear c3b0
    try clear c3b1
    try clear c4
    try clear c4b0
    try clear c4b1
    try clear p6
    obtain ⟨x3_1, x4_1, rfl, HA, HK1, HFW, HO_3, HB⟩ := hrel
    cases gk with
    | zero => exact absurd HA.out (by simp [pleatref00_WideWords.l0])
    | succ k1 =>
     have H := HA.out
     clear HA
     simp only [pleatref00_WideWords.l0] at H
     by_cases c7 : x4_1 < (x3_1.length : Int)
     ·
      rw [if_pos c7] at H
      have c7b0 : decide (x4_1 < (x3_1.length : Int)) = true := decide_eq_true c7
      clear c7
      by_cases c8 : x4_1 < (l0.length : Int)
      ·
       rw [if_pos c8] at H
       have c8b0 : decide (x4_1 < (l0.length : Int)) = true := decide_eq_true c8
       clear c8
       by_cases c9 : 0 ≤ x4_1
       ·
        rw [if_pos c9] at H
        have c9b0 : decide (0 ≤ x4_1) = true := decide_eq_true c9
        clear c9
        obtain ⟨y196, hy196⟩ : ∃ y_ : List Int, y_ = (x3_1.set (x4_1 : Int).toNat (rd l0 x4_1)) := ⟨_, rfl⟩
        replace H : (pleatref00_WideWords.l0 k1 l0 y196 (wrap64 (x4_1 + 1))) = some r := by first | (rw [hy196]; with_reducible exact H) | (have H2_ := (Option.bind_some _ _).symm.trans H; rw [hy196]; with_reducible exact H2_) | (have H2_ := (Option.bind_some _ _).symm.trans H; with_reducible exact H2_) | with_reducible exact H | (rw [hy196]; exact H) | exact H
        have Ny196 := Aside0.mk hy196
        have HFW1 := Aside0.mk (FillW.copy HFW.out c8b0 (getW HFW.out.lo c8b0) Ny196.out)
        clear hy196
        have H' := Aside0.mk H
        clear H
        obtain ⟨Ao11, co11, eo11⟩ := Kd.R_slice HO_3.out
        subst eo11
        have p195 : 0 ≤ (x4_1 : Int) := of_decide_eq_true ‹_›
        have q195 : x4_1 < (l0.length : Int) := of_decide_eq_true ‹_›
        obtain ⟨ad195, e195, hx195_0⟩ := Kd.at_int HR0.out x4_1 p195 q195
        cases e195
        replace hx195_0 := pw_cell_below HB.out hx195_0
        replace p195 := eq_true p195
        replace q195 := eq_true q195
        have p10 : 0 ≤ (x4_1 : Int) := of_decide_eq_true ‹_›
        have q10 : (x4_1 : Int) < ((x3_1.length : Int) : Int) := of_decide_eq_true ‹_›
        obtain ⟨go10, co10, eo10, gb10, gl10, cl10, HG10⟩ := Kd.R_form HO_3.out (by omega)
        (first | cases eo10 | (injection eo10 with ea_ en_ ec_; (first | subst ea_ | (injection ea_ with ea_; subst ea_)); subst ec_; clear en_))
        have GB10 := Aside0.mk gb10
        have GG10 := Aside0.mk HG10
        clear gb10 gl10 HG10
        obtain ⟨hx10_0, hf10_0⟩ := Kd.R_celln 0 HO_3.out (x4_1 : Int) p10 q10
        replace p10 := eq_true p10
        replace q10 := eq_true q10
        have HP12 := Kd.R_putg HO_3.out (x4_1 : Int) (rd l0 x4_1)
        go_wp2_with (first | ((with_reducible refine gate_store (t := 78) (p := 25) rfl ?_); refine store_event (t := 78) (p := 25) (v := ?vo_w13) (w1 := (wr.setCell ⟨go10, (x4_1 : Int).toNat, none⟩ (.int .u32 (rd l0 x4_1)))) ?hg ?ho ?hn ?hr ?_; (case ho => rfl); (case hg => rfl); (case hn => rfl); (case hr => first | (go_simp; done) | (go_simp; rfl)); intro w13 hw; have hg : wr.grownBy w13 (some go10) := (by rw [hw]; exact HP12.2); have hp_ : Kd.R (Kd.int .u32) 78 w13 w.heap.size (fun _ => True) (.slice (some ⟨go10, 0, none⟩) x3_1.length co11) y196 := (by rw [hw, Ny196.out]; exact HP12.1); clear HP12; have n0_ := Aside0.mk (hp_); have n1_ := Aside0.mk ((by rw [hw]; exact below_set (HB.out) GB10.out : Below w.heap.size w w13)); clear HO_3; clear HB; have HO_3 := n0_; have HB := n1_; clear n0_ n1_; clear hg hw hp_))
        go_roundg k1
        case measure => have := HK1.out; omega
        case rel => exact ⟨(y196), (wrap64 (x4_1 + 1)), (by first | rfl | (simp; done) | (simp [*]; done)), H', ⟨by have := HK1.out; omega⟩, HFW1, ⟨by (with_reducible repeat (first | apply Kd.R_alloc | apply Kd.R_drewN | apply Kd.R_drew)); exact HO_3.out⟩, ⟨bwQ HB.out⟩⟩
       ·
        rw [if_neg c9] at H
        exact absurd H (by simp)
      ·
       rw [if_neg c8] at H
       have c8b0 : decide (x4_1 < (l0.length : Int)) = false := decide_eq_false c8
       clear c8
       replace H := Option.bind_eq_some_iff.mp H
       obtain ⟨t197, A140, H⟩ := H
       try dsimp only at H
       have A14 := Aside0.mk A140
       clear A140
       by_cases c15 : 0 ≤ x4_1
       ·
        rw [if_pos c15] at H
        have c15b0 : decide (0 ≤ x4_1) = true := decide_eq_true c15
        clear c15
        obtain ⟨y198, hy198⟩ : ∃ y_ : List Int, y_ = (x3_1.set (x4_1 : Int).toNat ((t197) % 4294967296)) := ⟨_, rfl⟩
        replace H : (pleatref00_WideWords.l0 k1 l0 y198 (wrap64 (x4_1 + 1))) = some r := by first | (rw [hy198]; with_reducible exact H) | (have H2_ := (Option.bind_some _ _).symm.trans H; rw [hy198]; with_reducible exact H2_) | (have H2_ := (Option.bind_some _ _).symm.trans H; with_reducible exact H2_) | with_reducible exact H | (rw [hy198]; exact H) | exact H
        have Ny198 := Aside0.mk hy198
        have HFW1 := Aside0.mk (FillW.mark HFW.out c8b0 c7b0 (show (fun i => markN i % 4294967296) x4_1.toNat = _ by rw [numW HFW.out.lo (by have := HFW.out.len; have := HFW.out.big; have := of_decide_eq_true c7b0; omega) A14.out]) Ny198.out)
        clear hy198
        have H' := Aside0.mk H
        clear H
        obtain ⟨Ao17, co17, eo17⟩ := Kd.R_slice HO_3.out
        subst eo17
        go_wp2_with (first | ((with_reducible refine gate_callee (f := 79) rfl ?_); refine goesL_ (some 29) rfl rfl Tryz.func79 (by kernel_rfl) rfl #[.int .i64 9, .int .i64 x4_1] rfl (by (try simp only [List.map_toArray, List.map_cons, List.map_nil]); try rfl) ?_; (with_reducible refine (pleatref00_num.calls 9 x4_1 t197 _ A14.out).mono ?_); rintro e w' ⟨rfl, ⟨nd, rfl⟩⟩; refine ⟨_, rfl, ?_⟩; (try (rw [drewN_self wr]; generalize hq_ : World.drewN wr _ = wr; have n0_ : Aside0 (Kd.R (Kd.int .u32) 78 wr w.heap.size (fun _ => True) (.slice Ao17 x3_1.length co17) x3_1) := ⟨by rw [← hq_]; exact (by (with_reducible repeat (first | apply Kd.R_alloc | apply Kd.R_drewN | apply Kd.R_drew)); exact HO_3.out)⟩; have n1_ : Aside0 (Below w.heap.size w wr) := ⟨by rw [← hq_]; exact (bwQ HB.out)⟩; clear HO_3 HB hq_; have HO_3 := n0_; have HB := n1_; clear n0_ n1_)); have p16 : 0 ≤ (x4_1 : Int) := of_decide_eq_true ‹_›; have q16 : (x4_1 : Int) < ((x3_1.length : Int) : Int) := of_decide_eq_true ‹_›; obtain ⟨go16, co16, eo16, gb16, gl16, cl16, HG16⟩ := Kd.R_form HO_3.out (by omega); (first | cases eo16 | (injection eo16 with ea_ en_ ec_; (first | subst ea_ | (injection ea_ with ea_; subst ea_)); subst ec_; clear en_)); have GB16 := Aside0.mk gb16; have GG16 := Aside0.mk HG16; clear gb16 gl16 HG16; obtain ⟨hx16_0, hf16_0⟩ := Kd.R_celln 0 HO_3.out (x4_1 : Int) p16 q16; replace p16 := eq_true p16; replace q16 := eq_true q16; obtain ⟨hy18_, hz18_⟩ := Kd.R_celln 0 HO_3.out (x4_1 : Int) (of_decide_eq_true ‹_›) (of_decide_eq_true ‹_›); have HP18 := Kd.R_putg HO_3.out (x4_1 : Int) ((t197) % 4294967296)) | ((with_reducible refine gate_store (t := 78) (p := 31) rfl ?_); refine store_event (t := 78) (p := 31) (v := ?vo_w19) (w1 := (wr.setCell ⟨go16, (x4_1 : Int).toNat, none⟩ (.int .u32 ((t197) % 4294967296)))) ?hg ?ho ?hn ?hr ?_; (case ho => rfl); (case hg => rfl); (case hn => rfl); (case hr => first | (go_simp; done) | (go_simp; rfl)); intro w19 hw; have hg : wr.grownBy w19 (some go16) := (by rw [hw]; exact HP18.2); have hp_ : Kd.R (Kd.int .u32) 78 w19 w.heap.size (fun _ => True) (.slice (some ⟨go16, 0, none⟩) x3_1.length co17) y198 := (by rw [hw, Ny198.out]; exact HP18.1); clear HP18; have n0_ := Aside0.mk (hp_); have n1_ := Aside0.mk ((by rw [hw]; exact below_set (HB.out) GB16.out : Below w.heap.size w w19)); clear HO_3; clear HB; have HO_3 := n0_; have HB := n1_; clear n0_ n1_; clear hg hw hp_))
        go_roundg k1
        case measure => have := HK1.out; omega
        case rel => exact ⟨(y198), (wrap64 (x4_1 + 1)), (by first | rfl | (simp; done) | (simp [*]; done)), H', ⟨by have := HK1.out; omega⟩, HFW1, ⟨by (with_reducible repeat (first | apply Kd.R_alloc | apply Kd.R_drewN | apply Kd.R_drew)); exact HO_3.out⟩, ⟨bwQ HB.out⟩⟩
       ·
        rw [if_neg c15] at H
        exact absurd H (by simp)
     ·
      rw [if_neg c7] at H
      have c7b0 : decide (x4_1 < (x3_1.length : Int)) = false := decide_eq_false c7
      clear c7
      by_cases c20 : 0 ≤ (l0.length : Int)
      ·
       rw [if_pos c20] at H
       have c20b0 := eq_true c20
       have c20b1 : decide (0 ≤ (l0.length : Int)) = true := decide_eq_true c20
       clear c20
       by_cases c21 : (l0.length : Int) ≤ (x3_1.length : Int)
       ·
        rw [if_pos c21] at H
        have c21b0 := eq_true c21
        have c21b1 : decide ((l0.length : Int) ≤ (x3_1.length : Int)) = true := decide_eq_true c21
        clear c21
        obtain ⟨y199, hy199⟩ : ∃ y_ : List Int, y_ = (x3_1.take ((l0.length : Int) : Int).toNat) := ⟨_, rfl⟩
        replace H : (some y199) = some r := by first | (rw [hy199]; with_reducible exact H) | (have H2_ := (Option.bind_some _ _).symm.trans H; rw [hy199]; with_reducible exact H2_) | (have H2_ := (Option.bind_some _ _).symm.trans H; with_reducible exact H2_) | with_reducible exact H | (rw [hy199]; exact H) | exact H
        have Ny199 := Aside0.mk hy199
        clear hy199
        obtain rfl := Option.some.inj H
        obtain ⟨Ao22, co22, eo22⟩ := Kd.R_slice HO_3.out
        subst eo22
        have q23 : ((l0.length : Int) : Int) ≤ ((x3_1.length : Int) : Int) := of_decide_eq_true ‹_›
        obtain ⟨i023, hi023, _, hsz23, _⟩ := info_parts info78
        have hcut23 := cut_to (P := Tryz.prog) 22 78 .i64 Tryz.underlying22 hi023 Ao22 x3_1.length co22 (l0.length : Int) (of_decide_eq_true ‹_›) q23 (Kd.R_reads' HO_3.out).2.1
        have HWd := Aside0.mk (HFW.out.done c7b0)
        have HRW := Aside0.mk HO_3.out
        have HLW := Aside0.mk (show y199.length = l0.length by rw [Ny199.out, List.length_take, Int.toNat_natCast, HFW.out.len]; omega)
        have hr23 := Kd.R_take (m := ((l0.length : Int) : Int).toNat) HO_3.out (by omega)
        have hy23 : y199.length = ((l0.length : Int) : Int).toNat := (by rw [Ny199.out, List.length_take]; omega)
        rw [← Ny199.out] at hr23
        rw [← hy23] at hr23 hcut23
        clear hy23 hi023 hsz23 HO_3
        have HO201 := Aside0.mk hr23
        clear hr23
        replace q23 := eq_true q23
        go_wp2
        go_ret
        exact ⟨_, by first | rfl | (simp [errW_none, errW_some] <;> rfl) | (simp only [← hji2]; first | rfl | (simp [errW_none, errW_some] <;> rfl)) | (simp [*, errW_none, errW_some] <;> rfl), by (with_reducible repeat (first | apply Kd.R_alloc | apply Kd.R_drewN | apply Kd.R_drew)); exact HO201.out, bwQ HB.out, WideC.of (by (with_reducible repeat (first | apply Kd.R_alloc | apply Kd.R_drewN | apply Kd.R_drew)); exact HRW.out) rfl HWd.out HLW.out⟩
       ·
        rw [if_neg c21] at H
        exact absurd H (by simp)
      ·
       rw [if_neg c20] at H
       exact absurd H (by simp)
  ·
   rw [if_neg c4] at H
   exact absurd H (by simp)
 ·
  rw [if_neg c3] at H
  exact absurd H (by simp)
theorem pleatref00_WideWords.calls (k : Nat) (A0 : Option Addr) (c0 : Nat) (l0 : List Int) (r : List Int) (w : World) (hr0 : Kd.C (Kd.int .u32) w A0 l0.length l0) (hc0 : l0.length ≤ c0) (h : pleatref00_WideWords.f k l0 = some r) :
  Calls Tryz.prog 21 #[.slice A0 l0.length c0] w fun e w' => ∃ v0_ : Value, e = .returned (v0_) ∧ Kd.R (Kd.int .u32) 78 w' w.heap.size (fun _ => True) v0_ r ∧ Below w.heap.size w w' := (pleatref00_WideWords.callsW k A0 c0 l0 r w hr0 hc0 h).mono fun _ _ ⟨v, h1, h2, h3, _⟩ => ⟨v, h1, h2, h3⟩


/-! ### pleatref00_WideLongs: function 22 -/
def pleatref00_WideLongs.l0 : Nat → List Int → List Int → Int → Option (List Int)
 | 0, _, _, _ => none
 | k + 1, x0, x3, x4 => if x4 < (x3.length : Int) then (if x4 < (x0.length : Int) then (if 0 ≤ x4 then (pleatref00_WideLongs.l0 k x0 (x3.set (x4 : Int).toNat (rd x0 x4)) (wrap64 (x4 + 1))) else (none)) else ((pleatref00_num.f 9 x4).bind fun t207 => (if 0 ≤ x4 then (pleatref00_WideLongs.l0 k x0 (x3.set (x4 : Int).toNat t207) (wrap64 (x4 + 1))) else (none)))) else (if 0 ≤ (x0.length : Int) then (if (x0.length : Int) ≤ (x3.length : Int) then (some (x3.take ((x0.length : Int) : Int).toNat)) else (none)) else (none))
def pleatref00_WideLongs.f (k : Nat) (l0 : List Int) : Option (List Int) := if 0 ≤ (wrap64 ((l0.length : Int) + 64)) then (if (wrap64 ((l0.length : Int) + 64) : Int).toNat ≤ 35184372088832 then (pleatref00_WideLongs.l0 k l0 (List.replicate (wrap64 ((l0.length : Int) + 64) : Int).toNat 0) 0) else (none)) else (none)
theorem pleatref00_WideLongs.mono_l : ∀ k, (∀ y0 y1 y2, LeO (pleatref00_WideLongs.l0 k y0 y1 y2) (pleatref00_WideLongs.l0 (k + 1) y0 y1 y2))
 | 0 => fun _ _ _ r h => by simp [pleatref00_WideLongs.l0] at h
 | k + 1 => by
  have ih0 := pleatref00_WideLongs.mono_l k
  ·
   intro y0 y1 y2
   unfold pleatref00_WideLongs.l0
   repeat' first
   | (with_reducible first | exact ih0 _ _ _ | exact LeO.refl _ | exact LeO.none _ | refine LeO.ite ?_ ?_ | refine LeO.bind ?_ (fun _ => ?_))
theorem pleatref00_WideLongs.mono : ∀ a0 k, LeO (pleatref00_WideLongs.f k a0) (pleatref00_WideLongs.f (k + 1) a0) := by
 intro a0 k
 have ih0 := pleatref00_WideLongs.mono_l k
 unfold pleatref00_WideLongs.f
 repeat' first
   | (with_reducible first | exact ih0 _ _ _ | exact LeO.refl _ | exact LeO.none _ | refine LeO.ite ?_ ?_ | refine LeO.bind ?_ (fun _ => ?_))
set_option maxHeartbeats 8000000 in
set_option maxRecDepth 100000 in
theorem pleatref00_WideLongs.callsW (k : Nat) (A0 : Option Addr) (c0 : Nat) (l0 : List Int) (r : List Int) (w : World) (hr0 : Kd.C (Kd.int .i64) w A0 l0.length l0) (hc0 : l0.length ≤ c0) (h : pleatref00_WideLongs.f k l0 = some r) :
  Calls Tryz.prog 22 #[.slice A0 l0.length c0] w fun e w' => ∃ v0_ : Value, e = .returned (v0_) ∧ Kd.R (Kd.int .i64) 2 w' w.heap.size (fun _ => True) v0_ r ∧ Below w.heap.size w w' ∧ WideC (Kd.int .i64) 2 w' w.heap.size v0_ l0 (markN) := by
 have HR0 := Aside0.mk hr0
 have HC0 := Aside0.mk hc0
 clear hr0 hc0
 have HB := Aside0.mk (Below.refl w.heap.size w)
 have H : (if 0 ≤ (wrap64 ((l0.length : Int) + 64)) then (if (wrap64 ((l0.length : Int) + 64) : Int).toNat ≤ 35184372088832 then (pleatref00_WideLongs.l0 k l0 (List.replicate (wrap64 ((l0.length : Int) + 64) : Int).toNat 0) 0) else (none)) else (none)) = some r := h
 clear h
 obtain ⟨ji2, hji2⟩ : ∃ j_ : Int, (wrap64 ((l0.length : Int) + 64)) = j_ := ⟨_, rfl⟩
 replace H : (if 0 ≤ (ji2) then (if (ji2 : Int).toNat ≤ 35184372088832 then (pleatref00_WideLongs.l0 k l0 (List.replicate (ji2 : Int).toNat 0) 0) else (none)) else (none)) = some r := by first | (rw [hji2] at H; exact H) | (simp only [hji2] at H ⊢; exact H)
 have hji2w : (IntKind.i64.wrap ((l0.length : Int) + 64)) = ji2 := (i64_w _).trans hji2
 by_cases c3 : 0 ≤ (ji2)
 ·
  rw [if_pos c3] at H
  have c3b0 := eq_true c3
  have c3b1 : decide (0 ≤ (ji2)) = true := decide_eq_true c3
  clear c3
  by_cases c4 : (ji2 : Int).toNat ≤ 35184372088832
  ·
   rw [if_pos c4] at H
   have c4b0 := eq_true c4
   have c4b1 : decide ((ji2 : Int).toNat ≤ 35184372088832) = true := decide_eq_true c4
   clear c4
   obtain ⟨y202, hy202⟩ : ∃ y_ : List Int, y_ = (List.replicate (ji2 : Int).toNat 0) := ⟨_, rfl⟩
   replace H : (pleatref00_WideLongs.l0 k l0 y202 0) = some r := by first | (rw [hy202]; with_reducible exact H) | (have H2_ := (Option.bind_some _ _).symm.trans H; rw [hy202]; with_reducible exact H2_) | (have H2_ := (Option.bind_some _ _).symm.trans H; with_reducible exact H2_) | with_reducible exact H | (rw [hy202]; exact H) | exact H
   have Ny202 := Aside0.mk hy202
   have HFW0 := Aside0.mk (FillW.start (mk := markN) HR0.out.2.1 hji2 c3b1 (decide_eq_true (Nat.le_trans (of_decide_eq_true c4b1) (by decide))) Ny202.out)
   clear hy202
   have H' := Aside0.mk H
   clear H
   go_enter Tryz.func22, Tryz.ntmps22
   go_wp2_with (first | ((with_reducible refine gate_dst (N := 8) rfl ?_); refine Kd.R_make (Kd.int .i64) _ 2 rfl (N := 8) rfl 23 _ _ rfl ji2 rfl rfl Tryz.underlying23 (.int .i64 0) 8 info2 rfl (by decide) (by omega) 0 (ok := fun _ => True) (okp := fun _ => True) rfl (fun _ hk => hk) trivial (of_decide_eq_true ‹_›) (Nat.le_trans (Nat.mul_le_mul_right _ (of_decide_eq_true ‹_› : ji2.toNat ≤ 35184372088832)) (by omega)) (Below.refl _ _) (Nat.le_refl _) ?_; intro v203 w5 ho6 hb hg_ hnew_; clear hg_ hnew_; (first | rw [← Ny202.out] at ho6 | (simp only [Int.reduceToNat] at ho6; rw [← Ny202.out] at ho6)); have HO204 := Aside0.mk (Kd.R_lower ho6 (below_size (bwQ HB.out))); replace HB := Aside0.mk (bsQ hb HB.out); clear hb ho6))
   go_loopg [4] k (fun kq v4 w' => ∃ (x3_1 : List Int) (x4_1 : Int), v4 = .int .i64 x4_1 ∧ Aside0 (pleatref00_WideLongs.l0 kq l0 x3_1 x4_1 = some r) ∧ Aside0 (kq ≤ k) ∧ Aside0 (FillW l0 (markN) x3_1 x4_1) ∧ Aside0 (Kd.R (Kd.int .i64) 2 w' w.heap.size (fun _ => True) v203 x3_1) ∧ Aside0 (Below w.heap.size w w'))
   case atStart => exact ⟨(y202), (0), (by first | rfl | (simp; done) | (simp [*]; done)), H', ⟨Nat.le_refl _⟩, HFW0, ⟨by (with_reducible repeat (first | apply Kd.R_alloc | apply Kd.R_drewN | apply Kd.R_drew)); exact HO204.out⟩, ⟨bwQ HB.out⟩⟩
   case round =>
    clear H'
    try clear c2
    try clear p2
    try clear c3
    try clear c3b0
    try clear c3b1
    try clear c4
    try clear c4b0
    try clear c4b1
    try clear p6
    obtain ⟨x3_1, x4_1, rfl, HA, HK1, HFW, HO_3, HB⟩ := hrel
    cases gk with
    | zero => exact absurd HA.out (by simp [pleatref00_WideLongs.l0])
    | succ k1 =>
     have H := HA.out
     clear HA
     simp only [pleatref00_WideLongs.l0] at H
     by_cases c7 : x4_1 < (x3_1.length : Int)
     ·
      rw [if_pos c7] at H
      have c7b0 : decide (x4_1 < (x3_1.length : Int)) = true := decide_eq_true c7
      clear c7
      by_cases c8 : x4_1 < (l0.length : Int)
      ·
       rw [if_pos c8] at H
       have c8b0 : decide (x4_1 < (l0.length : Int)) = true := decide_eq_true c8
       clear c8
       by_cases c9 : 0 ≤ x4_1
       ·
        rw [if_pos c9] at H
        have c9b0 : decide (0 ≤ x4_1) = true := decide_eq_true c9
        clear c9
        obtain ⟨y206, hy206⟩ : ∃ y_ : List Int, y_ = (x3_1.set (x4_1 : Int).toNat (rd l0 x4_1)) := ⟨_, rfl⟩
        replace H : (pleatref00_WideLongs.l0 k1 l0 y206 (wrap64 (x4_1 + 1))) = some r := by first | (rw [hy206]; with_reducible exact H) | (have H2_ := (Option.bind_some _ _).symm.trans H; rw [hy206]; with_reducible exact H2_) | (have H2_ := (Option.bind_some _ _).symm.trans H; with_reducible exact H2_) | with_reducible exact H | (rw [hy206]; exact H) | exact H
        have Ny206 := Aside0.mk hy206
        have HFW1 := Aside0.mk (FillW.copy HFW.out c8b0 (getW HFW.out.lo c8b0) Ny206.out)
        clear hy206
        have H' := Aside0.mk H
        clear H
        obtain ⟨Ao11, co11, eo11⟩ := Kd.R_slice HO_3.out
        subst eo11
        have p205 : 0 ≤ (x4_1 : Int) := of_decide_eq_true ‹_›
        have q205 : x4_1 < (l0.length : Int) := of_decide_eq_true ‹_›
        obtain ⟨ad205, e205, hx205_0⟩ := Kd.at_int HR0.out x4_1 p205 q205
        cases e205
        replace hx205_0 := pw_cell_below HB.out hx205_0
        replace p205 := eq_true p205
        replace q205 := eq_true q205
        have p10 : 0 ≤ (x4_1 : Int) := of_decide_eq_true ‹_›
        have q10 : (x4_1 : Int) < ((x3_1.length : Int) : Int) := of_decide_eq_true ‹_›
        obtain ⟨go10, co10, eo10, gb10, gl10, cl10, HG10⟩ := Kd.R_form HO_3.out (by omega)
        (first | cases eo10 | (injection eo10 with ea_ en_ ec_; (first | subst ea_ | (injection ea_ with ea_; subst ea_)); subst ec_; clear en_))
        have GB10 := Aside0.mk gb10
        have GG10 := Aside0.mk HG10
        clear gb10 gl10 HG10
        obtain ⟨hx10_0, hf10_0⟩ := Kd.R_celln 0 HO_3.out (x4_1 : Int) p10 q10
        replace p10 := eq_true p10
        replace q10 := eq_true q10
        have HP12 := Kd.R_putg HO_3.out (x4_1 : Int) (rd l0 x4_1)
        go_wp2_with (first | ((with_reducible refine gate_store (t := 2) (p := 25) rfl ?_); refine store_event (t := 2) (p := 25) (v := ?vo_w13) (w1 := (wr.setCell ⟨go10, (x4_1 : Int).toNat, none⟩ (.int .i64 (rd l0 x4_1)))) ?hg ?ho ?hn ?hr ?_; (case ho => rfl); (case hg => rfl); (case hn => rfl); (case hr => first | (go_simp; done) | (go_simp; rfl)); intro w13 hw; have hg : wr.grownBy w13 (some go10) := (by rw [hw]; exact HP12.2); have hp_ : Kd.R (Kd.int .i64) 2 w13 w.heap.size (fun _ => True) (.slice (some ⟨go10, 0, none⟩) x3_1.length co11) y206 := (by rw [hw, Ny206.out]; exact HP12.1); clear HP12; have n0_ := Aside0.mk (hp_); have n1_ := Aside0.mk ((by rw [hw]; exact below_set (HB.out) GB10.out : Below w.heap.size w w13)); clear HO_3; clear HB; have HO_3 := n0_; have HB := n1_; clear n0_ n1_; clear hg hw hp_))
        go_roundg k1
        case measure => have := HK1.out; omega
        case rel => exact ⟨(y206), (wrap64 (x4_1 + 1)), (by first | rfl | (simp; done) | (simp [*]; done)), H', ⟨by have := HK1.out; omega⟩, HFW1, ⟨by (with_reducible repeat (first | apply Kd.R_alloc | apply Kd.R_drewN | apply Kd.R_drew)); exact HO_3.out⟩, ⟨bwQ HB.out⟩⟩
       ·
        rw [if_neg c9] at H
        exact absurd H (by simp)
      ·
       rw [if_neg c8] at H
       have c8b0 : decide (x4_1 < (l0.length : Int)) = false := decide_eq_false c8
       clear c8
       replace H := Option.bind_eq_some_iff.mp H
       obtain ⟨t207, A140, H⟩ := H
       try dsimp only at H
       have A14 := Aside0.mk A140
       clear A140
       by_cases c15 : 0 ≤ x4_1
       ·
        rw [if_pos c15] at H
        have c15b0 : decide (0 ≤ x4_1) = true := decide_eq_true c15
        clear c15
        obtain ⟨y208, hy208⟩ : ∃ y_ : List Int, y_ = (x3_1.set (x4_1 : Int).toNat t207) := ⟨_, rfl⟩
        replace H : (pleatref00_WideLongs.l0 k1 l0 y208 (wrap64 (x4_1 + 1))) = some r := by first | (rw [hy208]; with_reducible exact H) | (have H2_ := (Option.bind_some _ _).symm.trans H; rw [hy208]; with_reducible exact H2_) | (have H2_ := (Option.bind_some _ _).symm.trans H; with_reducible exact H2_) | with_reducible exact H | (rw [hy208]; exact H) | exact H
        have Ny208 := Aside0.mk hy208
        have HFW1 := Aside0.mk (FillW.mark HFW.out c8b0 c7b0 (show (markN) x4_1.toNat = _ by rw [numW HFW.out.lo (by have := HFW.out.len; have := HFW.out.big; have := of_decide_eq_true c7b0; omega) A14.out]) Ny208.out)
        clear hy208
        have H' := Aside0.mk H
        clear H
        obtain ⟨Ao17, co17, eo17⟩ := Kd.R_slice HO_3.out
        subst eo17
        go_wp2_with (first | ((with_reducible refine gate_callee (f := 79) rfl ?_); refine goesL_ (some 29) rfl rfl Tryz.func79 (by kernel_rfl) rfl #[.int .i64 9, .int .i64 x4_1] rfl (by (try simp only [List.map_toArray, List.map_cons, List.map_nil]); try rfl) ?_; (with_reducible refine (pleatref00_num.calls 9 x4_1 t207 _ A14.out).mono ?_); rintro e w' ⟨rfl, ⟨nd, rfl⟩⟩; refine ⟨_, rfl, ?_⟩; (try (rw [drewN_self wr]; generalize hq_ : World.drewN wr _ = wr; have n0_ : Aside0 (Kd.R (Kd.int .i64) 2 wr w.heap.size (fun _ => True) (.slice Ao17 x3_1.length co17) x3_1) := ⟨by rw [← hq_]; exact (by (with_reducible repeat (first | apply Kd.R_alloc | apply Kd.R_drewN | apply Kd.R_drew)); exact HO_3.out)⟩; have n1_ : Aside0 (Below w.heap.size w wr) := ⟨by rw [← hq_]; exact (bwQ HB.out)⟩; clear HO_3 HB hq_; have HO_3 := n0_; have HB := n1_; clear n0_ n1_)); have p16 : 0 ≤ (x4_1 : Int) := of_decide_eq_true ‹_›; have q16 : (x4_1 : Int) < ((x3_1.length : Int) : Int) := of_decide_eq_true ‹_›; obtain ⟨go16, co16, eo16, gb16, gl16, cl16, HG16⟩ := Kd.R_form HO_3.out (by omega); (first | cases eo16 | (injection eo16 with ea_ en_ ec_; (first | subst ea_ | (injection ea_ with ea_; subst ea_)); subst ec_; clear en_)); have GB16 := Aside0.mk gb16; have GG16 := Aside0.mk HG16; clear gb16 gl16 HG16; obtain ⟨hx16_0, hf16_0⟩ := Kd.R_celln 0 HO_3.out (x4_1 : Int) p16 q16; replace p16 := eq_true p16; replace q16 := eq_true q16; obtain ⟨hy18_, hz18_⟩ := Kd.R_celln 0 HO_3.out (x4_1 : Int) (of_decide_eq_true ‹_›) (of_decide_eq_true ‹_›); have HP18 := Kd.R_putg HO_3.out (x4_1 : Int) t207) | ((with_reducible refine gate_store (t := 2) (p := 30) rfl ?_); refine store_event (t := 2) (p := 30) (v := ?vo_w19) (w1 := (wr.setCell ⟨go16, (x4_1 : Int).toNat, none⟩ (.int .i64 t207))) ?hg ?ho ?hn ?hr ?_; (case ho => rfl); (case hg => rfl); (case hn => rfl); (case hr => first | (go_simp; done) | (go_simp; rfl)); intro w19 hw; have hg : wr.grownBy w19 (some go16) := (by rw [hw]; exact HP18.2); have hp_ : Kd.R (Kd.int .i64) 2 w19 w.heap.size (fun _ => True) (.slice (some ⟨go16, 0, none⟩) x3_1.length co17) y208 := (by rw [hw, Ny208.out]; exact HP18.1); clear HP18; have n0_ := Aside0.mk (hp_); have n1_ := Aside0.mk ((by rw [hw]; exact below_set (HB.out) GB16.out : Below w.heap.size w w19)); clear HO_3; clear HB; have HO_3 := n0_; have HB := n1_; clear n0_ n1_; clear hg hw hp_))
        go_roundg k1
        case measure => have := HK1.out; omega
        case rel => exact ⟨(y208), (wrap64 (x4_1 + 1)), (by first | rfl | (simp; done) | (simp [*]; done)), H', ⟨by have := HK1.out; omega⟩, HFW1, ⟨by (with_reducible repeat (first | apply Kd.R_alloc | apply Kd.R_drewN | apply Kd.R_drew)); exact HO_3.out⟩, ⟨bwQ HB.out⟩⟩
       ·
        rw [if_neg c15] at H
        exact absurd H (by simp)
     ·
      rw [if_neg c7] at H
      have c7b0 : decide (x4_1 < (x3_1.length : Int)) = false := decide_eq_false c7
      clear c7
      by_cases c20 : 0 ≤ (l0.length : Int)
      ·
       rw [if_pos c20] at H
       have c20b0 := eq_true c20
       have c20b1 : decide (0 ≤ (l0.length : Int)) = true := decide_eq_true c20
       clear c20
       by_cases c21 : (l0.length : Int) ≤ (x3_1.length : Int)
       ·
        rw [if_pos c21] at H
        have c21b0 := eq_true c21
        have c21b1 : decide ((l0.length : Int) ≤ (x3_1.length : Int)) = true := decide_eq_true c21
        clear c21
        obtain ⟨y209, hy209⟩ : ∃ y_ : List Int, y_ = (x3_1.take ((l0.length : Int) : Int).toNat) := ⟨_, rfl⟩
        replace H : (some y209) = some r := by first | (rw [hy209]; with_reducible exact H) | (have H2_ := (Option.bind_some _ _).symm.trans H; rw [hy209]; with_reducible exact H2_) | (have H2_ := (Option.bind_some _ _).symm.trans H; with_reducible exact H2_) | with_reducible exact H | (rw [hy209]; exact H) | exact H
        have Ny209 := Aside0.mk hy209
        clear hy209
        obtain rfl := Option.some.inj H
        obtain ⟨Ao22, co22, eo22⟩ := Kd.R_slice HO_3.out
        subst eo22
        have q23 : ((l0.length : Int) : Int) ≤ ((x3_1.length : Int) : Int) := of_decide_eq_true ‹_›
        obtain ⟨i023, hi023, _, hsz23, _⟩ := info_parts info2
        have hcut23 := cut_to (P := Tryz.prog) 23 2 .i64 Tryz.underlying23 hi023 Ao22 x3_1.length co22 (l0.length : Int) (of_decide_eq_true ‹_›) q23 (Kd.R_reads' HO_3.out).2.1
        have HWd := Aside0.mk (HFW.out.done c7b0)
        have HRW := Aside0.mk HO_3.out
        have HLW := Aside0.mk (show y209.length = l0.length by rw [Ny209.out, List.length_take, Int.toNat_natCast, HFW.out.len]; omega)
        have hr23 := Kd.R_take (m := ((l0.length : Int) : Int).toNat) HO_3.out (by omega)
        have hy23 : y209.length = ((l0.length : Int) : Int).toNat := (by rw [Ny209.out, List.length_take]; omega)
        rw [← Ny209.out] at hr23
        rw [← hy23] at hr23 hcut23
        clear hy23 hi023 hsz23 HO_3
        have HO211 := Aside0.mk hr23
        clear hr23
        replace q23 := eq_true q23
        go_wp2
        go_ret
        exact ⟨_, by first | rfl | (simp [errW_none, errW_some] <;> rfl) | (simp only [← hji2]; first | rfl | (simp [errW_none, errW_some] <;> rfl)) | (simp [*, errW_none, errW_some] <;> rfl), by (with_reducible repeat (first | apply Kd.R_alloc | apply Kd.R_drewN | apply Kd.R_drew)); exact HO211.out, bwQ HB.out, WideC.of (by (with_reducible repeat (first | apply Kd.R_alloc | apply Kd.R_drewN | apply Kd.R_drew)); exact HRW.out) rfl HWd.out HLW.out⟩
       ·
        rw [if_neg c21] at H
        exact absurd H (by simp)
      ·
       rw [if_neg c20] at H
       exact absurd H (by simp)
  ·
   rw [if_neg c4] at H
   exact absurd H (by simp)
 ·
  rw [if_neg c3] at H
  exact absurd H (by simp)
theorem pleatref00_WideLongs.calls (k : Nat) (A0 : Option Addr) (c0 : Nat) (l0 : List Int) (r : List Int) (w : World) (hr0 : Kd.C (Kd.int .i64) w A0 l0.length l0) (hc0 : l0.length ≤ c0) (h : pleatref00_WideLongs.f k l0 = some r) :
  Calls Tryz.prog 22 #[.slice A0 l0.length c0] w fun e w' => ∃ v0_ : Value, e = .returned (v0_) ∧ Kd.R (Kd.int .i64) 2 w' w.heap.size (fun _ => True) v0_ r ∧ Below w.heap.size w w' := (pleatref00_WideLongs.callsW k A0 c0 l0 r w hr0 hc0 h).mono fun _ _ ⟨v, h1, h2, h3, _⟩ => ⟨v, h1, h2, h3⟩


/-! ### pleatref00_WideSymbols: function 23 -/
def pleatref00_WideSymbols.l0 : Nat → List (S65) → List (S65) → Int → Option ((List (S65)))
 | 0, _, _, _ => none
 | k + 1, x0, x3, x4 => if x4 < (x3.length : Int) then (if x4 < (x0.length : Int) then (if 0 ≤ x4 then (pleatref00_WideSymbols.l0 k x0 (x3.set (x4 : Int).toNat (⟨(rd_T65 x0 x4).f0, (rd_T65 x0 x4).f1, (rd_T65 x0 x4).f2⟩ : S65)) (wrap64 (x4 + 1))) else (none)) else ((pleatref00_num.f 9 x4).bind fun t217 => (if 0 ≤ x4 then (pleatref00_WideSymbols.l0 k x0 (x3.set (x4 : Int).toNat (⟨(⟨#[]⟩ : ByteArray), 0, t217⟩ : S65)) (wrap64 (x4 + 1))) else (none)))) else (if 0 ≤ (x0.length : Int) then (if (x0.length : Int) ≤ (x3.length : Int) then (some (x3.take ((x0.length : Int) : Int).toNat)) else (none)) else (none))
def pleatref00_WideSymbols.f (k : Nat) (l0 : List (S65)) : Option ((List (S65))) := if 0 ≤ (wrap64 ((l0.length : Int) + 64)) then (if (wrap64 ((l0.length : Int) + 64) : Int).toNat ≤ 8796093022208 then (pleatref00_WideSymbols.l0 k l0 (List.replicate (wrap64 ((l0.length : Int) + 64) : Int).toNat z65) 0) else (none)) else (none)
theorem pleatref00_WideSymbols.mono_l : ∀ k, (∀ y0 y1 y2, LeO (pleatref00_WideSymbols.l0 k y0 y1 y2) (pleatref00_WideSymbols.l0 (k + 1) y0 y1 y2))
 | 0 => fun _ _ _ r h => by simp [pleatref00_WideSymbols.l0] at h
 | k + 1 => by
  have ih0 := pleatref00_WideSymbols.mono_l k
  ·
   intro y0 y1 y2
   unfold pleatref00_WideSymbols.l0
   repeat' first
   | (with_reducible first | exact ih0 _ _ _ | exact LeO.refl _ | exact LeO.none _ | refine LeO.ite ?_ ?_ | refine LeO.bind ?_ (fun _ => ?_))
theorem pleatref00_WideSymbols.mono : ∀ a0 k, LeO (pleatref00_WideSymbols.f k a0) (pleatref00_WideSymbols.f (k + 1) a0) := by
 intro a0 k
 have ih0 := pleatref00_WideSymbols.mono_l k
 unfold pleatref00_WideSymbols.f
 repeat' first
   | (with_reducible first | exact ih0 _ _ _ | exact LeO.refl _ | exact LeO.none _ | refine LeO.ite ?_ ?_ | refine LeO.bind ?_ (fun _ => ?_))
set_option maxHeartbeats 8000000 in
set_option maxRecDepth 100000 in
theorem pleatref00_WideSymbols.callsW (k : Nat) (A0 : Option Addr) (c0 : Nat) (l0 : List (S65)) (r : List (S65)) (w : World) (hr0 : Kd.C k65 w A0 l0.length l0) (hc0 : l0.length ≤ c0) (h : pleatref00_WideSymbols.f k l0 = some r) :
  Calls Tryz.prog 23 #[.slice A0 l0.length c0] w fun e w' => ∃ v0_ : Value, e = .returned (v0_) ∧ Kd.R k65 65 w' w.heap.size (fun _ => True) v0_ r ∧ Below w.heap.size w w' ∧ WideC k65 65 w' w.heap.size v0_ l0 (fun i => (⟨⟨#[]⟩, 0, markN i⟩ : S65)) := by
 have hu65 := Tryz.underlying65
 have HR0 := Aside0.mk hr0
 have HC0 := Aside0.mk hc0
 clear hr0 hc0
 have HB := Aside0.mk (Below.refl w.heap.size w)
 have H : (if 0 ≤ (wrap64 ((l0.length : Int) + 64)) then (if (wrap64 ((l0.length : Int) + 64) : Int).toNat ≤ 8796093022208 then (pleatref00_WideSymbols.l0 k l0 (List.replicate (wrap64 ((l0.length : Int) + 64) : Int).toNat z65) 0) else (none)) else (none)) = some r := h
 clear h
 obtain ⟨ji2, hji2⟩ : ∃ j_ : Int, (wrap64 ((l0.length : Int) + 64)) = j_ := ⟨_, rfl⟩
 replace H : (if 0 ≤ (ji2) then (if (ji2 : Int).toNat ≤ 8796093022208 then (pleatref00_WideSymbols.l0 k l0 (List.replicate (ji2 : Int).toNat z65) 0) else (none)) else (none)) = some r := by first | (rw [hji2] at H; exact H) | (simp only [hji2] at H ⊢; exact H)
 have hji2w : (IntKind.i64.wrap ((l0.length : Int) + 64)) = ji2 := (i64_w _).trans hji2
 by_cases c3 : 0 ≤ (ji2)
 ·
  rw [if_pos c3] at H
  have c3b0 := eq_true c3
  have c3b1 : decide (0 ≤ (ji2)) = true := decide_eq_true c3
  clear c3
  by_cases c4 : (ji2 : Int).toNat ≤ 8796093022208
  ·
   rw [if_pos c4] at H
   have c4b0 := eq_true c4
   have c4b1 : decide ((ji2 : Int).toNat ≤ 8796093022208) = true := decide_eq_true c4
   clear c4
   obtain ⟨y212, hy212⟩ : ∃ y_ : List (S65), y_ = (List.replicate (ji2 : Int).toNat z65) := ⟨_, rfl⟩
   replace H : (pleatref00_WideSymbols.l0 k l0 y212 0) = some r := by first | (rw [hy212]; with_reducible exact H) | (have H2_ := (Option.bind_some _ _).symm.trans H; rw [hy212]; with_reducible exact H2_) | (have H2_ := (Option.bind_some _ _).symm.trans H; with_reducible exact H2_) | with_reducible exact H | (rw [hy212]; exact H) | exact H
   have Ny212 := Aside0.mk hy212
   have HFW0 := Aside0.mk (FillW.start (mk := fun i => (⟨⟨#[]⟩, 0, markN i⟩ : S65)) HR0.out.2.1 hji2 c3b1 (decide_eq_true (Nat.le_trans (of_decide_eq_true c4b1) (by decide))) Ny212.out)
   clear hy212
   have H' := Aside0.mk H
   clear H
   go_enter Tryz.func23, Tryz.ntmps23
   go_wp2_with (first | ((with_reducible refine gate_dst (N := 8) rfl ?_); refine Kd.R_make k65 _ 65 rfl (N := 8) rfl 24 _ _ rfl ji2 rfl rfl Tryz.underlying24 (.agg #[(.string ⟨#[]⟩), (.int .i8 0), (.int .i64 0)]) 32 info65 rfl (by decide) (by omega) z65 (ok := fun _ => True) (okp := fun _ => True) (k65_mkM _ _ _ z65 ) (fun _ hk => hk) trivial (of_decide_eq_true ‹_›) (Nat.le_trans (Nat.mul_le_mul_right _ (of_decide_eq_true ‹_› : ji2.toNat ≤ 8796093022208)) (by omega)) (Below.refl _ _) (Nat.le_refl _) ?_; intro v213 w5 ho6 hb hg_ hnew_; clear hg_ hnew_; (first | rw [← Ny212.out] at ho6 | (simp only [Int.reduceToNat] at ho6; rw [← Ny212.out] at ho6)); have HO214 := Aside0.mk (Kd.R_lower ho6 (below_size (bwQ HB.out))); replace HB := Aside0.mk (bsQ hb HB.out); clear hb ho6))
   go_loopg [4] k (fun kq v4 w' => ∃ (x3_1 : List (S65)) (x4_1 : Int), v4 = .int .i64 x4_1 ∧ Aside0 (pleatref00_WideSymbols.l0 kq l0 x3_1 x4_1 = some r) ∧ Aside0 (kq ≤ k) ∧ Aside0 (FillW l0 (fun i => (⟨⟨#[]⟩, 0, markN i⟩ : S65)) x3_1 x4_1) ∧ Aside0 (Kd.R k65 65 w' w.heap.size (fun _ => True) v213 x3_1) ∧ Aside0 (Below w.heap.size w w'))
   case atStart => exact ⟨(y212), (0), (by first | rfl | (simp; done) | (simp [*]; done)), H', ⟨Nat.le_refl _⟩, HFW0, ⟨by (with_reducible repeat (first | apply Kd.R_alloc | apply Kd.R_drewN | apply Kd.R_drew)); exact HO214.out⟩, ⟨bwQ HB.out⟩⟩
   case round =>
    clear H'
    try clear c2
    try clear p2
    try clear c3
    try clear c3b0
    try clear c3b1
    try clear c4
    try clear c4b0
    try clear c4b1
    try clear p6
    obtain ⟨x3_1, x4_1, rfl, HA, HK1, HFW, HO_3, HB⟩ := hrel
    cases gk with
    | zero => exact absurd HA.out (by simp [pleatref00_WideSymbols.l0])
    | succ k1 =>
     have H := HA.out
     clear HA
     simp only [pleatref00_WideSymbols.l0] at H
     by_cases c7 : x4_1 < (x3_1.length : Int)
     ·
      rw [if_pos c7] at H
      have c7b0 : decide (x4_1 < (x3_1.length : Int)) = true := decide_eq_true c7
      clear c7
      by_cases c8 : x4_1 < (l0.length : Int)
      ·
       rw [if_pos c8] at H
       have c8b0 : decide (x4_1 < (l0.length : Int)) = true := decide_eq_true c8
       clear c8
       by_cases c9 : 0 ≤ x4_1
       ·
        rw [if_pos c9] at H
        have c9b0 : decide (0 ≤ x4_1) = true := decide_eq_true c9
        clear c9
        obtain ⟨y216, hy216⟩ : ∃ y_ : List (S65), y_ = (x3_1.set (x4_1 : Int).toNat (⟨(rd_T65 l0 x4_1).f0, (rd_T65 l0 x4_1).f1, (rd_T65 l0 x4_1).f2⟩ : S65)) := ⟨_, rfl⟩
        replace H : (pleatref00_WideSymbols.l0 k1 l0 y216 (wrap64 (x4_1 + 1))) = some r := by first | (rw [hy216]; with_reducible exact H) | (have H2_ := (Option.bind_some _ _).symm.trans H; rw [hy216]; with_reducible exact H2_) | (have H2_ := (Option.bind_some _ _).symm.trans H; with_reducible exact H2_) | with_reducible exact H | (rw [hy216]; exact H) | exact H
        have Ny216 := Aside0.mk hy216
        have HFW1 := Aside0.mk (FillW.copy HFW.out c8b0 (getW HFW.out.lo c8b0) Ny216.out)
        clear hy216
        have H' := Aside0.mk H
        clear H
        obtain ⟨Ao11, co11, eo11⟩ := Kd.R_slice HO_3.out
        subst eo11
        have p215 : 0 ≤ (x4_1 : Int) := of_decide_eq_true ‹_›
        have q215 : x4_1 < (l0.length : Int) := of_decide_eq_true ‹_›
        obtain ⟨ad215, e215, hx215_0, hx215_1, hx215_2⟩ := atQ65 HR0.out HB.out x4_1 p215 q215
        cases e215
        replace p215 := eq_true p215
        replace q215 := eq_true q215
        have p10 : 0 ≤ (x4_1 : Int) := of_decide_eq_true ‹_›
        have q10 : (x4_1 : Int) < ((x3_1.length : Int) : Int) := of_decide_eq_true ‹_›
        obtain ⟨go10, co10, eo10, gb10, gl10, cl10, HG10⟩ := Kd.R_form HO_3.out (by omega)
        (first | cases eo10 | (injection eo10 with ea_ en_ ec_; (first | subst ea_ | (injection ea_ with ea_; subst ea_)); subst ec_; clear en_))
        have GB10 := Aside0.mk gb10
        have GG10 := Aside0.mk HG10
        clear gb10 gl10 HG10
        obtain ⟨ce10, hcl10, hM10, hcc10, hfr10⟩ := Kd.R_elem HO_3.out z65 (x4_1 : Int) p10 q10
        obtain rfl := k65_openM hM10
        have hx10_0 : wr.cell? ⟨go10, (x4_1 : Int).toNat * 3, none⟩ = some (.string ((rd_T65 x3_1 x4_1).f0)) := hcc10 0 _ rfl
        have hx10_1 : wr.cell? ⟨go10, (x4_1 : Int).toNat * 3 + 1, none⟩ = some (.int .i8 ((rd_T65 x3_1 x4_1).f1)) := hcc10 1 _ rfl
        have hx10_2 : wr.cell? ⟨go10, (x4_1 : Int).toNat * 3 + 2, none⟩ = some (.int .i64 ((rd_T65 x3_1 x4_1).f2)) := hcc10 2 _ rfl
        have hf10_0 : wr.frozen? ⟨go10, (x4_1 : Int).toNat * 3, none⟩ = false := hfr10 0
        have hf10_1 : wr.frozen? ⟨go10, (x4_1 : Int).toNat * 3 + 1, none⟩ = false := hfr10 1
        have hf10_2 : wr.frozen? ⟨go10, (x4_1 : Int).toNat * 3 + 2, none⟩ = false := hfr10 2
        clear hcl10 hcc10 hfr10 hM10
        replace p10 := eq_true p10
        replace q10 := eq_true q10
        have HX12 := Aside0.mk (show Kd.R k65 65 wr w.heap.size (fun _ => True) (.slice (some ⟨go10, 0, none⟩) x3_1.length co11) x3_1 from (by (with_reducible repeat (first | apply Kd.R_alloc | apply Kd.R_drewN | apply Kd.R_drew)); exact HO_3.out))
        obtain ⟨ce12, hcl12, hM12, hcc12, hfr12⟩ := Kd.R_elem HX12.out z65 (x4_1 : Int) (of_decide_eq_true ‹_›) (by have h_ : (x4_1 : Int) < ((x3_1.length : Int) : Int) := of_decide_eq_true ‹_›; first | exact h_ | (have e_ := (Kd.R_reads' HO_3.out).1; omega) | simpa using h_)
        obtain rfl := k65_openM hM12
        have HP12 := Kd.R_seg HX12.out (x4_1 : Int) (of_decide_eq_true ‹_›) (by have h_ : (x4_1 : Int) < ((x3_1.length : Int) : Int) := of_decide_eq_true ‹_›; first | exact h_ | (have e_ := (Kd.R_reads' HO_3.out).1; omega) | simpa using h_) (seg := [.string ((rd_T65 l0 x4_1).f0), .int .i8 ((rd_T65 l0 x4_1).f1), .int .i64 ((rd_T65 l0 x4_1).f2)]) (j := 0) hcl12 hcc12 (show 3 ≤ 3 from by decide) (x' := (⟨(rd_T65 l0 x4_1).f0, (rd_T65 l0 x4_1).f1, (rd_T65 l0 x4_1).f2⟩ : S65)) (k65_mkM _ _ _ (⟨(rd_T65 l0 x4_1).f0, (rd_T65 l0 x4_1).f1, (rd_T65 l0 x4_1).f2⟩ : S65) ) (fun _ hk => hk)
        have hx12_0 := hcc12 0 _ rfl
        (try simp only [show (k65).sz = 3 from rfl, Nat.mul_one, Nat.add_zero] at hx12_0)
        have hf12_0 := hfr12 0
        (try simp only [show (k65).sz = 3 from rfl, Nat.mul_one, Nat.add_zero] at hf12_0)
        have hx12_1 := hcc12 1 _ rfl
        (try simp only [show (k65).sz = 3 from rfl, Nat.mul_one, Nat.add_zero] at hx12_1)
        have hf12_1 := hfr12 1
        (try simp only [show (k65).sz = 3 from rfl, Nat.mul_one, Nat.add_zero] at hf12_1)
        have hx12_2 := hcc12 2 _ rfl
        (try simp only [show (k65).sz = 3 from rfl, Nat.mul_one, Nat.add_zero] at hx12_2)
        have hf12_2 := hfr12 2
        (try simp only [show (k65).sz = 3 from rfl, Nat.mul_one, Nat.add_zero] at hf12_2)
        clear hcl12 hcc12 hfr12 hM12
        go_wp2_with (first | ((with_reducible refine gate_store (t := 65) (p := 25) rfl ?_); refine store_event (t := 65) (p := 25) (v := ?vo_w13) (w1 := (((wr.setCell ⟨go10, (x4_1 : Int).toNat * 3, none⟩ (.string ((rd_T65 l0 x4_1).f0))).setCell ⟨go10, (x4_1 : Int).toNat * 3 + 1, none⟩ (.int .i8 ((rd_T65 l0 x4_1).f1))).setCell ⟨go10, (x4_1 : Int).toNat * 3 + 2, none⟩ (.int .i64 ((rd_T65 l0 x4_1).f2)))) ?hg ?ho ?hn ?hr ?_; (case ho => rfl); (case hg => rfl); (case hn => rfl); (case hr => first | (go_simp; done) | (go_simp; rfl)); intro w13 hw; have hg : wr.grownBy w13 (some go10) := (by rw [hw]; exact HP12.2); have hp_ : Kd.R k65 65 w13 w.heap.size (fun _ => True) (.slice (some ⟨go10, 0, none⟩) x3_1.length co11) y216 := (by rw [hw, Ny216.out]; exact HP12.1); clear HP12; have n0_ := Aside0.mk (hp_); have n1_ := Aside0.mk ((by rw [hw]; exact below_set (below_set (below_set (HB.out) GB10.out) GB10.out) GB10.out : Below w.heap.size w w13)); clear HO_3; clear HB; have HO_3 := n0_; have HB := n1_; clear n0_ n1_; clear hg hw hp_))
        go_roundg k1
        case measure => have := HK1.out; omega
        case rel => exact ⟨(y216), (wrap64 (x4_1 + 1)), (by first | rfl | (simp; done) | (simp [*]; done)), H', ⟨by have := HK1.out; omega⟩, HFW1, ⟨by (with_reducible repeat (first | apply Kd.R_alloc | apply Kd.R_drewN | apply Kd.R_drew)); exact HO_3.out⟩, ⟨bwQ HB.out⟩⟩
       ·
        rw [if_neg c9] at H
        exact absurd H (by simp)
      ·
       rw [if_neg c8] at H
       have c8b0 : decide (x4_1 < (l0.length : Int)) = false := decide_eq_false c8
       clear c8
       replace H := Option.bind_eq_some_iff.mp H
       obtain ⟨t217, A140, H⟩ := H
       try dsimp only at H
       have A14 := Aside0.mk A140
       clear A140
       by_cases c15 : 0 ≤ x4_1
       ·
        rw [if_pos c15] at H
        have c15b0 : decide (0 ≤ x4_1) = true := decide_eq_true c15
        clear c15
        obtain ⟨y218, hy218⟩ : ∃ y_ : List (S65), y_ = (x3_1.set (x4_1 : Int).toNat (⟨(⟨#[]⟩ : ByteArray), 0, t217⟩ : S65)) := ⟨_, rfl⟩
        replace H : (pleatref00_WideSymbols.l0 k1 l0 y218 (wrap64 (x4_1 + 1))) = some r := by first | (rw [hy218]; with_reducible exact H) | (have H2_ := (Option.bind_some _ _).symm.trans H; rw [hy218]; with_reducible exact H2_) | (have H2_ := (Option.bind_some _ _).symm.trans H; with_reducible exact H2_) | with_reducible exact H | (rw [hy218]; exact H) | exact H
        have Ny218 := Aside0.mk hy218
        have HFW1 := Aside0.mk (FillW.mark HFW.out c8b0 c7b0 (show (fun i => (⟨⟨#[]⟩, 0, markN i⟩ : S65)) x4_1.toNat = _ by rw [numW HFW.out.lo (by have := HFW.out.len; have := HFW.out.big; have := of_decide_eq_true c7b0; omega) A14.out]) Ny218.out)
        clear hy218
        have H' := Aside0.mk H
        clear H
        obtain ⟨Ao17, co17, eo17⟩ := Kd.R_slice HO_3.out
        subst eo17
        go_wp2_with (first | ((with_reducible refine gate_callee (f := 79) rfl ?_); refine goesL_ (some 29) rfl rfl Tryz.func79 (by kernel_rfl) rfl #[.int .i64 9, .int .i64 x4_1] rfl (by (try simp only [List.map_toArray, List.map_cons, List.map_nil]); try rfl) ?_; (with_reducible refine (pleatref00_num.calls 9 x4_1 t217 _ A14.out).mono ?_); rintro e w' ⟨rfl, ⟨nd, rfl⟩⟩; refine ⟨_, rfl, ?_⟩; (try (rw [drewN_self wr]; generalize hq_ : World.drewN wr _ = wr; have n0_ : Aside0 (Kd.R k65 65 wr w.heap.size (fun _ => True) (.slice Ao17 x3_1.length co17) x3_1) := ⟨by rw [← hq_]; exact (by (with_reducible repeat (first | apply Kd.R_alloc | apply Kd.R_drewN | apply Kd.R_drew)); exact HO_3.out)⟩; have n1_ : Aside0 (Below w.heap.size w wr) := ⟨by rw [← hq_]; exact (bwQ HB.out)⟩; clear HO_3 HB hq_; have HO_3 := n0_; have HB := n1_; clear n0_ n1_)); have p16 : 0 ≤ (x4_1 : Int) := of_decide_eq_true ‹_›; have q16 : (x4_1 : Int) < ((x3_1.length : Int) : Int) := of_decide_eq_true ‹_›; obtain ⟨go16, co16, eo16, gb16, gl16, cl16, HG16⟩ := Kd.R_form HO_3.out (by omega); (first | cases eo16 | (injection eo16 with ea_ en_ ec_; (first | subst ea_ | (injection ea_ with ea_; subst ea_)); subst ec_; clear en_)); have GB16 := Aside0.mk gb16; have GG16 := Aside0.mk HG16; clear gb16 gl16 HG16; obtain ⟨ce16, hcl16, hM16, hcc16, hfr16⟩ := Kd.R_elem HO_3.out z65 (x4_1 : Int) p16 q16; obtain rfl := k65_openM hM16; have hx16_0 : wr.cell? ⟨go16, (x4_1 : Int).toNat * 3, none⟩ = some (.string ((rd_T65 x3_1 x4_1).f0)) := hcc16 0 _ rfl; have hx16_1 : wr.cell? ⟨go16, (x4_1 : Int).toNat * 3 + 1, none⟩ = some (.int .i8 ((rd_T65 x3_1 x4_1).f1)) := hcc16 1 _ rfl; have hx16_2 : wr.cell? ⟨go16, (x4_1 : Int).toNat * 3 + 2, none⟩ = some (.int .i64 ((rd_T65 x3_1 x4_1).f2)) := hcc16 2 _ rfl; have hf16_0 : wr.frozen? ⟨go16, (x4_1 : Int).toNat * 3, none⟩ = false := hfr16 0; have hf16_1 : wr.frozen? ⟨go16, (x4_1 : Int).toNat * 3 + 1, none⟩ = false := hfr16 1; have hf16_2 : wr.frozen? ⟨go16, (x4_1 : Int).toNat * 3 + 2, none⟩ = false := hfr16 2; clear hcl16 hcc16 hfr16 hM16; replace p16 := eq_true p16; replace q16 := eq_true q16; have HX18 := Aside0.mk (show Kd.R k65 65 wr w.heap.size (fun _ => True) (.slice (some ⟨go16, 0, none⟩) x3_1.length co17) x3_1 from (by (with_reducible repeat (first | apply Kd.R_alloc | apply Kd.R_drewN | apply Kd.R_drew)); exact HO_3.out)); obtain ⟨ce18, hcl18, hM18, hcc18, hfr18⟩ := Kd.R_elem HX18.out z65 (x4_1 : Int) (of_decide_eq_true ‹_›) (by have h_ : (x4_1 : Int) < ((x3_1.length : Int) : Int) := of_decide_eq_true ‹_›; first | exact h_ | (have e_ := (Kd.R_reads' HO_3.out).1; omega) | simpa using h_); obtain rfl := k65_openM hM18; have HP18 := Kd.R_seg HX18.out (x4_1 : Int) (of_decide_eq_true ‹_›) (by have h_ : (x4_1 : Int) < ((x3_1.length : Int) : Int) := of_decide_eq_true ‹_›; first | exact h_ | (have e_ := (Kd.R_reads' HO_3.out).1; omega) | simpa using h_) (seg := [.string (⟨#[]⟩ : ByteArray), .int .i8 0, .int .i64 t217]) (j := 0) hcl18 hcc18 (show 3 ≤ 3 from by decide) (x' := (⟨(⟨#[]⟩ : ByteArray), 0, t217⟩ : S65)) (k65_mkM _ _ _ (⟨(⟨#[]⟩ : ByteArray), 0, t217⟩ : S65) ) (fun _ hk => hk); have hx18_0 := hcc18 0 _ rfl; (try simp only [show (k65).sz = 3 from rfl, Nat.mul_one, Nat.add_zero] at hx18_0); have hf18_0 := hfr18 0; (try simp only [show (k65).sz = 3 from rfl, Nat.mul_one, Nat.add_zero] at hf18_0); have hx18_1 := hcc18 1 _ rfl; (try simp only [show (k65).sz = 3 from rfl, Nat.mul_one, Nat.add_zero] at hx18_1); have hf18_1 := hfr18 1; (try simp only [show (k65).sz = 3 from rfl, Nat.mul_one, Nat.add_zero] at hf18_1); have hx18_2 := hcc18 2 _ rfl; (try simp only [show (k65).sz = 3 from rfl, Nat.mul_one, Nat.add_zero] at hx18_2); have hf18_2 := hfr18 2; (try simp only [show (k65).sz = 3 from rfl, Nat.mul_one, Nat.add_zero] at hf18_2); clear hcl18 hcc18 hfr18 hM18) | ((with_reducible refine gate_store (t := 65) (p := 31) rfl ?_); refine store_event (t := 65) (p := 31) (v := ?vo_w19) (w1 := (((wr.setCell ⟨go16, (x4_1 : Int).toNat * 3, none⟩ (.string (⟨#[]⟩ : ByteArray))).setCell ⟨go16, (x4_1 : Int).toNat * 3 + 1, none⟩ (.int .i8 0)).setCell ⟨go16, (x4_1 : Int).toNat * 3 + 2, none⟩ (.int .i64 t217))) ?hg ?ho ?hn ?hr ?_; (case ho => rfl); (case hg => rfl); (case hn => rfl); (case hr => first | (go_simp; done) | (go_simp; rfl)); intro w19 hw; have hg : wr.grownBy w19 (some go16) := (by rw [hw]; exact HP18.2); have hp_ : Kd.R k65 65 w19 w.heap.size (fun _ => True) (.slice (some ⟨go16, 0, none⟩) x3_1.length co17) y218 := (by rw [hw, Ny218.out]; exact HP18.1); clear HP18; have n0_ := Aside0.mk (hp_); have n1_ := Aside0.mk ((by rw [hw]; exact below_set (below_set (below_set (HB.out) GB16.out) GB16.out) GB16.out : Below w.heap.size w w19)); clear HO_3; clear HB; have HO_3 := n0_; have HB := n1_; clear n0_ n1_; clear hg hw hp_))
        go_roundg k1
        case measure => have := HK1.out; omega
        case rel => exact ⟨(y218), (wrap64 (x4_1 + 1)), (by first | rfl | (simp; done) | (simp [*]; done)), H', ⟨by have := HK1.out; omega⟩, HFW1, ⟨by (with_reducible repeat (first | apply Kd.R_alloc | apply Kd.R_drewN | apply Kd.R_drew)); exact HO_3.out⟩, ⟨bwQ HB.out⟩⟩
       ·
        rw [if_neg c15] at H
        exact absurd H (by simp)
     ·
      rw [if_neg c7] at H
      have c7b0 : decide (x4_1 < (x3_1.length : Int)) = false := decide_eq_false c7
      clear c7
      by_cases c20 : 0 ≤ (l0.length : Int)
      ·
       rw [if_pos c20] at H
       have c20b0 := eq_true c20
       have c20b1 : decide (0 ≤ (l0.length : Int)) = true := decide_eq_true c20
       clear c20
       by_cases c21 : (l0.length : Int) ≤ (x3_1.length : Int)
       ·
        rw [if_pos c21] at H
        have c21b0 := eq_true c21
        have c21b1 : decide ((l0.length : Int) ≤ (x3_1.length : Int)) = true := decide_eq_true c21
        clear c21
        obtain ⟨y219, hy219⟩ : ∃ y_ : List (S65), y_ = (x3_1.take ((l0.length : Int) : Int).toNat) := ⟨_, rfl⟩
        replace H : (some y219) = some r := by first | (rw [hy219]; with_reducible exact H) | (have H2_ := (Option.bind_some _ _).symm.trans H; rw [hy219]; with_reducible exact H2_) | (have H2_ := (Option.bind_some _ _).symm.trans H; with_reducible exact H2_) | with_reducible exact H | (rw [hy219]; exact H) | exact H
        have Ny219 := Aside0.mk hy219
        clear hy219
        obtain rfl := Option.some.inj H
        obtain ⟨Ao22, co22, eo22⟩ := Kd.R_slice HO_3.out
        subst eo22
        have q23 : ((l0.length : Int) : Int) ≤ ((x3_1.length : Int) : Int) := of_decide_eq_true ‹_›
        obtain ⟨i023, hi023, _, hsz23, _⟩ := info_parts info65
        have hcut23 := cut_to (P := Tryz.prog) 24 65 .i64 Tryz.underlying24 hi023 Ao22 x3_1.length co22 (l0.length : Int) (of_decide_eq_true ‹_›) q23 (Kd.R_reads' HO_3.out).2.1
        have HWd := Aside0.mk (HFW.out.done c7b0)
        have HRW := Aside0.mk HO_3.out
        have HLW := Aside0.mk (show y219.length = l0.length by rw [Ny219.out, List.length_take, Int.toNat_natCast, HFW.out.len]; omega)
        have hr23 := Kd.R_take (m := ((l0.length : Int) : Int).toNat) HO_3.out (by omega)
        have hy23 : y219.length = ((l0.length : Int) : Int).toNat := (by rw [Ny219.out, List.length_take]; omega)
        rw [← Ny219.out] at hr23
        rw [← hy23] at hr23 hcut23
        clear hy23 hi023 hsz23 HO_3
        have HO221 := Aside0.mk hr23
        clear hr23
        replace q23 := eq_true q23
        go_wp2
        go_ret
        exact ⟨_, by first | rfl | (simp [errW_none, errW_some] <;> rfl) | (simp only [← hji2]; first | rfl | (simp [errW_none, errW_some] <;> rfl)) | (simp [*, errW_none, errW_some] <;> rfl), by (with_reducible repeat (first | apply Kd.R_alloc | apply Kd.R_drewN | apply Kd.R_drew)); exact HO221.out, bwQ HB.out, WideC.of (by (with_reducible repeat (first | apply Kd.R_alloc | apply Kd.R_drewN | apply Kd.R_drew)); exact HRW.out) rfl HWd.out HLW.out⟩
       ·
        rw [if_neg c21] at H
        exact absurd H (by simp)
      ·
       rw [if_neg c20] at H
       exact absurd H (by simp)
  ·
   rw [if_neg c4] at H
   exact absurd H (by simp)
 ·
  rw [if_neg c3] at H
  exact absurd H (by simp)
theorem pleatref00_WideSymbols.calls (k : Nat) (A0 : Option Addr) (c0 : Nat) (l0 : List (S65)) (r : List (S65)) (w : World) (hr0 : Kd.C k65 w A0 l0.length l0) (hc0 : l0.length ≤ c0) (h : pleatref00_WideSymbols.f k l0 = some r) :
  Calls Tryz.prog 23 #[.slice A0 l0.length c0] w fun e w' => ∃ v0_ : Value, e = .returned (v0_) ∧ Kd.R k65 65 w' w.heap.size (fun _ => True) v0_ r ∧ Below w.heap.size w w' := (pleatref00_WideSymbols.callsW k A0 c0 l0 r w hr0 hc0 h).mono fun _ _ ⟨v, h1, h2, h3, _⟩ => ⟨v, h1, h2, h3⟩


/-! ### pleatref00_WideRelocs: function 24 -/
def pleatref00_WideRelocs.l0 : Nat → List (S82) → List (S82) → Int → Option ((List (S82)))
 | 0, _, _, _ => none
 | k + 1, x0, x3, x4 => if x4 < (x3.length : Int) then (if x4 < (x0.length : Int) then (if 0 ≤ x4 then (pleatref00_WideRelocs.l0 k x0 (x3.set (x4 : Int).toNat (⟨(rd_T82 x0 x4).f0, (rd_T82 x0 x4).f1⟩ : S82)) (wrap64 (x4 + 1))) else (none)) else ((pleatref00_num.f 9 x4).bind fun t227 => (if 0 ≤ x4 then (pleatref00_WideRelocs.l0 k x0 (x3.set (x4 : Int).toNat (⟨t227, 0⟩ : S82)) (wrap64 (x4 + 1))) else (none)))) else (if 0 ≤ (x0.length : Int) then (if (x0.length : Int) ≤ (x3.length : Int) then (some (x3.take ((x0.length : Int) : Int).toNat)) else (none)) else (none))
def pleatref00_WideRelocs.f (k : Nat) (l0 : List (S82)) : Option ((List (S82))) := if 0 ≤ (wrap64 ((l0.length : Int) + 64)) then (if (wrap64 ((l0.length : Int) + 64) : Int).toNat ≤ 17592186044416 then (pleatref00_WideRelocs.l0 k l0 (List.replicate (wrap64 ((l0.length : Int) + 64) : Int).toNat z82) 0) else (none)) else (none)
theorem pleatref00_WideRelocs.mono_l : ∀ k, (∀ y0 y1 y2, LeO (pleatref00_WideRelocs.l0 k y0 y1 y2) (pleatref00_WideRelocs.l0 (k + 1) y0 y1 y2))
 | 0 => fun _ _ _ r h => by simp [pleatref00_WideRelocs.l0] at h
 | k + 1 => by
  have ih0 := pleatref00_WideRelocs.mono_l k
  ·
   intro y0 y1 y2
   unfold pleatref00_WideRelocs.l0
   repeat' first
   | (with_reducible first | exact ih0 _ _ _ | exact LeO.refl _ | exact LeO.none _ | refine LeO.ite ?_ ?_ | refine LeO.bind ?_ (fun _ => ?_))
theorem pleatref00_WideRelocs.mono : ∀ a0 k, LeO (pleatref00_WideRelocs.f k a0) (pleatref00_WideRelocs.f (k + 1) a0) := by
 intro a0 k
 have ih0 := pleatref00_WideRelocs.mono_l k
 unfold pleatref00_WideRelocs.f
 repeat' first
   | (with_reducible first | exact ih0 _ _ _ | exact LeO.refl _ | exact LeO.none _ | refine LeO.ite ?_ ?_ | refine LeO.bind ?_ (fun _ => ?_))
set_option maxHeartbeats 8000000 in
set_option maxRecDepth 100000 in
theorem pleatref00_WideRelocs.callsW (k : Nat) (A0 : Option Addr) (c0 : Nat) (l0 : List (S82)) (r : List (S82)) (w : World) (hr0 : Kd.C k82 w A0 l0.length l0) (hc0 : l0.length ≤ c0) (h : pleatref00_WideRelocs.f k l0 = some r) :
  Calls Tryz.prog 24 #[.slice A0 l0.length c0] w fun e w' => ∃ v0_ : Value, e = .returned (v0_) ∧ Kd.R k82 82 w' w.heap.size (fun _ => True) v0_ r ∧ Below w.heap.size w w' ∧ WideC k82 82 w' w.heap.size v0_ l0 (fun i => (⟨markN i, 0⟩ : S82)) := by
 have hu82 := Tryz.underlying82
 have HR0 := Aside0.mk hr0
 have HC0 := Aside0.mk hc0
 clear hr0 hc0
 have HB := Aside0.mk (Below.refl w.heap.size w)
 have H : (if 0 ≤ (wrap64 ((l0.length : Int) + 64)) then (if (wrap64 ((l0.length : Int) + 64) : Int).toNat ≤ 17592186044416 then (pleatref00_WideRelocs.l0 k l0 (List.replicate (wrap64 ((l0.length : Int) + 64) : Int).toNat z82) 0) else (none)) else (none)) = some r := h
 clear h
 obtain ⟨ji2, hji2⟩ : ∃ j_ : Int, (wrap64 ((l0.length : Int) + 64)) = j_ := ⟨_, rfl⟩
 replace H : (if 0 ≤ (ji2) then (if (ji2 : Int).toNat ≤ 17592186044416 then (pleatref00_WideRelocs.l0 k l0 (List.replicate (ji2 : Int).toNat z82) 0) else (none)) else (none)) = some r := by first | (rw [hji2] at H; exact H) | (simp only [hji2] at H ⊢; exact H)
 have hji2w : (IntKind.i64.wrap ((l0.length : Int) + 64)) = ji2 := (i64_w _).trans hji2
 by_cases c3 : 0 ≤ (ji2)
 ·
  rw [if_pos c3] at H
  have c3b0 := eq_true c3
  have c3b1 : decide (0 ≤ (ji2)) = true := decide_eq_true c3
  clear c3
  by_cases c4 : (ji2 : Int).toNat ≤ 17592186044416
  ·
   rw [if_pos c4] at H
   have c4b0 := eq_true c4
   have c4b1 : decide ((ji2 : Int).toNat ≤ 17592186044416) = true := decide_eq_true c4
   clear c4
   obtain ⟨y222, hy222⟩ : ∃ y_ : List (S82), y_ = (List.replicate (ji2 : Int).toNat z82) := ⟨_, rfl⟩
   replace H : (pleatref00_WideRelocs.l0 k l0 y222 0) = some r := by first | (rw [hy222]; with_reducible exact H) | (have H2_ := (Option.bind_some _ _).symm.trans H; rw [hy222]; with_reducible exact H2_) | (have H2_ := (Option.bind_some _ _).symm.trans H; with_reducible exact H2_) | with_reducible exact H | (rw [hy222]; exact H) | exact H
   have Ny222 := Aside0.mk hy222
   have HFW0 := Aside0.mk (FillW.start (mk := fun i => (⟨markN i, 0⟩ : S82)) HR0.out.2.1 hji2 c3b1 (decide_eq_true (Nat.le_trans (of_decide_eq_true c4b1) (by decide))) Ny222.out)
   clear hy222
   have H' := Aside0.mk H
   clear H
   go_enter Tryz.func24, Tryz.ntmps24
   go_wp2_with (first | ((with_reducible refine gate_dst (N := 8) rfl ?_); refine Kd.R_make k82 _ 82 rfl (N := 8) rfl 25 _ _ rfl ji2 rfl rfl Tryz.underlying25 (.agg #[(.int .i64 0), (.int .i64 0)]) 16 info82 rfl (by decide) (by omega) z82 (ok := fun _ => True) (okp := fun _ => True) (k82_mkM _ _ _ z82 ) (fun _ hk => hk) trivial (of_decide_eq_true ‹_›) (Nat.le_trans (Nat.mul_le_mul_right _ (of_decide_eq_true ‹_› : ji2.toNat ≤ 17592186044416)) (by omega)) (Below.refl _ _) (Nat.le_refl _) ?_; intro v223 w5 ho6 hb hg_ hnew_; clear hg_ hnew_; (first | rw [← Ny222.out] at ho6 | (simp only [Int.reduceToNat] at ho6; rw [← Ny222.out] at ho6)); have HO224 := Aside0.mk (Kd.R_lower ho6 (below_size (bwQ HB.out))); replace HB := Aside0.mk (bsQ hb HB.out); clear hb ho6))
   go_loopg [4] k (fun kq v4 w' => ∃ (x3_1 : List (S82)) (x4_1 : Int), v4 = .int .i64 x4_1 ∧ Aside0 (pleatref00_WideRelocs.l0 kq l0 x3_1 x4_1 = some r) ∧ Aside0 (kq ≤ k) ∧ Aside0 (FillW l0 (fun i => (⟨markN i, 0⟩ : S82)) x3_1 x4_1) ∧ Aside0 (Kd.R k82 82 w' w.heap.size (fun _ => True) v223 x3_1) ∧ Aside0 (Below w.heap.size w w'))
   case atStart => exact ⟨(y222), (0), (by first | rfl | (simp; done) | (simp [*]; done)), H', ⟨Nat.le_refl _⟩, HFW0, ⟨by (with_reducible repeat (first | apply Kd.R_alloc | apply Kd.R_drewN | apply Kd.R_drew)); exact HO224.out⟩, ⟨bwQ HB.out⟩⟩
   case round =>
    clear H'
    try clear c2
    try clear p2
    try clear c3
    try clear c3b0
    try clear c3b1
    try clear c4
    try clear c4b0
    try clear c4b1
    try clear p6
    obtain ⟨x3_1, x4_1, rfl, HA, HK1, HFW, HO_3, HB⟩ := hrel
    cases gk with
    | zero => exact absurd HA.out (by simp [pleatref00_WideRelocs.l0])
    | succ k1 =>
     have H := HA.out
     clear HA
     simp only [pleatref00_WideRelocs.l0] at H
     by_cases c7 : x4_1 < (x3_1.length : Int)
     ·
      rw [if_pos c7] at H
      have c7b0 : decide (x4_1 < (x3_1.length : Int)) = true := decide_eq_true c7
      clear c7
      by_cases c8 : x4_1 < (l0.length : Int)
      ·
       rw [if_pos c8] at H
       have c8b0 : decide (x4_1 < (l0.length : Int)) = true := decide_eq_true c8
       clear c8
       by_cases c9 : 0 ≤ x4_1
       ·
        rw [if_pos c9] at H
        have c9b0 : decide (0 ≤ x4_1) = true := decide_eq_true c9
        clear c9
        obtain ⟨y226, hy226⟩ : ∃ y_ : List (S82), y_ = (x3_1.set (x4_1 : Int).toNat (⟨(rd_T82 l0 x4_1).f0, (rd_T82 l0 x4_1).f1⟩ : S82)) := ⟨_, rfl⟩
        replace H : (pleatref00_WideRelocs.l0 k1 l0 y226 (wrap64 (x4_1 + 1))) = some r := by first | (rw [hy226]; with_reducible exact H) | (have H2_ := (Option.bind_some _ _).symm.trans H; rw [hy226]; with_reducible exact H2_) | (have H2_ := (Option.bind_some _ _).symm.trans H; with_reducible exact H2_) | with_reducible exact H | (rw [hy226]; exact H) | exact H
        have Ny226 := Aside0.mk hy226
        have HFW1 := Aside0.mk (FillW.copy HFW.out c8b0 (getW HFW.out.lo c8b0) Ny226.out)
        clear hy226
        have H' := Aside0.mk H
        clear H
        obtain ⟨Ao11, co11, eo11⟩ := Kd.R_slice HO_3.out
        subst eo11
        have p225 : 0 ≤ (x4_1 : Int) := of_decide_eq_true ‹_›
        have q225 : x4_1 < (l0.length : Int) := of_decide_eq_true ‹_›
        obtain ⟨ad225, e225, hx225_0, hx225_1⟩ := atQ82 HR0.out HB.out x4_1 p225 q225
        cases e225
        replace p225 := eq_true p225
        replace q225 := eq_true q225
        have p10 : 0 ≤ (x4_1 : Int) := of_decide_eq_true ‹_›
        have q10 : (x4_1 : Int) < ((x3_1.length : Int) : Int) := of_decide_eq_true ‹_›
        obtain ⟨go10, co10, eo10, gb10, gl10, cl10, HG10⟩ := Kd.R_form HO_3.out (by omega)
        (first | cases eo10 | (injection eo10 with ea_ en_ ec_; (first | subst ea_ | (injection ea_ with ea_; subst ea_)); subst ec_; clear en_))
        have GB10 := Aside0.mk gb10
        have GG10 := Aside0.mk HG10
        clear gb10 gl10 HG10
        obtain ⟨ce10, hcl10, hM10, hcc10, hfr10⟩ := Kd.R_elem HO_3.out z82 (x4_1 : Int) p10 q10
        obtain rfl := k82_openM hM10
        have hx10_0 : wr.cell? ⟨go10, (x4_1 : Int).toNat * 2, none⟩ = some (.int .i64 ((rd_T82 x3_1 x4_1).f0)) := hcc10 0 _ rfl
        have hx10_1 : wr.cell? ⟨go10, (x4_1 : Int).toNat * 2 + 1, none⟩ = some (.int .i64 ((rd_T82 x3_1 x4_1).f1)) := hcc10 1 _ rfl
        have hf10_0 : wr.frozen? ⟨go10, (x4_1 : Int).toNat * 2, none⟩ = false := hfr10 0
        have hf10_1 : wr.frozen? ⟨go10, (x4_1 : Int).toNat * 2 + 1, none⟩ = false := hfr10 1
        clear hcl10 hcc10 hfr10 hM10
        replace p10 := eq_true p10
        replace q10 := eq_true q10
        have HX12 := Aside0.mk (show Kd.R k82 82 wr w.heap.size (fun _ => True) (.slice (some ⟨go10, 0, none⟩) x3_1.length co11) x3_1 from (by (with_reducible repeat (first | apply Kd.R_alloc | apply Kd.R_drewN | apply Kd.R_drew)); exact HO_3.out))
        obtain ⟨ce12, hcl12, hM12, hcc12, hfr12⟩ := Kd.R_elem HX12.out z82 (x4_1 : Int) (of_decide_eq_true ‹_›) (by have h_ : (x4_1 : Int) < ((x3_1.length : Int) : Int) := of_decide_eq_true ‹_›; first | exact h_ | (have e_ := (Kd.R_reads' HO_3.out).1; omega) | simpa using h_)
        obtain rfl := k82_openM hM12
        have HP12 := Kd.R_seg HX12.out (x4_1 : Int) (of_decide_eq_true ‹_›) (by have h_ : (x4_1 : Int) < ((x3_1.length : Int) : Int) := of_decide_eq_true ‹_›; first | exact h_ | (have e_ := (Kd.R_reads' HO_3.out).1; omega) | simpa using h_) (seg := [.int .i64 ((rd_T82 l0 x4_1).f0), .int .i64 ((rd_T82 l0 x4_1).f1)]) (j := 0) hcl12 hcc12 (show 2 ≤ 2 from by decide) (x' := (⟨(rd_T82 l0 x4_1).f0, (rd_T82 l0 x4_1).f1⟩ : S82)) (k82_mkM _ _ _ (⟨(rd_T82 l0 x4_1).f0, (rd_T82 l0 x4_1).f1⟩ : S82) ) (fun _ hk => hk)
        have hx12_0 := hcc12 0 _ rfl
        (try simp only [show (k82).sz = 2 from rfl, Nat.mul_one, Nat.add_zero] at hx12_0)
        have hf12_0 := hfr12 0
        (try simp only [show (k82).sz = 2 from rfl, Nat.mul_one, Nat.add_zero] at hf12_0)
        have hx12_1 := hcc12 1 _ rfl
        (try simp only [show (k82).sz = 2 from rfl, Nat.mul_one, Nat.add_zero] at hx12_1)
        have hf12_1 := hfr12 1
        (try simp only [show (k82).sz = 2 from rfl, Nat.mul_one, Nat.add_zero] at hf12_1)
        clear hcl12 hcc12 hfr12 hM12
        go_wp2_with (first | ((with_reducible refine gate_store (t := 82) (p := 25) rfl ?_); refine store_event (t := 82) (p := 25) (v := ?vo_w13) (w1 := ((wr.setCell ⟨go10, (x4_1 : Int).toNat * 2, none⟩ (.int .i64 ((rd_T82 l0 x4_1).f0))).setCell ⟨go10, (x4_1 : Int).toNat * 2 + 1, none⟩ (.int .i64 ((rd_T82 l0 x4_1).f1)))) ?hg ?ho ?hn ?hr ?_; (case ho => rfl); (case hg => rfl); (case hn => rfl); (case hr => first | (go_simp; done) | (go_simp; rfl)); intro w13 hw; have hg : wr.grownBy w13 (some go10) := (by rw [hw]; exact HP12.2); have hp_ : Kd.R k82 82 w13 w.heap.size (fun _ => True) (.slice (some ⟨go10, 0, none⟩) x3_1.length co11) y226 := (by rw [hw, Ny226.out]; exact HP12.1); clear HP12; have n0_ := Aside0.mk (hp_); have n1_ := Aside0.mk ((by rw [hw]; exact below_set (below_set (HB.out) GB10.out) GB10.out : Below w.heap.size w w13)); clear HO_3; clear HB; have HO_3 := n0_; have HB := n1_; clear n0_ n1_; clear hg hw hp_))
        go_roundg k1
        case measure => have := HK1.out; omega
        case rel => exact ⟨(y226), (wrap64 (x4_1 + 1)), (by first | rfl | (simp; done) | (simp [*]; done)), H', ⟨by have := HK1.out; omega⟩, HFW1, ⟨by (with_reducible repeat (first | apply Kd.R_alloc | apply Kd.R_drewN | apply Kd.R_drew)); exact HO_3.out⟩, ⟨bwQ HB.out⟩⟩
       ·
        rw [if_neg c9] at H
        exact absurd H (by simp)
      ·
       rw [if_neg c8] at H
       have c8b0 : decide (x4_1 < (l0.length : Int)) = false := decide_eq_false c8
       clear c8
       replace H := Option.bind_eq_some_iff.mp H
       obtain ⟨t227, A140, H⟩ := H
       try dsimp only at H
       have A14 := Aside0.mk A140
       clear A140
       by_cases c15 : 0 ≤ x4_1
       ·
        rw [if_pos c15] at H
        have c15b0 : decide (0 ≤ x4_1) = true := decide_eq_true c15
        clear c15
        obtain ⟨y228, hy228⟩ : ∃ y_ : List (S82), y_ = (x3_1.set (x4_1 : Int).toNat (⟨t227, 0⟩ : S82)) := ⟨_, rfl⟩
        replace H : (pleatref00_WideRelocs.l0 k1 l0 y228 (wrap64 (x4_1 + 1))) = some r := by first | (rw [hy228]; with_reducible exact H) | (have H2_ := (Option.bind_some _ _).symm.trans H; rw [hy228]; with_reducible exact H2_) | (have H2_ := (Option.bind_some _ _).symm.trans H; with_reducible exact H2_) | with_reducible exact H | (rw [hy228]; exact H) | exact H
        have Ny228 := Aside0.mk hy228
        have HFW1 := Aside0.mk (FillW.mark HFW.out c8b0 c7b0 (show (fun i => (⟨markN i, 0⟩ : S82)) x4_1.toNat = _ by rw [numW HFW.out.lo (by have := HFW.out.len; have := HFW.out.big; have := of_decide_eq_true c7b0; omega) A14.out]) Ny228.out)
        clear hy228
        have H' := Aside0.mk H
        clear H
        obtain ⟨Ao17, co17, eo17⟩ := Kd.R_slice HO_3.out
        subst eo17
        go_wp2_with (first | ((with_reducible refine gate_callee (f := 79) rfl ?_); refine goesL_ (some 29) rfl rfl Tryz.func79 (by kernel_rfl) rfl #[.int .i64 9, .int .i64 x4_1] rfl (by (try simp only [List.map_toArray, List.map_cons, List.map_nil]); try rfl) ?_; (with_reducible refine (pleatref00_num.calls 9 x4_1 t227 _ A14.out).mono ?_); rintro e w' ⟨rfl, ⟨nd, rfl⟩⟩; refine ⟨_, rfl, ?_⟩; (try (rw [drewN_self wr]; generalize hq_ : World.drewN wr _ = wr; have n0_ : Aside0 (Kd.R k82 82 wr w.heap.size (fun _ => True) (.slice Ao17 x3_1.length co17) x3_1) := ⟨by rw [← hq_]; exact (by (with_reducible repeat (first | apply Kd.R_alloc | apply Kd.R_drewN | apply Kd.R_drew)); exact HO_3.out)⟩; have n1_ : Aside0 (Below w.heap.size w wr) := ⟨by rw [← hq_]; exact (bwQ HB.out)⟩; clear HO_3 HB hq_; have HO_3 := n0_; have HB := n1_; clear n0_ n1_)); have p16 : 0 ≤ (x4_1 : Int) := of_decide_eq_true ‹_›; have q16 : (x4_1 : Int) < ((x3_1.length : Int) : Int) := of_decide_eq_true ‹_›; obtain ⟨go16, co16, eo16, gb16, gl16, cl16, HG16⟩ := Kd.R_form HO_3.out (by omega); (first | cases eo16 | (injection eo16 with ea_ en_ ec_; (first | subst ea_ | (injection ea_ with ea_; subst ea_)); subst ec_; clear en_)); have GB16 := Aside0.mk gb16; have GG16 := Aside0.mk HG16; clear gb16 gl16 HG16; obtain ⟨ce16, hcl16, hM16, hcc16, hfr16⟩ := Kd.R_elem HO_3.out z82 (x4_1 : Int) p16 q16; obtain rfl := k82_openM hM16; have hx16_0 : wr.cell? ⟨go16, (x4_1 : Int).toNat * 2, none⟩ = some (.int .i64 ((rd_T82 x3_1 x4_1).f0)) := hcc16 0 _ rfl; have hx16_1 : wr.cell? ⟨go16, (x4_1 : Int).toNat * 2 + 1, none⟩ = some (.int .i64 ((rd_T82 x3_1 x4_1).f1)) := hcc16 1 _ rfl; have hf16_0 : wr.frozen? ⟨go16, (x4_1 : Int).toNat * 2, none⟩ = false := hfr16 0; have hf16_1 : wr.frozen? ⟨go16, (x4_1 : Int).toNat * 2 + 1, none⟩ = false := hfr16 1; clear hcl16 hcc16 hfr16 hM16; replace p16 := eq_true p16; replace q16 := eq_true q16; have HX18 := Aside0.mk (show Kd.R k82 82 wr w.heap.size (fun _ => True) (.slice (some ⟨go16, 0, none⟩) x3_1.length co17) x3_1 from (by (with_reducible repeat (first | apply Kd.R_alloc | apply Kd.R_drewN | apply Kd.R_drew)); exact HO_3.out)); obtain ⟨ce18, hcl18, hM18, hcc18, hfr18⟩ := Kd.R_elem HX18.out z82 (x4_1 : Int) (of_decide_eq_true ‹_›) (by have h_ : (x4_1 : Int) < ((x3_1.length : Int) : Int) := of_decide_eq_true ‹_›; first | exact h_ | (have e_ := (Kd.R_reads' HO_3.out).1; omega) | simpa using h_); obtain rfl := k82_openM hM18; have HP18 := Kd.R_seg HX18.out (x4_1 : Int) (of_decide_eq_true ‹_›) (by have h_ : (x4_1 : Int) < ((x3_1.length : Int) : Int) := of_decide_eq_true ‹_›; first | exact h_ | (have e_ := (Kd.R_reads' HO_3.out).1; omega) | simpa using h_) (seg := [.int .i64 t227, .int .i64 0]) (j := 0) hcl18 hcc18 (show 2 ≤ 2 from by decide) (x' := (⟨t227, 0⟩ : S82)) (k82_mkM _ _ _ (⟨t227, 0⟩ : S82) ) (fun _ hk => hk); have hx18_0 := hcc18 0 _ rfl; (try simp only [show (k82).sz = 2 from rfl, Nat.mul_one, Nat.add_zero] at hx18_0); have hf18_0 := hfr18 0; (try simp only [show (k82).sz = 2 from rfl, Nat.mul_one, Nat.add_zero] at hf18_0); have hx18_1 := hcc18 1 _ rfl; (try simp only [show (k82).sz = 2 from rfl, Nat.mul_one, Nat.add_zero] at hx18_1); have hf18_1 := hfr18 1; (try simp only [show (k82).sz = 2 from rfl, Nat.mul_one, Nat.add_zero] at hf18_1); clear hcl18 hcc18 hfr18 hM18) | ((with_reducible refine gate_store (t := 82) (p := 31) rfl ?_); refine store_event (t := 82) (p := 31) (v := ?vo_w19) (w1 := ((wr.setCell ⟨go16, (x4_1 : Int).toNat * 2, none⟩ (.int .i64 t227)).setCell ⟨go16, (x4_1 : Int).toNat * 2 + 1, none⟩ (.int .i64 0))) ?hg ?ho ?hn ?hr ?_; (case ho => rfl); (case hg => rfl); (case hn => rfl); (case hr => first | (go_simp; done) | (go_simp; rfl)); intro w19 hw; have hg : wr.grownBy w19 (some go16) := (by rw [hw]; exact HP18.2); have hp_ : Kd.R k82 82 w19 w.heap.size (fun _ => True) (.slice (some ⟨go16, 0, none⟩) x3_1.length co17) y228 := (by rw [hw, Ny228.out]; exact HP18.1); clear HP18; have n0_ := Aside0.mk (hp_); have n1_ := Aside0.mk ((by rw [hw]; exact below_set (below_set (HB.out) GB16.out) GB16.out : Below w.heap.size w w19)); clear HO_3; clear HB; have HO_3 := n0_; have HB := n1_; clear n0_ n1_; clear hg hw hp_))
        go_roundg k1
        case measure => have := HK1.out; omega
        case rel => exact ⟨(y228), (wrap64 (x4_1 + 1)), (by first | rfl | (simp; done) | (simp [*]; done)), H', ⟨by have := HK1.out; omega⟩, HFW1, ⟨by (with_reducible repeat (first | apply Kd.R_alloc | apply Kd.R_drewN | apply Kd.R_drew)); exact HO_3.out⟩, ⟨bwQ HB.out⟩⟩
       ·
        rw [if_neg c15] at H
        exact absurd H (by simp)
     ·
      rw [if_neg c7] at H
      have c7b0 : decide (x4_1 < (x3_1.length : Int)) = false := decide_eq_false c7
      clear c7
      by_cases c20 : 0 ≤ (l0.length : Int)
      ·
       rw [if_pos c20] at H
       have c20b0 := eq_true c20
       have c20b1 : decide (0 ≤ (l0.length : Int)) = true := decide_eq_true c20
       clear c20
       by_cases c21 : (l0.length : Int) ≤ (x3_1.length : Int)
       ·
        rw [if_pos c21] at H
        have c21b0 := eq_true c21
        have c21b1 : decide ((l0.length : Int) ≤ (x3_1.length : Int)) = true := decide_eq_true c21
        clear c21
        obtain ⟨y229, hy229⟩ : ∃ y_ : List (S82), y_ = (x3_1.take ((l0.length : Int) : Int).toNat) := ⟨_, rfl⟩
        replace H : (some y229) = some r := by first | (rw [hy229]; with_reducible exact H) | (have H2_ := (Option.bind_some _ _).symm.trans H; rw [hy229]; with_reducible exact H2_) | (have H2_ := (Option.bind_some _ _).symm.trans H; with_reducible exact H2_) | with_reducible exact H | (rw [hy229]; exact H) | exact H
        have Ny229 := Aside0.mk hy229
        clear hy229
        obtain rfl := Option.some.inj H
        obtain ⟨Ao22, co22, eo22⟩ := Kd.R_slice HO_3.out
        subst eo22
        have q23 : ((l0.length : Int) : Int) ≤ ((x3_1.length : Int) : Int) := of_decide_eq_true ‹_›
        obtain ⟨i023, hi023, _, hsz23, _⟩ := info_parts info82
        have hcut23 := cut_to (P := Tryz.prog) 25 82 .i64 Tryz.underlying25 hi023 Ao22 x3_1.length co22 (l0.length : Int) (of_decide_eq_true ‹_›) q23 (Kd.R_reads' HO_3.out).2.1
        have HWd := Aside0.mk (HFW.out.done c7b0)
        have HRW := Aside0.mk HO_3.out
        have HLW := Aside0.mk (show y229.length = l0.length by rw [Ny229.out, List.length_take, Int.toNat_natCast, HFW.out.len]; omega)
        have hr23 := Kd.R_take (m := ((l0.length : Int) : Int).toNat) HO_3.out (by omega)
        have hy23 : y229.length = ((l0.length : Int) : Int).toNat := (by rw [Ny229.out, List.length_take]; omega)
        rw [← Ny229.out] at hr23
        rw [← hy23] at hr23 hcut23
        clear hy23 hi023 hsz23 HO_3
        have HO231 := Aside0.mk hr23
        clear hr23
        replace q23 := eq_true q23
        go_wp2
        go_ret
        exact ⟨_, by first | rfl | (simp [errW_none, errW_some] <;> rfl) | (simp only [← hji2]; first | rfl | (simp [errW_none, errW_some] <;> rfl)) | (simp [*, errW_none, errW_some] <;> rfl), by (with_reducible repeat (first | apply Kd.R_alloc | apply Kd.R_drewN | apply Kd.R_drew)); exact HO231.out, bwQ HB.out, WideC.of (by (with_reducible repeat (first | apply Kd.R_alloc | apply Kd.R_drewN | apply Kd.R_drew)); exact HRW.out) rfl HWd.out HLW.out⟩
       ·
        rw [if_neg c21] at H
        exact absurd H (by simp)
      ·
       rw [if_neg c20] at H
       exact absurd H (by simp)
  ·
   rw [if_neg c4] at H
   exact absurd H (by simp)
 ·
  rw [if_neg c3] at H
  exact absurd H (by simp)
theorem pleatref00_WideRelocs.calls (k : Nat) (A0 : Option Addr) (c0 : Nat) (l0 : List (S82)) (r : List (S82)) (w : World) (hr0 : Kd.C k82 w A0 l0.length l0) (hc0 : l0.length ≤ c0) (h : pleatref00_WideRelocs.f k l0 = some r) :
  Calls Tryz.prog 24 #[.slice A0 l0.length c0] w fun e w' => ∃ v0_ : Value, e = .returned (v0_) ∧ Kd.R k82 82 w' w.heap.size (fun _ => True) v0_ r ∧ Below w.heap.size w w' := (pleatref00_WideRelocs.callsW k A0 c0 l0 r w hr0 hc0 h).mono fun _ _ ⟨v, h1, h2, h3, _⟩ => ⟨v, h1, h2, h3⟩
end Go.Proofs.YtiaohbbafaaibabGreatDoor.P
