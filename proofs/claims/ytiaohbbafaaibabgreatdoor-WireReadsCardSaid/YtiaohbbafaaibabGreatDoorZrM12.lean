/- OWN TEXT and printed parts of this claim, laid together: P7, HLives4, P19, P20, HReads, Opn, OpnW. -/
import Derived.Test.YtiaohbbafaaibabGreatDoorZrM0
import Derived.Test.YtiaohbbafaaibabGreatDoorZrM8
import Derived.Test.YtiaohbbafaaibabGreatDoorZrM9
import Derived.Test.YtiaohbbafaaibabGreatDoorZrM11
import Derived.Test.YtiaohbbafaaibabGreatDoorZrWWords
import Derived.SizedLaws
import Derived.Deep.Slices
import Derived.Deep.Fields
import Derived.ChangeSame
import Derived.OpenShut
/- What the Go functions named below come to, as plain functions, each with its proof; written by this session's prt.py over the kit's print. -/
namespace Go.Proofs.YtiaohbbafaaibabGreatDoor.P
open Go.RowKit Go.Proofs.YtiaohbbafaaibabGreatDoorW.PrintWords Go.Proofs.YtiaohbbafaaibabGreatDoorW.PrintLast Go.Proofs.YtiaohbbafaaibabGreatDoorW.PrintMore
attribute [local go_sem] max2_int min2_int max_two min_two max_three min_three max_four min_four   -- for this text's walks alone
set_option linter.unusedVariables false
set_option linter.unusedSimpArgs false
def pleatlaw04_one.f  : Option (ByteArray × List Int × Int × List Int × (List (S65)) × (List (S82))) := some ((⟨#[109, 97, 105, 110]⟩ : ByteArray), (([2818572288] : List Int)), 0, ([] : List Int), ([] : List (S65)), ([] : List (S82)))
set_option maxHeartbeats 8000000 in
set_option maxRecDepth 100000 in
theorem pleatlaw04_one.calls  (r1 : ByteArray) (r2 : List Int) (r3 : Int) (r4 : List Int) (r5 : List (S65)) (r6 : List (S82)) (w : World) (h : pleatlaw04_one.f  = some (r1, r2, r3, r4, r5, r6)) :
  Calls Tryz.prog 20 #[] w fun e w' => ∃ v1_ v3_ v4_ v5_ : Value, e = .returned (.agg #[.string r1, v1_, .int .i64 r3, v3_, v4_, v5_]) ∧ Kd.R (Kd.int .u32) 78 w' w.heap.size (fun _ => True) v1_ r2 ∧ Kd.R (Kd.int .i64) 2 w' w.heap.size (fun _ => True) v3_ r4 ∧ Kd.R k65 65 w' w.heap.size (fun _ => True) v4_ r5 ∧ Kd.R k82 82 w' w.heap.size (fun _ => True) v5_ r6 ∧ Below w.heap.size w w' := by
 have hu27 := Tryz.underlying27
 have HB := Aside0.mk (Below.refl w.heap.size w)
 have H : (some ((⟨#[109, 97, 105, 110]⟩ : ByteArray), (([2818572288] : List Int)), 0, ([] : List Int), ([] : List (S65)), ([] : List (S82)))) = some (r1, r2, r3, r4, r5, r6) := h
 clear h
 obtain ⟨y135, hy135⟩ : ∃ y_ : List Int, y_ = (([2818572288] : List Int)) := ⟨_, rfl⟩
 replace H : (some ((⟨#[109, 97, 105, 110]⟩ : ByteArray), y135, 0, ([] : List Int), ([] : List (S65)), ([] : List (S82)))) = some (r1, r2, r3, r4, r5, r6) := by first | (rw [hy135]; with_reducible exact H) | (have H2_ := (Option.bind_some _ _).symm.trans H; rw [hy135]; with_reducible exact H2_) | (have H2_ := (Option.bind_some _ _).symm.trans H; with_reducible exact H2_) | with_reducible exact H | (rw [hy135]; exact H) | exact H
 have Ny135 := Aside0.mk hy135
 clear hy135
 simp only [Option.some.injEq, Prod.mk.injEq] at H
 obtain ⟨rfl, rfl, rfl, rfl, rfl, rfl⟩ := H
 go_enter Tryz.func20, Tryz.ntmps20
 go_wp2_with (first | ((with_reducible refine gate_dst (N := 0) rfl ?_); refine box_event ?hg (N := 0) ?hd (cs := #[.string (⟨#[]⟩ : ByteArray), .slice none 0 0, .int .i64 0, .slice none 0 0, .slice none 0 0, .slice none 0 0]) (t := 27) ?hr ?_; (case hd => rfl); (case hg => rfl); (case hr => go_simp; try rfl); intro gb134 hg w1 hbox hb; have BK134 := Aside0.mk (hbox); have GW134 := Aside0.mk (gwQ hg HB.out); have GE134 := Aside0.mk (gwQ hg HB.out); replace HB := Aside0.mk (bsQ hb HB.out); clear hb hbox hg) | ((with_reducible refine gate_dst (N := 1) rfl ?_); refine Kd.R_lit (Kd.int .u32) _ 78 ?hg (N := 1) ?hd (xs := ([2818572288] : List Int)) (inner := [.int .u32 2818572288]) (ok := fun _ => True) (okp := fun _ => True) ?hr ?hp (fun _ hk => hk) trivial (Below.refl _ _) (Nat.le_refl _) (by simp) ?_; (case hd => rfl); (case hg => rfl); (case hr => go_simp; try rfl); (case hp => exact (Reps.one (show Kd.M (Kd.int .u32) _ _ _ 2818572288 [.int .u32 2818572288] from rfl) (Reps.none _ _))); intro v136 w2 ho3 hb hg_ hnew_; clear hg_ hnew_; (first | rw [← Ny135.out] at ho3 | (simp only [Int.reduceToNat] at ho3; rw [← Ny135.out] at ho3)); have HO137 := Aside0.mk (Kd.R_lower ho3 (below_size (by repeat with_reducible first | exact HB.out | apply pw_below_drewN | apply below_drew1 | refine below_set ?_ GE134.out))); replace BK134 := Aside0.mk (bbQ hb BK134.out); replace HB := Aside0.mk (bs1Q hb (by repeat with_reducible first | exact HB.out | apply pw_below_drewN | apply below_drew1 | refine below_set ?_ GE134.out)); clear hb ho3; obtain ⟨Ao4, co4, eo4⟩ := Kd.R_slice HO137.out; subst eo4; obtain ⟨hcz5_0, hcz5_1, hcz5_2, hcz5_3, hcz5_4, hcz5_5⟩ := bcQ6 BK134.out; obtain ⟨hfz5_0, hfz5_1, hfz5_2, hfz5_3, hfz5_4, hfz5_5⟩ := fzQ6 BK134.out))
 refine bodyPost_ret (results_cell_row rfl _ _ gb134 27 #[.string (⟨#[109, 97, 105, 110]⟩ : ByteArray), .slice Ao4 y135.length co4, .int .i64 0, .slice none 0 0, .slice none 0 0, .slice none 0 0] (0, 0) _ rfl (by refine blk_put (cs := #[.string (⟨#[109, 97, 105, 110]⟩ : ByteArray), .slice Ao4 y135.length co4, .int .i64 0, .slice none 0 0, .slice none 0 0, .slice none 0 0]) ?_ 5 _ rfl; refine blk_put (cs := #[.string (⟨#[109, 97, 105, 110]⟩ : ByteArray), .slice Ao4 y135.length co4, .int .i64 0, .slice none 0 0, .slice none 0 0, .slice none 0 0]) ?_ 4 _ rfl; refine blk_put (cs := #[.string (⟨#[109, 97, 105, 110]⟩ : ByteArray), .slice Ao4 y135.length co4, .int .i64 0, .slice none 0 0, .slice none 0 0, .slice none 0 0]) ?_ 3 _ rfl; refine blk_put (cs := #[.string (⟨#[109, 97, 105, 110]⟩ : ByteArray), .slice Ao4 y135.length co4, .int .i64 0, .slice none 0 0, .slice none 0 0, .slice none 0 0]) ?_ 2 _ rfl; refine blk_put (cs := #[.string (⟨#[109, 97, 105, 110]⟩ : ByteArray), .slice none 0 0, .int .i64 0, .slice none 0 0, .slice none 0 0, .slice none 0 0]) ?_ 1 _ rfl; refine blk_put (cs := #[.string (⟨#[]⟩ : ByteArray), .slice none 0 0, .int .i64 0, .slice none 0 0, .slice none 0 0, .slice none 0 0]) ?_ 0 _ rfl; exact BK134.out) Tryz.underlying27 rfl (by kernel_rfl)) rfl ?_
 exact ⟨_, _, _, _, by first | rfl | (simp [errW_none, errW_some] <;> rfl) | (simp [*, errW_none, errW_some] <;> rfl), by (with_reducible repeat (first | apply Kd.R_alloc | apply Kd.R_drewN | apply Kd.R_drew)); exact Kd.R_mono (Kd.R_far (p := ⟨gb134, 5, none⟩) (Kd.R_far (p := ⟨gb134, 4, none⟩) (Kd.R_far (p := ⟨gb134, 3, none⟩) (Kd.R_far (p := ⟨gb134, 2, none⟩) (Kd.R_far (p := ⟨gb134, 1, none⟩) (Kd.R_far (p := ⟨gb134, 0, none⟩) (Kd.R_types HO137.out BK134.out (by decide)) (fun _ hk => hk.2) (.string (⟨#[109, 97, 105, 110]⟩ : ByteArray))) (fun _ hk => hk.2) (.slice Ao4 y135.length co4)) (fun _ hk => hk.2) (.int .i64 0)) (fun _ hk => hk.2) (.slice none 0 0)) (fun _ hk => hk.2) (.slice none 0 0)) (fun _ hk => hk.2) (.slice none 0 0)) (fun _ hk => trivial), by first | exact Kd.R_nil _ _ _ _ _ | exact Kd.N_nil _ _ _ _ _ | exact Kd.V_nil _ _ _ _ _ | exact Kd.Q_nil _ _ _ _ _ | exact Kd.S_nil _ _ _ _ _, by first | exact Kd.R_nil _ _ _ _ _ | exact Kd.N_nil _ _ _ _ _ | exact Kd.V_nil _ _ _ _ _ | exact Kd.Q_nil _ _ _ _ _ | exact Kd.S_nil _ _ _ _ _, by first | exact Kd.R_nil _ _ _ _ _ | exact Kd.N_nil _ _ _ _ _ | exact Kd.V_nil _ _ _ _ _ | exact Kd.Q_nil _ _ _ _ _ | exact Kd.S_nil _ _ _ _ _, by repeat with_reducible first | exact HB.out | apply pw_below_drewN | apply below_drew1 | refine below_set ?_ GE134.out⟩
end Go.Proofs.YtiaohbbafaaibabGreatDoor.P

/- OWN TEXT: the small known run that the laws of wire ask of the program, walked: it answers true. -/
namespace Go.Proofs.YtiaohbbafaaibabGreatDoor.P
open Go.RowKit Go.Maps Go.Proofs.YtiaohbbafaaibabGreatDoorW.PrintWords Go.Proofs.YtiaohbbafaaibabGreatDoorW.PrintLast Go.Proofs.YtiaohbbafaaibabGreatDoorW.PrintMore Go.Proofs.YtiaohbbafaaibabGreatDoor.Arr Go.Proofs.YtiaohbbafaaibabGreatDoor.MapB
set_option linter.unusedVariables false
set_option linter.unusedSimpArgs false
def oneN : ByteArray := ⟨#[109, 97, 105, 110]⟩
def oneC : List Int := [2818572288]
def oneD : List Int := []
def oneS : List Sym := []
def oneR : List Rel := []
def oneB : List Int := writeB oneN oneC 0 oneD oneS oneR
theorem one_f : pleatlaw04_one.f = some (oneN, oneC, 0, oneD, oneS, oneR) := by kernel_rfl
theorem one_chk : object_Check.f oneN oneC 0 oneD oneS oneR = some (0, 0) := by kernel_rfl
theorem one_chkO : (chkO oneN oneC 0 oneD oneS oneR).1 = 0 := by kernel_rfl
theorem zero_chk : object_Check.f ⟨#[]⟩ [] 0 [] [] [] = some (20, -1) := by kernel_rfl
theorem one_ok : WOk oneN oneC 0 oneD oneS oneR := ⟨by decide, by decide, fun i hi => by
  obtain rfl : i = 0 := by have : oneC.length = 1 := rfl; omega
  exact ⟨by decide, by decide⟩, ⟨by decide, by decide⟩, by decide, by decide, fun i hi => absurd hi (Nat.not_lt_zero i), by decide, fun i hi => absurd hi (Nat.not_lt_zero i)⟩
theorem one_read : readC oneB = (0, 0) ∧ ∃ s, ra5 oneB = ⟨oneN, oneC, 0, oneD, oneS, oneR, s⟩ := written_read oneN oneC 0 oneD oneS oneR one_ok (by decide) (fun x hx => by cases hx) one_chkO
theorem oneB_len : ((oneB.length : Int) == 40) = true := by kernel_rfl
theorem oneB_long : oneB.length ≤ 1099511627776 := by
 have h : oneB.length = 40 := by kernel_rfl
 omega
theorem oneB_by : ∀ x ∈ oneB, 0 ≤ x ∧ x < 256 := by
 intro x hx
 have h : (oneB.all fun x => decide (0 ≤ x) && decide (x < 256)) = true := by kernel_rfl
 have := List.all_eq_true.1 h x hx
 rw [Bool.and_eq_true, decide_eq_true_eq, decide_eq_true_eq] at this
 exact this
def lives4T : Bool × List (List Nat × List Nat) := (true, [([], []), ([0], [0]), ([1], [1]), ([2], [2]), ([3, 2], [2, 3]), ([2, 4], [2, 4]), ([5, 2], [5]), ([6], [6]), ([7, 6], [6, 7]), ([6, 8], [6, 8]), ([9, 6], [9]), ([10], [10]), ([11, 10], [10, 11]), ([12, 10], [10, 12]), ([10, 13], [10, 13]), ([14, 10], [14]), ([15], [15]), ([15, 15], [15]), ([16, 17, 17, 15], [15, 16, 17]), ([15, 18], [15, 18]), ([19, 18, 0, 1, 2, 3, 4, 5, 6, 7, 8, 9, 10, 11, 12, 13, 14, 15, 16, 17, 18, 19], [19])])
def lives4B : List Nat := [0, 1, 3, 7, 15, 31, 63, 127, 255, 511, 1023, 2047, 4095, 8191, 16383, 32767, 65535, 65535, 262143, 524287, 1048575]
theorem lives4_tab : rtab .any (opsOf Tryz.f6 4) = lives4T := by kernel_rfl
theorem lives4_bits : waitsOk lives4T.2 lives4B = true := by kernel_rfl
set_option maxHeartbeats 8000000 in
set_option maxRecDepth 100000 in
theorem lives4.calls (w : World) (hgl : w.cell? ⟨0, 0, none⟩ = some (.iface 182 (.agg #[.pointer (some ⟨4, 95, none⟩)]))) : Calls Tryz.prog 6 #[] w fun e w' => e = .returned (.bool true) ∧ Below w.heap.size w w' := by
 have hu1 := Tryz.underlying27
 have HB := Aside0.mk (Below.refl w.heap.size w)
 have HGL := Aside0.mk hgl
 have hlen := oneB_len
 clear hgl
 go_enter Tryz.func6, Tryz.ntmps6
 go_wp2_with (first | (go_at_call 20; refine (pleatlaw04_one.calls _ _ _ _ _ _ _ one_f).mono ?_; rintro e_ w1 ⟨v1, v3, v4, v5, rfl, h1, h3, h4, h5, hb⟩; obtain ⟨A1, c1, e1⟩ := Kd.R_slice h1; obtain ⟨A3, c3, e3⟩ := Kd.R_slice h3; obtain ⟨A4, c4, e4⟩ := Kd.R_slice h4; obtain ⟨A5, c5, e5⟩ := Kd.R_slice h5; subst e1 e3 e4 e5; have HO := Aside0.mk (And.intro h1 (And.intro h3 (And.intro h4 h5))); replace HB := Aside0.mk (bsQ hb HB.out); clear hb h1 h3 h4 h5) | (go_at_call 8; refine (write_ok.calls _ _ _ _ _ _ _ _ _ _ _ _ _ _ _ 0 (Kd.R_reads' HO.out.1).2.2 (Kd.R_reads' HO.out.1).2.1 (Kd.R_reads' HO.out.2.1).2.2 (Kd.R_reads' HO.out.2.1).2.1 (Kd.R_reads' HO.out.2.2.1).2.2 (Kd.R_reads' HO.out.2.2.1).2.1 (Kd.R_reads' HO.out.2.2.2).2.2 (Kd.R_reads' HO.out.2.2.2).2.1 one_chk one_ok).mono ?_; rintro e_ w2 ⟨vb, rfl, hr, hb⟩; have hr2 : Kd.R (Kd.int .u8) 5 w2 _ (fun _ => True) vb oneB := hr; obtain ⟨Ab, cb, eb⟩ := Kd.R_slice hr2; subst eb; have HW := Aside0.mk hr2; replace HB := Aside0.mk (bsQ hb HB.out); clear HO hb hr hr2))
 go_wp2_with (first | (go_at_call 16; refine (wread.calls Ab cb oneB _ (Kd.R_reads' HW.out).2.2 (Kd.R_reads' HW.out).2.1 oneB_long oneB_by (pw_cell_below HB.out HGL.out)).mono ?_; rintro e_ w3 ⟨ov, rfl, hb, hok, _⟩; obtain ⟨hr0, s0, hr5⟩ := one_read; obtain ⟨v1, v3, v4, v5, rfl, h1, h3, h4, h5⟩ := hok (by rw [hr0]); rw [hr5] at h1 h3 h4 h5 ⊢; rw [hr0]; obtain ⟨A1, c1, e1⟩ := Kd.R_slice h1; obtain ⟨A3, c3, e3⟩ := Kd.R_slice h3; obtain ⟨A4, c4, e4⟩ := Kd.R_slice h4; obtain ⟨A5, c5, e5⟩ := Kd.R_slice h5; subst e1 e3 e4 e5; have HO := Aside0.mk (And.intro h1 (And.intro h3 (And.intro h4 h5))); replace HB := Aside0.mk (bsQ hb HB.out); clear hb h1 h3 h4 h5 hok hr0 hr5) | ((with_reducible refine gate_dst (N := 3) rfl ?_); refine box_event ?hg (N := 3) ?hd (cs := zObj) (t := 27) ?hr ?_; (case hd => rfl); (case hg => rfl); (case hr => first | (go_simp; done) | (go_simp; rfl)); intro gx hg w4 BK_ hb; replace HO := Aside0.mk (And.intro (Kd.R_below HO.out.1 hb) (And.intro (Kd.R_below HO.out.2.1 hb) (And.intro (Kd.R_below HO.out.2.2.1 hb) (Kd.R_below HO.out.2.2.2 hb)))); have GX := Aside0.mk (gwQ hg HB.out); replace HB := Aside0.mk (bsQ hb HB.out); have BX := Aside0.mk BK_; clear BK_ hb hg) | ((with_reducible refine gate_store (t := 27) rfl ?_); refine wpList_store_whole rfl rfl rfl gx _ #[.string oneN, .slice A1 oneC.length c1, .int .i64 0, .slice A3 oneD.length c3, .slice A4 oneS.length c4, .slice A5 oneR.length c5] _ rfl rfl BX.out (by kernel_rfl) rfl (obj_oneR _ _ _ _ _ _ _ _ _ _ _ _ _ _) ?_; intro w5 hp; replace HO := Aside0.mk (And.intro (Kd.R_grown1 HO.out.1 rfl (put_grownN hp) (Kd.R_ne HO.out.1 BX.out (by decide))) (And.intro (Kd.R_grown1 HO.out.2.1 rfl (put_grownN hp) (Kd.R_ne HO.out.2.1 BX.out (by decide))) (And.intro (Kd.R_grown1 HO.out.2.2.1 rfl (put_grownN hp) (Kd.R_ne HO.out.2.2.1 BX.out (by decide))) (Kd.R_grown1 HO.out.2.2.2 rfl (put_grownN hp) (Kd.R_ne HO.out.2.2.2 BX.out (by decide)))))); replace HB := Aside0.mk (hp.below HB.out GX.out); replace BX := Aside0.mk hp.blk; clear hp))
 go_upto_region 4 with ((go_at_call 8; refine (write_bad.calls ⟨#[]⟩ none 0 [] 0 none 0 [] none 0 [] none 0 [] _ 20 (-1) (Kd.R_reads' (Kd.R_nil _ 0 _ 0 (fun _ => True))).2.2 (Nat.le_refl 0) (Kd.R_reads' (Kd.R_nil _ 0 _ 0 (fun _ => True))).2.2 (Nat.le_refl 0) (Kd.R_reads' (Kd.R_nil _ 0 _ 0 (fun _ => True))).2.2 (Nat.le_refl 0) (Kd.R_reads' (Kd.R_nil _ 0 _ 0 (fun _ => True))).2.2 (Nat.le_refl 0) zero_chk (by decide)).mono ?_; rintro e_ w6 ⟨rfl, hb⟩; replace HO := Aside0.mk (And.intro (Kd.R_below HO.out.1 hb) (And.intro (Kd.R_below HO.out.2.1 hb) (And.intro (Kd.R_below HO.out.2.2.1 hb) (Kd.R_below HO.out.2.2.2 hb)))); replace BX := Aside0.mk (blk_below BX.out hb); replace HB := Aside0.mk (bsQ hb HB.out); clear hb))
 have HBn := Aside0.mk (below_drew1 HB.out)
 have BXn := Aside0.mk (blk_drew BX.out)
 have HOn := Aside0.mk (And.intro (Kd.R_drew HO.out.1) (And.intro (Kd.R_drew HO.out.2.1) (And.intro (Kd.R_drew HO.out.2.2.1) (Kd.R_drew HO.out.2.2.2))))
 clear HB BX HO HW
 have HB := HBn
 have BX := BXn
 have HO := HOn
 clear HBn BXn HOn
 refine start_ (n := 21) (S := fun w' => w'.cell? ⟨gx, 0, none⟩ = some (.string oneN) ∧ w'.cell? ⟨gx, 1, none⟩ = some (.slice A1 oneC.length c1) ∧ w'.cell? ⟨gx, 2, none⟩ = some (.int .i64 0) ∧ w'.cell? ⟨gx, 3, none⟩ = some (.slice A3 oneD.length c3) ∧ w'.cell? ⟨gx, 4, none⟩ = some (.slice A4 oneS.length c4) ∧ w'.cell? ⟨gx, 5, none⟩ = some (.slice A5 oneR.length c5)) (ds := []) #[false, false, false, false, false, false, false, false, false, false, false, false, false, false, false, false, false, false, false, false, false] (by kernel_rfl) rfl rfl ⟨(blk_cell BX.out 0).trans rfl, (blk_cell BX.out 1).trans rfl, (blk_cell BX.out 2).trans rfl, (blk_cell BX.out 3).trans rfl, (blk_cell BX.out 4).trans rfl, (blk_cell BX.out 5).trans rfl⟩ (fun hHeld => ?_)
 refine with_tabW lives4_tab lives4_bits (fun HT_ HW_ => ?_)
 generalize w6.drew = w7 at HO BX HB hHeld ⊢
 refine pure_ (i := 0) (N := some 24) (v := ?_) (a' := ?_) #[true, false, false, false, false, false, false, false, false, false, false, false, false, false, false, false, false, false, false, false, false] rfl rfl (any_of HT_.out (by kernel_rfl)) (fun _ _ _ h => h) (Or.inl ⟨by rfl, ?_⟩) ?_ ?_
 rotate_left
 ·
  intro w'
  go_simp
  with_reducible rfl
 rotate_left
 ·
  simp only [Act.put, List.setIfInBounds_toArray, List.set_cons_zero, List.set_cons_succ, i64_w, i32_w]
  rfl
 refine pure_ (i := 1) (N := some 25) (v := ?_) (a' := ?_) #[true, true, false, false, false, false, false, false, false, false, false, false, false, false, false, false, false, false, false, false, false] rfl rfl (any_of HT_.out (by kernel_rfl)) (fun _ _ _ h => h) (Or.inl ⟨by rfl, ?_⟩) ?_ ?_
 rotate_left
 ·
  intro w'
  go_simp
  with_reducible rfl
 rotate_left
 ·
  simp only [Act.put, List.setIfInBounds_toArray, List.set_cons_zero, List.set_cons_succ, i64_w, i32_w]
  rfl
 refine pure_ (i := 2) (N := some 26) (v := ?_) (a' := ?_) #[true, true, true, false, false, false, false, false, false, false, false, false, false, false, false, false, false, false, false, false, false] rfl rfl (any_of HT_.out (by kernel_rfl)) (fun _ _ _ h => h) (Or.inl ⟨by rfl, ?_⟩) ?_ ?_
 rotate_left
 ·
  intro w'
  go_simp
  with_reducible rfl
 rotate_left
 ·
  simp only [Act.put, List.setIfInBounds_toArray, List.set_cons_zero, List.set_cons_succ, i64_w, i32_w]
  rfl
 refine pure_ (i := 3) (N := some 27) (v := ?_) (a' := ?_) #[true, true, true, true, false, false, false, false, false, false, false, false, false, false, false, false, false, false, false, false, false] rfl rfl (any_of HT_.out (by kernel_rfl)) (fun _ _ _ h => h) (Or.inl ⟨by rfl, ?_⟩) ?_ ?_
 rotate_left
 ·
  intro w'
  go_simp
  with_reducible rfl
 rotate_left
 ·
  simp only [Act.put, List.setIfInBounds_toArray, List.set_cons_zero, List.set_cons_succ, i64_w, i32_w]
  rfl
 refine pure_ (i := 4) (N := some 28) (v := ?_) (a' := ?_) #[true, true, true, true, true, false, false, false, false, false, false, false, false, false, false, false, false, false, false, false, false] rfl rfl (any_of HT_.out (by kernel_rfl)) (fun _ _ _ h => h) (Or.inl ⟨by rfl, ?_⟩) ?_ ?_
 rotate_left
 ·
  intro w'
  go_simp
  with_reducible rfl
 rotate_left
 ·
  simp only [Act.put, List.setIfInBounds_toArray, List.set_cons_zero, List.set_cons_succ, i64_w, i32_w]
  rfl
 refine pure_ (i := 5) (N := some 29) (v := ?_) (a' := ?_) #[true, true, true, true, true, true, false, false, false, false, false, false, false, false, false, false, false, false, false, false, false] rfl rfl (any_of HT_.out (by kernel_rfl)) (fun _ _ _ h => h) (Or.inl ⟨by rfl, ?_⟩) ?_ ?_
 rotate_left
 ·
  intro w'
  go_simp
  with_reducible rfl
 rotate_left
 ·
  simp only [Act.put, List.setIfInBounds_toArray, List.set_cons_zero, List.set_cons_succ, i64_w, i32_w]
  rfl
 refine pure_ (i := 6) (N := some 30) (v := ?_) (a' := ?_) #[true, true, true, true, true, true, true, false, false, false, false, false, false, false, false, false, false, false, false, false, false] rfl rfl (any_of HT_.out (by kernel_rfl)) (fun _ _ _ h => h) (Or.inl ⟨by rfl, ?_⟩) ?_ ?_
 rotate_left
 ·
  intro w'
  go_simp
  with_reducible rfl
 rotate_left
 ·
  simp only [Act.put, List.setIfInBounds_toArray, List.set_cons_zero, List.set_cons_succ, i64_w, i32_w]
  rfl
 refine pure_ (i := 7) (N := some 31) (v := ?_) (a' := ?_) #[true, true, true, true, true, true, true, true, false, false, false, false, false, false, false, false, false, false, false, false, false] rfl rfl (any_of HT_.out (by kernel_rfl)) (fun _ _ _ h => h) (Or.inl ⟨by rfl, ?_⟩) ?_ ?_
 rotate_left
 ·
  intro w'
  go_simp
  with_reducible rfl
 rotate_left
 ·
  simp only [Act.put, List.setIfInBounds_toArray, List.set_cons_zero, List.set_cons_succ, i64_w, i32_w]
  rfl
 refine pure_ (i := 8) (N := some 32) (v := ?_) (a' := ?_) #[true, true, true, true, true, true, true, true, true, false, false, false, false, false, false, false, false, false, false, false, false] rfl rfl (any_of HT_.out (by kernel_rfl)) (fun _ _ _ h => h) (Or.inl ⟨by rfl, ?_⟩) ?_ ?_
 rotate_left
 ·
  intro w'
  go_simp
  with_reducible rfl
 rotate_left
 ·
  simp only [Act.put, List.setIfInBounds_toArray, List.set_cons_zero, List.set_cons_succ, i64_w, i32_w]
  rfl
 refine pure_ (i := 9) (N := some 33) (v := ?_) (a' := ?_) #[true, true, true, true, true, true, true, true, true, true, false, false, false, false, false, false, false, false, false, false, false] rfl rfl (any_of HT_.out (by kernel_rfl)) (fun _ _ _ h => h) (Or.inl ⟨by rfl, ?_⟩) ?_ ?_
 rotate_left
 ·
  intro w'
  go_simp
  with_reducible rfl
 rotate_left
 ·
  simp only [Act.put, List.setIfInBounds_toArray, List.set_cons_zero, List.set_cons_succ, i64_w, i32_w]
  rfl
 refine pure_ (i := 10) (N := some 34) (v := ?_) (a' := ?_) #[true, true, true, true, true, true, true, true, true, true, true, false, false, false, false, false, false, false, false, false, false] rfl rfl (any_of HT_.out (by kernel_rfl)) (fun _ _ _ h => h) (Or.inl ⟨by rfl, ?_⟩) ?_ ?_
 rotate_left
 ·
  intro w'
  go_simp
  with_reducible rfl
 rotate_left
 ·
  simp only [Act.put, List.setIfInBounds_toArray, List.set_cons_zero, List.set_cons_succ, i64_w, i32_w]
  rfl
 refine pure_ (i := 11) (N := some 35) (v := ?_) (a' := ?_) #[true, true, true, true, true, true, true, true, true, true, true, true, false, false, false, false, false, false, false, false, false] rfl rfl (any_of HT_.out (by kernel_rfl)) (fun _ _ _ h => h) (Or.inl ⟨by rfl, ?_⟩) ?_ ?_
 rotate_left
 ·
  intro w'
  go_simp
  with_reducible rfl
 rotate_left
 ·
  simp only [Act.put, List.setIfInBounds_toArray, List.set_cons_zero, List.set_cons_succ, i64_w, i32_w]
  rfl
 refine pure_ (i := 12) (N := some 36) (v := ?_) (a' := ?_) #[true, true, true, true, true, true, true, true, true, true, true, true, true, false, false, false, false, false, false, false, false] rfl rfl (any_of HT_.out (by kernel_rfl)) (fun _ _ _ h => h) (Or.inl ⟨by rfl, ?_⟩) ?_ ?_
 rotate_left
 ·
  intro w'
  go_simp
  with_reducible rfl
 rotate_left
 ·
  simp only [Act.put, List.setIfInBounds_toArray, List.set_cons_zero, List.set_cons_succ, i64_w, i32_w]
  rfl
 refine pure_ (i := 13) (N := some 37) (v := ?_) (a' := ?_) #[true, true, true, true, true, true, true, true, true, true, true, true, true, true, false, false, false, false, false, false, false] rfl rfl (any_of HT_.out (by kernel_rfl)) (fun _ _ _ h => h) (Or.inl ⟨by rfl, ?_⟩) ?_ ?_
 rotate_left
 ·
  intro w'
  go_simp
  with_reducible rfl
 rotate_left
 ·
  simp only [Act.put, List.setIfInBounds_toArray, List.set_cons_zero, List.set_cons_succ, i64_w, i32_w]
  rfl
 refine pure_ (i := 14) (N := some 38) (v := ?_) (a' := ?_) #[true, true, true, true, true, true, true, true, true, true, true, true, true, true, true, false, false, false, false, false, false] rfl rfl (any_of HT_.out (by kernel_rfl)) (fun _ _ _ h => h) (Or.inl ⟨by rfl, ?_⟩) ?_ ?_
 rotate_left
 ·
  intro w'
  go_simp
  with_reducible rfl
 rotate_left
 ·
  simp only [Act.put, List.setIfInBounds_toArray, List.set_cons_zero, List.set_cons_succ, i64_w, i32_w]
  rfl
 refine pure_ (i := 15) (N := some 39) (v := ?_) (a' := ?_) #[true, true, true, true, true, true, true, true, true, true, true, true, true, true, true, true, false, false, false, false, false] rfl rfl (any_of HT_.out (by kernel_rfl)) (fun _ _ _ h => h) (Or.inl ⟨by rfl, ?_⟩) ?_ ?_
 rotate_left
 ·
  intro w'
  go_simp
  with_reducible rfl
 rotate_left
 ·
  simp only [Act.put, List.setIfInBounds_toArray, List.set_cons_zero, List.set_cons_succ, i64_w, i32_w]
  rfl
 refine take_ (i := 16) (N := some 40) (v := ?_) (a' := ?_) #[true, true, true, true, true, true, true, true, true, true, true, true, true, true, true, true, true, false, false, false, false] rfl rfl (take_ofW HT_.out HW_.out (by kernel_rfl)) (fun _ _ _ h => h) (Or.inl ⟨by rfl, ?_⟩) hHeld ?_ ?_
 rotate_left
 ·
  rintro w' ⟨s0, s1, s2, s3, s4, s5⟩
  go_simp
  with_reducible rfl
 rotate_left
 ·
  simp only [Act.put, List.setIfInBounds_toArray, List.set_cons_zero, List.set_cons_succ, i64_w, i32_w]
  rfl
 refine one_ (i := 17) (N := some 41) #[true, true, true, true, true, true, true, true, true, true, true, true, true, true, true, true, true, true, false, false, false] rfl rfl (one_of HT_.out (by kernel_rfl)) (by decide) (fun K hK => ?_)
 refine call_ 20 #[] rfl rfl (by first | rfl | (go_simp; done) | (go_simp; rfl)) ?_
 refine (pleatlaw04_one.calls _ _ _ _ _ _ _ one_f).mono ?_
 rintro e_ w8 ⟨u1, u3, u4, u5, rfl, h1, h3, h4, h5, hb⟩
 refine ⟨_, rfl, ?_⟩
 obtain ⟨B1, d1, e1⟩ := Kd.R_slice h1
 obtain ⟨B3, d3, e3⟩ := Kd.R_slice h3
 obtain ⟨B4, d4, e4⟩ := Kd.R_slice h4
 obtain ⟨B5, d5, e5⟩ := Kd.R_slice h5
 subst e1 e3 e4 e5
 have HP := Aside0.mk (And.intro h1 (And.intro h3 (And.intro h4 h5)))
 have HOn := Aside0.mk (And.intro (Kd.R_below HO.out.1 hb) (And.intro (Kd.R_below HO.out.2.1 hb) (And.intro (Kd.R_below HO.out.2.2.1 hb) (Kd.R_below HO.out.2.2.2 hb))))
 have BXn := Aside0.mk (blk_below BX.out hb)
 have HBn := Aside0.mk (below_then HB.out HB.out.size hb)
 clear HB hb HO BX h1 h3 h4 h5
 have HB := HBn
 have HO := HOn
 have BX := BXn
 clear HBn HOn BXn
 refine hK.out _ _ ⟨(blk_cell BX.out 0).trans rfl, (blk_cell BX.out 1).trans rfl, (blk_cell BX.out 2).trans rfl, (blk_cell BX.out 3).trans rfl, (blk_cell BX.out 4).trans rfl, (blk_cell BX.out 5).trans rfl⟩ (fun hHeld => ?_)
 clear hK K
 refine norm_ (a' := ?_) ?_ ?_
 rotate_left
 ·
  show Act.put _ (some 41) _ = _
  simp only [Act.put, List.setIfInBounds_toArray, List.set_cons_zero, List.set_cons_succ, i64_w, i32_w]
  rfl
 refine one_ (i := 18) (N := some 42) #[true, true, true, true, true, true, true, true, true, true, true, true, true, true, true, true, true, true, true, false, false] rfl rfl (one_of HT_.out (by kernel_rfl)) (by decide) (fun K hK => ?_)
 refine call_ 11 #[.agg #[.string oneN, .slice A1 oneC.length c1, .int .i64 0, .slice A3 oneD.length c3, .slice A4 oneS.length c4, .slice A5 oneR.length c5], .agg #[.string oneN, .slice B1 oneC.length d1, .int .i64 0, .slice B3 oneD.length d3, .slice B4 oneS.length d4, .slice B5 oneR.length d5]] rfl rfl (by first | rfl | (go_simp; done) | (go_simp; rfl)) ?_
 refine (eqObjS.calls oneN oneC 0 oneD oneS oneR _ _ _ _ _ _ _ _ _ _ _ _ _ _ _ _ _ (Kd.R_reads' HO.out.1).2.2 (Kd.R_reads' HO.out.2.1).2.2 (Kd.R_reads' HO.out.2.2.1).2.2 (Kd.R_reads' HO.out.2.2.2).2.2 (Kd.R_reads' HP.out.1).2.2 (Kd.R_reads' HP.out.2.1).2.2 (Kd.R_reads' HP.out.2.2.1).2.2 (Kd.R_reads' HP.out.2.2.2).2.2 (by decide) (by decide) (by decide) (by decide)).mono ?_
 rintro e_ w9 ⟨rfl, hb⟩
 refine ⟨_, rfl, ?_⟩
 have BXn := Aside0.mk (blk_below BX.out hb)
 have HBn := Aside0.mk (below_then HB.out HB.out.size hb)
 clear HB hb HO HP BX
 have HB := HBn
 have BX := BXn
 clear HBn BXn
 refine hK.out _ _ ⟨(blk_cell BX.out 0).trans rfl, (blk_cell BX.out 1).trans rfl, (blk_cell BX.out 2).trans rfl, (blk_cell BX.out 3).trans rfl, (blk_cell BX.out 4).trans rfl, (blk_cell BX.out 5).trans rfl⟩ (fun hHeld => ?_)
 clear hK K
 refine norm_ (a' := ?_) ?_ ?_
 rotate_left
 ·
  show Act.put _ (some 42) _ = _
  simp only [Act.put, List.setIfInBounds_toArray, List.set_cons_zero, List.set_cons_succ, i64_w, i32_w]
  rfl
 refine pure_ (i := 19) (N := some 43) (v := ?_) (a' := ?_) #[true, true, true, true, true, true, true, true, true, true, true, true, true, true, true, true, true, true, true, true, false] rfl rfl (any_of HT_.out (by kernel_rfl)) (fun _ _ _ h => h) (Or.inl ⟨by rfl, ?_⟩) ?_ ?_
 rotate_left
 ·
  intro w'
  go_simp
  with_reducible rfl
 rotate_left
 ·
  simp only [Act.put, List.setIfInBounds_toArray, List.set_cons_zero, List.set_cons_succ, i64_w, i32_w]
  rfl
 refine pure_ (i := 20) (N := some 0) (v := ?_) (a' := ?_) #[true, true, true, true, true, true, true, true, true, true, true, true, true, true, true, true, true, true, true, true, true] rfl rfl (any_of HT_.out (by kernel_rfl)) (fun _ _ _ h => h) (Or.inl ⟨by rfl, ?_⟩) ?_ ?_
 rotate_left
 ·
  intro w'
  go_simp
  with_reducible rfl
 rotate_left
 ·
  simp only [Act.put, List.setIfInBounds_toArray, List.set_cons_zero, List.set_cons_succ, i64_w, i32_w]
  rfl
 refine done_ (done_of HT_.out (by kernel_rfl)) ?_
 try go_wp2
 go_ret
 exact ⟨rfl, HB.out⟩
end Go.Proofs.YtiaohbbafaaibabGreatDoor.P

/- What the Go functions named below come to, as plain functions, each with its proof; written by this session's prt.py over the kit's print. -/
namespace Go.Proofs.YtiaohbbafaaibabGreatDoor.P
open Go.RowKit Go.Proofs.YtiaohbbafaaibabGreatDoorW.PrintWords Go.Proofs.YtiaohbbafaaibabGreatDoorW.PrintLast Go.Proofs.YtiaohbbafaaibabGreatDoorW.PrintMore
attribute [local go_sem] max2_int min2_int max_two min_two max_three min_three max_four min_four   -- for this text's walks alone
set_option linter.unusedVariables false
set_option linter.unusedSimpArgs false

-- NOT PRINTED: function 13 (pleatref00_Bag_AddBytes)

-- NOT PRINTED: function 40 (pleatref00_Bag_apartBytes)

-- NOT PRINTED: function 41 (pleatref00_Bag_apartInts)

-- NOT PRINTED: function 42 (pleatref00_Bag_apartBools)
def pleatref00_WideBytes.l0 : Nat → List Int → List Int → Int → Option (List Int)
 | 0, _, _, _ => none
 | k + 1, x0, x3, x4 => if x4 < (x3.length : Int) then (if x4 < (x0.length : Int) then (if 0 ≤ x4 then (pleatref00_WideBytes.l0 k x0 (x3.set (x4 : Int).toNat (rd x0 x4)) (wrap64 (x4 + 1))) else (none)) else (if 0 ≤ x4 then (pleatref00_WideBytes.l0 k x0 (x3.set (x4 : Int).toNat ((wrap64 ((wrap64 (279 + (wrap64 (7 * x4)))) + 3)) % 256)) (wrap64 (x4 + 1))) else (none))) else (if 0 ≤ (x0.length : Int) then (if (x0.length : Int) ≤ (x3.length : Int) then (some (x3.take ((x0.length : Int) : Int).toNat)) else (none)) else (none))
def pleatref00_WideBytes.f (k : Nat) (l0 : List Int) : Option (List Int) := if 0 ≤ (wrap64 ((l0.length : Int) + 64)) then (if (wrap64 ((l0.length : Int) + 64) : Int).toNat ≤ 281474976710656 then (pleatref00_WideBytes.l0 k l0 (List.replicate (wrap64 ((l0.length : Int) + 64) : Int).toNat 0) 0) else (none)) else (none)
theorem pleatref00_WideBytes.mono_l : ∀ k, (∀ y0 y1 y2, LeO (pleatref00_WideBytes.l0 k y0 y1 y2) (pleatref00_WideBytes.l0 (k + 1) y0 y1 y2))
 | 0 => fun _ _ _ r h => by simp [pleatref00_WideBytes.l0] at h
 | k + 1 => by
  have ih0 := pleatref00_WideBytes.mono_l k
  ·
   intro y0 y1 y2
   unfold pleatref00_WideBytes.l0
   repeat' first
   | (with_reducible first | exact ih0 _ _ _ | exact LeO.refl _ | exact LeO.none _ | refine LeO.ite ?_ ?_ | refine LeO.bind ?_ (fun _ => ?_))
theorem pleatref00_WideBytes.mono : ∀ a0 k, LeO (pleatref00_WideBytes.f k a0) (pleatref00_WideBytes.f (k + 1) a0) := by
 intro a0 k
 have ih0 := pleatref00_WideBytes.mono_l k
 unfold pleatref00_WideBytes.f
 repeat' first
   | (with_reducible first | exact ih0 _ _ _ | exact LeO.refl _ | exact LeO.none _ | refine LeO.ite ?_ ?_ | refine LeO.bind ?_ (fun _ => ?_))
set_option maxHeartbeats 8000000 in
set_option maxRecDepth 100000 in
theorem pleatref00_WideBytes.callsW (k : Nat) (A0 : Option Addr) (c0 : Nat) (l0 : List Int) (r : List Int) (w : World) (hr0 : Kd.C (Kd.int .u8) w A0 l0.length l0) (hc0 : l0.length ≤ c0) (h : pleatref00_WideBytes.f k l0 = some r) :
  Calls Tryz.prog 15 #[.slice A0 l0.length c0] w fun e w' => ∃ v0_ : Value, e = .returned (v0_) ∧ Kd.R (Kd.int .u8) 5 w' w.heap.size (fun _ => True) v0_ r ∧ Below w.heap.size w w' ∧ WideC (Kd.int .u8) 5 w' w.heap.size v0_ l0 (mkB) := by
 have HR0 := Aside0.mk hr0
 have HC0 := Aside0.mk hc0
 clear hr0 hc0
 have HB := Aside0.mk (Below.refl w.heap.size w)
 have H : (if 0 ≤ (wrap64 ((l0.length : Int) + 64)) then (if (wrap64 ((l0.length : Int) + 64) : Int).toNat ≤ 281474976710656 then (pleatref00_WideBytes.l0 k l0 (List.replicate (wrap64 ((l0.length : Int) + 64) : Int).toNat 0) 0) else (none)) else (none)) = some r := h
 clear h
 obtain ⟨ji2, hji2⟩ : ∃ j_ : Int, (wrap64 ((l0.length : Int) + 64)) = j_ := ⟨_, rfl⟩
 replace H : (if 0 ≤ (ji2) then (if (ji2 : Int).toNat ≤ 281474976710656 then (pleatref00_WideBytes.l0 k l0 (List.replicate (ji2 : Int).toNat 0) 0) else (none)) else (none)) = some r := by first | (rw [hji2] at H; exact H) | (simp only [hji2] at H ⊢; exact H)
 have hji2w : (IntKind.i64.wrap ((l0.length : Int) + 64)) = ji2 := (i64_w _).trans hji2
 by_cases c3 : 0 ≤ (ji2)
 ·
  rw [if_pos c3] at H
  have c3b0 := eq_true c3
  have c3b1 : decide (0 ≤ (ji2)) = true := decide_eq_true c3
  clear c3
  by_cases c4 : (ji2 : Int).toNat ≤ 281474976710656
  ·
   rw [if_pos c4] at H
   have c4b0 := eq_true c4
   have c4b1 : decide ((ji2 : Int).toNat ≤ 281474976710656) = true := decide_eq_true c4
   clear c4
   obtain ⟨y555, hy555⟩ : ∃ y_ : List Int, y_ = (List.replicate (ji2 : Int).toNat 0) := ⟨_, rfl⟩
   replace H : (pleatref00_WideBytes.l0 k l0 y555 0) = some r := by first | (rw [hy555]; with_reducible exact H) | (have H2_ := (Option.bind_some _ _).symm.trans H; rw [hy555]; with_reducible exact H2_) | (have H2_ := (Option.bind_some _ _).symm.trans H; with_reducible exact H2_) | with_reducible exact H | (rw [hy555]; exact H) | exact H
   have Ny555 := Aside0.mk hy555
   have HFW0 := Aside0.mk (FillW.start (mk := mkB) HR0.out.2.1 hji2 c3b1 (decide_eq_true (Nat.le_trans (of_decide_eq_true c4b1) (by decide))) Ny555.out)
   clear hy555
   have H' := Aside0.mk H
   clear H
   go_enter Tryz.func15, Tryz.ntmps15
   go_wp2_with (first | ((with_reducible refine gate_dst (N := 8) rfl ?_); refine Kd.R_make (Kd.int .u8) _ 5 rfl (N := 8) rfl 31 _ _ rfl ji2 rfl rfl Tryz.underlying31 (.int .u8 0) 1 info5 rfl (by decide) (by omega) 0 (ok := fun _ => True) (okp := fun _ => True) rfl (fun _ hk => hk) trivial (of_decide_eq_true ‹_›) (Nat.le_trans (Nat.mul_le_mul_right _ (of_decide_eq_true ‹_› : ji2.toNat ≤ 281474976710656)) (by omega)) (Below.refl _ _) (Nat.le_refl _) ?_; intro v556 w5 ho6 hb hg_ hnew_; clear hg_ hnew_; (first | rw [← Ny555.out] at ho6 | (simp only [Int.reduceToNat] at ho6; rw [← Ny555.out] at ho6)); have HO557 := Aside0.mk (Kd.R_lower ho6 (below_size (bwQ HB.out))); replace HB := Aside0.mk (bsQ hb HB.out); clear hb ho6))
   go_loopg [4] k (fun kq v4 w' => ∃ (x3_1 : List Int) (x4_1 : Int), v4 = .int .i64 x4_1 ∧ Aside0 (pleatref00_WideBytes.l0 kq l0 x3_1 x4_1 = some r) ∧ Aside0 (kq ≤ k) ∧ Aside0 (FillW l0 (mkB) x3_1 x4_1) ∧ Aside0 (Kd.R (Kd.int .u8) 5 w' w.heap.size (fun _ => True) v556 x3_1) ∧ Aside0 (Below w.heap.size w w'))
   case atStart => exact ⟨(y555), (0), (by first | rfl | (simp; done) | (simp [*]; done)), H', ⟨Nat.le_refl _⟩, HFW0, ⟨by (with_reducible repeat (first | apply Kd.R_alloc | apply Kd.R_drewN | apply Kd.R_drew)); exact HO557.out⟩, ⟨bwQ HB.out⟩⟩
   case round =>
    clear H'
    try clear c1
    try clear p2
    try clear c3
    try clear c3b0
    try clear c3b1
    try clear c4
    try clear c4b0
    try clear c4b1
    try clear p6
    obtain ⟨x3_1, x4_1, rfl, HA, HK1, HFW, HO_3, HB⟩ := hrel
    cases gk with
    | zero => exact absurd HA.out (by simp [pleatref00_WideBytes.l0])
    | succ k1 =>
     have H := HA.out
     clear HA
     simp only [pleatref00_WideBytes.l0] at H
     by_cases c7 : x4_1 < (x3_1.length : Int)
     ·
      rw [if_pos c7] at H
      have c7b0 : decide (x4_1 < (x3_1.length : Int)) = true := decide_eq_true c7
      clear c7
      by_cases c8 : x4_1 < (l0.length : Int)
      ·
       rw [if_pos c8] at H
       have c8b0 : decide (x4_1 < (l0.length : Int)) = true := decide_eq_true c8
       clear c8
       by_cases c9 : 0 ≤ x4_1
       ·
        rw [if_pos c9] at H
        have c9b0 : decide (0 ≤ x4_1) = true := decide_eq_true c9
        clear c9
        obtain ⟨y559, hy559⟩ : ∃ y_ : List Int, y_ = (x3_1.set (x4_1 : Int).toNat (rd l0 x4_1)) := ⟨_, rfl⟩
        replace H : (pleatref00_WideBytes.l0 k1 l0 y559 (wrap64 (x4_1 + 1))) = some r := by first | (rw [hy559]; with_reducible exact H) | (have H2_ := (Option.bind_some _ _).symm.trans H; rw [hy559]; with_reducible exact H2_) | (have H2_ := (Option.bind_some _ _).symm.trans H; with_reducible exact H2_) | with_reducible exact H | (rw [hy559]; exact H) | exact H
        have Ny559 := Aside0.mk hy559
        have HFW1 := Aside0.mk (FillW.copy HFW.out c8b0 (getB HFW.out.lo c8b0) Ny559.out)
        clear hy559
        have H' := Aside0.mk H
        clear H
        obtain ⟨Ao11, co11, eo11⟩ := Kd.R_slice HO_3.out
        subst eo11
        have p558 : 0 ≤ (x4_1 : Int) := of_decide_eq_true ‹_›
        have q558 : x4_1 < (l0.length : Int) := of_decide_eq_true ‹_›
        obtain ⟨ad558, e558, hx558_0⟩ := Kd.at_int HR0.out x4_1 p558 q558
        cases e558
        replace hx558_0 := pw_cell_below HB.out hx558_0
        replace p558 := eq_true p558
        replace q558 := eq_true q558
        have p10 : 0 ≤ (x4_1 : Int) := of_decide_eq_true ‹_›
        have q10 : (x4_1 : Int) < ((x3_1.length : Int) : Int) := of_decide_eq_true ‹_›
        obtain ⟨go10, co10, eo10, gb10, gl10, cl10, HG10⟩ := Kd.R_form HO_3.out (by omega)
        (first | cases eo10 | (injection eo10 with ea_ en_ ec_; (first | subst ea_ | (injection ea_ with ea_; subst ea_)); subst ec_; clear en_))
        have GB10 := Aside0.mk gb10
        have GG10 := Aside0.mk HG10
        clear gb10 gl10 HG10
        obtain ⟨hx10_0, hf10_0⟩ := Kd.R_celln 0 HO_3.out (x4_1 : Int) p10 q10
        replace p10 := eq_true p10
        replace q10 := eq_true q10
        have HP12 := Kd.R_putg HO_3.out (x4_1 : Int) (rd l0 x4_1)
        go_wp2_with (first | ((with_reducible refine gate_store (t := 5) (p := 25) rfl ?_); refine store_event (t := 5) (p := 25) (v := ?vo_w13) (w1 := (wr.setCell ⟨go10, (x4_1 : Int).toNat, none⟩ (.int .u8 (rd l0 x4_1)))) ?hg ?ho ?hn ?hr ?_; (case ho => rfl); (case hg => rfl); (case hn => rfl); (case hr => first | (go_simp; done) | (go_simp; rfl)); intro w13 hw; have hg : wr.grownBy w13 (some go10) := (by rw [hw]; exact HP12.2); have hp_ : Kd.R (Kd.int .u8) 5 w13 w.heap.size (fun _ => True) (.slice (some ⟨go10, 0, none⟩) x3_1.length co11) y559 := (by rw [hw, Ny559.out]; exact HP12.1); clear HP12; have n0_ := Aside0.mk (hp_); have n1_ := Aside0.mk ((by rw [hw]; exact below_set (HB.out) GB10.out : Below w.heap.size w w13)); clear HO_3; clear HB; have HO_3 := n0_; have HB := n1_; clear n0_ n1_; clear hg hw hp_))
        go_roundg k1
        case measure => have := HK1.out; omega
        case rel => exact ⟨(y559), (wrap64 (x4_1 + 1)), (by first | rfl | (simp; done) | (simp [*]; done)), H', ⟨by have := HK1.out; omega⟩, HFW1, ⟨by (with_reducible repeat (first | apply Kd.R_alloc | apply Kd.R_drewN | apply Kd.R_drew)); exact HO_3.out⟩, ⟨bwQ HB.out⟩⟩
       ·
        rw [if_neg c9] at H
        exact absurd H (by simp)
      ·
       rw [if_neg c8] at H
       have c8b0 : decide (x4_1 < (l0.length : Int)) = false := decide_eq_false c8
       clear c8
       by_cases c14 : 0 ≤ x4_1
       ·
        rw [if_pos c14] at H
        have c14b0 : decide (0 ≤ x4_1) = true := decide_eq_true c14
        clear c14
        obtain ⟨y560, hy560⟩ : ∃ y_ : List Int, y_ = (x3_1.set (x4_1 : Int).toNat ((wrap64 ((wrap64 (279 + (wrap64 (7 * x4_1)))) + 3)) % 256)) := ⟨_, rfl⟩
        replace H : (pleatref00_WideBytes.l0 k1 l0 y560 (wrap64 (x4_1 + 1))) = some r := by first | (rw [hy560]; with_reducible exact H) | (have H2_ := (Option.bind_some _ _).symm.trans H; rw [hy560]; with_reducible exact H2_) | (have H2_ := (Option.bind_some _ _).symm.trans H; with_reducible exact H2_) | with_reducible exact H | (rw [hy560]; exact H) | exact H
        have Ny560 := Aside0.mk hy560
        have HFW1 := Aside0.mk (FillW.mark HFW.out c8b0 c7b0 (show (mkB) x4_1.toNat = _ from mkB_eq HFW.out.lo (by have := HFW.out.len; have := HFW.out.big; have := of_decide_eq_true c7b0; omega)) Ny560.out)
        clear hy560
        have H' := Aside0.mk H
        clear H
        obtain ⟨Ao16, co16, eo16⟩ := Kd.R_slice HO_3.out
        subst eo16
        have p15 : 0 ≤ (x4_1 : Int) := of_decide_eq_true ‹_›
        have q15 : (x4_1 : Int) < ((x3_1.length : Int) : Int) := of_decide_eq_true ‹_›
        obtain ⟨go15, co15, eo15, gb15, gl15, cl15, HG15⟩ := Kd.R_form HO_3.out (by omega)
        (first | cases eo15 | (injection eo15 with ea_ en_ ec_; (first | subst ea_ | (injection ea_ with ea_; subst ea_)); subst ec_; clear en_))
        have GB15 := Aside0.mk gb15
        have GG15 := Aside0.mk HG15
        clear gb15 gl15 HG15
        obtain ⟨hx15_0, hf15_0⟩ := Kd.R_celln 0 HO_3.out (x4_1 : Int) p15 q15
        replace p15 := eq_true p15
        replace q15 := eq_true q15
        have HP17 := Kd.R_putg HO_3.out (x4_1 : Int) ((wrap64 ((wrap64 (279 + (wrap64 (7 * x4_1)))) + 3)) % 256)
        go_wp2_with (first | ((with_reducible refine gate_store (t := 5) (p := 33) rfl ?_); refine store_event (t := 5) (p := 33) (v := ?vo_w18) (w1 := (wr.setCell ⟨go15, (x4_1 : Int).toNat, none⟩ (.int .u8 ((wrap64 ((wrap64 (279 + (wrap64 (7 * x4_1)))) + 3)) % 256)))) ?hg ?ho ?hn ?hr ?_; (case ho => rfl); (case hg => rfl); (case hn => rfl); (case hr => first | (go_simp; done) | (go_simp; rfl)); intro w18 hw; have hg : wr.grownBy w18 (some go15) := (by rw [hw]; exact HP17.2); have hp_ : Kd.R (Kd.int .u8) 5 w18 w.heap.size (fun _ => True) (.slice (some ⟨go15, 0, none⟩) x3_1.length co16) y560 := (by rw [hw, Ny560.out]; exact HP17.1); clear HP17; have n0_ := Aside0.mk (hp_); have n1_ := Aside0.mk ((by rw [hw]; exact below_set (HB.out) GB15.out : Below w.heap.size w w18)); clear HO_3; clear HB; have HO_3 := n0_; have HB := n1_; clear n0_ n1_; clear hg hw hp_))
        go_roundg k1
        case measure => have := HK1.out; omega
        case rel => exact ⟨(y560), (wrap64 (x4_1 + 1)), (by first | rfl | (simp; done) | (simp [*]; done)), H', ⟨by have := HK1.out; omega⟩, HFW1, ⟨by (with_reducible repeat (first | apply Kd.R_alloc | apply Kd.R_drewN | apply Kd.R_drew)); exact HO_3.out⟩, ⟨bwQ HB.out⟩⟩
       ·
        rw [if_neg c14] at H
        exact absurd H (by simp)
     ·
      rw [if_neg c7] at H
      have c7b0 : decide (x4_1 < (x3_1.length : Int)) = false := decide_eq_false c7
      clear c7
      by_cases c19 : 0 ≤ (l0.length : Int)
      ·
       rw [if_pos c19] at H
       have c19b0 := eq_true c19
       have c19b1 : decide (0 ≤ (l0.length : Int)) = true := decide_eq_true c19
       clear c19
       by_cases c20 : (l0.length : Int) ≤ (x3_1.length : Int)
       ·
        rw [if_pos c20] at H
        have c20b0 := eq_true c20
        have c20b1 : decide ((l0.length : Int) ≤ (x3_1.length : Int)) = true := decide_eq_true c20
        clear c20
        obtain ⟨y561, hy561⟩ : ∃ y_ : List Int, y_ = (x3_1.take ((l0.length : Int) : Int).toNat) := ⟨_, rfl⟩
        replace H : (some y561) = some r := by first | (rw [hy561]; with_reducible exact H) | (have H2_ := (Option.bind_some _ _).symm.trans H; rw [hy561]; with_reducible exact H2_) | (have H2_ := (Option.bind_some _ _).symm.trans H; with_reducible exact H2_) | with_reducible exact H | (rw [hy561]; exact H) | exact H
        have Ny561 := Aside0.mk hy561
        clear hy561
        obtain rfl := Option.some.inj H
        obtain ⟨Ao21, co21, eo21⟩ := Kd.R_slice HO_3.out
        subst eo21
        have q22 : ((l0.length : Int) : Int) ≤ ((x3_1.length : Int) : Int) := of_decide_eq_true ‹_›
        obtain ⟨i022, hi022, _, hsz22, _⟩ := info_parts info5
        have hcut22 := cut_to (P := Tryz.prog) 31 5 .i64 Tryz.underlying31 hi022 Ao21 x3_1.length co21 (l0.length : Int) (of_decide_eq_true ‹_›) q22 (Kd.R_reads' HO_3.out).2.1
        have HWd := Aside0.mk (HFW.out.done c7b0)
        have HRW := Aside0.mk HO_3.out
        have HLW := Aside0.mk (show y561.length = l0.length by rw [Ny561.out, List.length_take, Int.toNat_natCast, HFW.out.len]; omega)
        have hr22 := Kd.R_take (m := ((l0.length : Int) : Int).toNat) HO_3.out (by omega)
        have hy22 : y561.length = ((l0.length : Int) : Int).toNat := (by rw [Ny561.out, List.length_take]; omega)
        rw [← Ny561.out] at hr22
        rw [← hy22] at hr22 hcut22
        clear hy22 hi022 hsz22 HO_3
        have HO563 := Aside0.mk hr22
        clear hr22
        replace q22 := eq_true q22
        go_wp2
        go_ret
        exact ⟨_, by first | rfl | (simp [errW_none, errW_some] <;> rfl) | (simp only [← hji2]; first | rfl | (simp [errW_none, errW_some] <;> rfl)) | (simp [*, errW_none, errW_some] <;> rfl), by (with_reducible repeat (first | apply Kd.R_alloc | apply Kd.R_drewN | apply Kd.R_drew)); exact HO563.out, bwQ HB.out, WideC.of (by (with_reducible repeat (first | apply Kd.R_alloc | apply Kd.R_drewN | apply Kd.R_drew)); exact HRW.out) rfl HWd.out HLW.out⟩
       ·
        rw [if_neg c20] at H
        exact absurd H (by simp)
      ·
       rw [if_neg c19] at H
       exact absurd H (by simp)
  ·
   rw [if_neg c4] at H
   exact absurd H (by simp)
 ·
  rw [if_neg c3] at H
  exact absurd H (by simp)
theorem pleatref00_WideBytes.calls (k : Nat) (A0 : Option Addr) (c0 : Nat) (l0 : List Int) (r : List Int) (w : World) (hr0 : Kd.C (Kd.int .u8) w A0 l0.length l0) (hc0 : l0.length ≤ c0) (h : pleatref00_WideBytes.f k l0 = some r) :
  Calls Tryz.prog 15 #[.slice A0 l0.length c0] w fun e w' => ∃ v0_ : Value, e = .returned (v0_) ∧ Kd.R (Kd.int .u8) 5 w' w.heap.size (fun _ => True) v0_ r ∧ Below w.heap.size w w' := (pleatref00_WideBytes.callsW k A0 c0 l0 r w hr0 hc0 h).mono fun _ _ ⟨v, h1, h2, h3, _⟩ => ⟨v, h1, h2, h3⟩

def IsS110 (w0 W : World) (g : Nat) (f0 : List Int) (f1 : Int) (f2 : Int) (f3 : Int) : Prop := ∃ A0 c0, W.heap[g]? = some (.cells #[.slice A0 f0.length c0, .int .i64 f1, .int .i64 f2, .int .i64 f3] 110 (0, 0)) ∧ w0.heap.size ≤ g ∧ Kd.C (Kd.int .u8) w0 A0 f0.length f0
theorem IsS110.grown {w0 W : World} {g : Nat} {f0 : List Int} {f1 : Int} {f2 : Int} {f3 : Int} {W1 : World} {row : Option Nat} (h : IsS110 w0 W g f0 f1 f2 f3) (hw : W.grownBy W1 row) (hne : some g ≠ row) : IsS110 w0 W1 g f0 f1 f2 f3 := by
 obtain ⟨A0, c0, hb, hg, hr0⟩ := h
 exact ⟨A0, c0, blk_grown hb hw hne, hg, hr0⟩
theorem IsS110.own_neN {w0 W : World} {g : Nat} {f0 : List Int} {f1 : Int} {f2 : Int} {f3 : Int} {α : Type} {d : Kd α} {e : Nat} {base : Nat} {ok : Nat → Prop} {v : Value} {xs : List α} (h : IsS110 w0 W g f0 f1 f2 f3) (ho : Kd.N d e W base ok v xs) (ht : e ≠ 110) : some g ≠ v.ownBlock := by
 obtain ⟨A0, c0, hb, hg, hr0⟩ := h
 exact Kd.N_ne ho hb ht
theorem IsS110.fresh {w0 W : World} {g : Nat} {f0 : List Int} {f1 : Int} {f2 : Int} {f3 : Int} (h : IsS110 w0 W g f0 f1 f2 f3) : ∀ k, W.heap.size ≤ k → k ≠ g := by
 obtain ⟨A0, c0, hb, hg, hr0⟩ := h
 exact Kd.freshB hb
theorem IsS110.kept {w0 W : World} {g : Nat} {f0 : List Int} {f1 : Int} {f2 : Int} {f3 : Int} {W1 : World} {S : Nat → Prop} (h : IsS110 w0 W g f0 f1 f2 f3) (hk : Kept W W1 S) (hne : ¬ S g) : IsS110 w0 W1 g f0 f1 f2 f3 := by
 obtain ⟨A0, c0, hb, hg, hr0⟩ := h
 exact ⟨A0, c0, blk_kept hb hk hne, hg, hr0⟩
theorem IsS110.below {w0 W : World} {g : Nat} {f0 : List Int} {f1 : Int} {f2 : Int} {f3 : Int} {W1 : World} (h : IsS110 w0 W g f0 f1 f2 f3) (hw : Below W.heap.size W W1) : IsS110 w0 W1 g f0 f1 f2 f3 := h.grown (grown_of_below hw none) (by simp)
theorem IsS110.alloc {w0 W : World} {g : Nat} {f0 : List Int} {f1 : Int} {f2 : Int} {f3 : Int} (h : IsS110 w0 W g f0 f1 f2 f3) (o : Obj) : IsS110 w0 (W.alloc o) g f0 f1 f2 f3 := h.below (below_alloc (Below.refl _ _) o)
theorem IsS110.drewN {w0 W : World} {g : Nat} {f0 : List Int} {f1 : Int} {f2 : Int} {f3 : Int} (h : IsS110 w0 W g f0 f1 f2 f3) (m : Nat) : IsS110 w0 (W.drewN m) g f0 f1 f2 f3 := h
theorem IsS110.drew {w0 W : World} {g : Nat} {f0 : List Int} {f1 : Int} {f2 : Int} {f3 : Int} (h : IsS110 w0 W g f0 f1 f2 f3) : IsS110 w0 W.drew g f0 f1 f2 f3 := h
theorem IsS110.at_ {w0 W : World} {g : Nat} {f0 : List Int} {f1 : Int} {f2 : Int} {f3 : Int} {w' : World} {m : Nat} (hq : W.drewN m = w') (h : IsS110 w0 W g f0 f1 f2 f3) : IsS110 w0 w' g f0 f1 f2 f3 := by subst hq; exact IsS110.drewN h m
theorem IsS110.apart {w0 W : World} {g : Nat} {f0 : List Int} {f1 : Int} {f2 : Int} {f3 : Int} {α : Type} {d : Kd α} {e : Nat} {base : Nat} {ok : Nat → Prop} {v : Value} {xs : List α} (h : IsS110 w0 W g f0 f1 f2 f3) (ho : d.R e W base ok v xs) (ht : ∀ q, q ∈ e :: d.E → q ≠ 110) : d.R e W base (fun k => ok k ∧ k ≠ g) v xs := by
 obtain ⟨A0, c0, hb, hg, hr0⟩ := h
 exact Kd.R_types ho hb ht
theorem IsS110.own_ne {w0 W : World} {g : Nat} {f0 : List Int} {f1 : Int} {f2 : Int} {f3 : Int} {α : Type} {d : Kd α} {e : Nat} {base : Nat} {ok : Nat → Prop} {v : Value} {xs : List α} (h : IsS110 w0 W g f0 f1 f2 f3) (ho : d.R e W base ok v xs) (ht : e ≠ 110) : some g ≠ v.ownBlock := by
 obtain ⟨A0, c0, hb, hg, hr0⟩ := h
 exact Kd.R_ne ho hb ht
theorem IsS110.apartQ {w0 W : World} {g : Nat} {f0 : List Int} {f1 : Int} {f2 : Int} {f3 : Int} {α : Type} {d : Kd α} {e : Nat} {base : Nat} {ok : Nat → Prop} {v : Value} {xs : List α} (h : IsS110 w0 W g f0 f1 f2 f3) (ho : d.Q e W base ok v xs) (ht : ∀ q, q ∈ e :: d.E → q ≠ 110) : d.Q e W base (fun k => ok k ∧ k ≠ g) v xs := by
 obtain ⟨A0, c0, hb, hg, hr0⟩ := h
 exact Kd.Q_types ho hb ht
theorem IsS110.own_neQ {w0 W : World} {g : Nat} {f0 : List Int} {f1 : Int} {f2 : Int} {f3 : Int} {α : Type} {d : Kd α} {e : Nat} {base : Nat} {ok : Nat → Prop} {v : Value} {xs : List α} (h : IsS110 w0 W g f0 f1 f2 f3) (ho : d.Q e W base ok v xs) (ht : e ≠ 110) : some g ≠ v.ownBlock := by
 obtain ⟨A0, c0, hb, hg, hr0⟩ := h
 exact Kd.Q_ne ho hb ht
theorem IsS110.apartS {w0 W : World} {g : Nat} {f0 : List Int} {f1 : Int} {f2 : Int} {f3 : Int} {α : Type} {d : Kd α} {e : Nat} {base : Nat} {ok : Nat → Prop} {v : Value} {xs : List α} (h : IsS110 w0 W g f0 f1 f2 f3) (ho : d.S e W base ok v xs) (ht : ∀ q, q ∈ e :: d.E → q ≠ 110) : d.S e W base (fun k => ok k ∧ k ≠ g) v xs := by
 obtain ⟨A0, c0, hb, hg, hr0⟩ := h
 exact Kd.S_types ho hb ht
theorem IsS110.own_neS {w0 W : World} {g : Nat} {f0 : List Int} {f1 : Int} {f2 : Int} {f3 : Int} {α : Type} {d : Kd α} {e : Nat} {base : Nat} {ok : Nat → Prop} {v : Value} {xs : List α} (h : IsS110 w0 W g f0 f1 f2 f3) (ho : d.S e W base ok v xs) (ht : e ≠ 110) : some g ≠ v.ownBlock := by
 obtain ⟨A0, c0, hb, hg, hr0⟩ := h
 exact Kd.S_ne ho hb ht
theorem IsS110.lt {w0 W : World} {g : Nat} {f0 : List Int} {f1 : Int} {f2 : Int} {f3 : Int} (h : IsS110 w0 W g f0 f1 f2 f3) : g < W.heap.size := by
 obtain ⟨A0, c0, hb, hg, hr0⟩ := h
 exact blk_lt hb
theorem IsS110.ge {w0 W : World} {g : Nat} {f0 : List Int} {f1 : Int} {f2 : Int} {f3 : Int} (h : IsS110 w0 W g f0 f1 f2 f3) : w0.heap.size ≤ g := by
 obtain ⟨A0, c0, hb, hg, hr0⟩ := h
 exact hg
theorem IsS110.ne_blk {w0 W : World} {g : Nat} {f0 : List Int} {f1 : Int} {f2 : Int} {f3 : Int} {a : Nat} {cs : Array Value} {t : TypeId} {fr : Nat × Nat} (h : IsS110 w0 W g f0 f1 f2 f3) (hb2 : W.heap[a]? = some (.cells cs t fr)) (ht : t ≠ 110) : g ≠ a := by
 obtain ⟨A0, c0, hb, hg, hr0⟩ := h
 rintro rfl
 rw [hb] at hb2
 injection hb2 with hb2
 injection hb2 with _ ht2
 exact ht ht2.symm
theorem IsS110.far {w0 W : World} {g : Nat} {f0 : List Int} {f1 : Int} {f2 : Int} {f3 : Int} {p : Addr} (h : IsS110 w0 W g f0 f1 f2 f3) (hne : g ≠ p.block) (u : Value) : IsS110 w0 (W.setCell p u) g f0 f1 f2 f3 := by
 obtain ⟨A0, c0, hb, hg, hr0⟩ := h
 exact ⟨A0, c0, blk_far hb hne u, hg, hr0⟩
theorem cellS110_0 {W : World} {g : Nat} {A0 : Option Addr} {c0 : Nat} {f0 : List Int} {f1 : Int} {f2 : Int} {f3 : Int} (h : W.heap[g]? = some (.cells #[.slice A0 f0.length c0, .int .i64 f1, .int .i64 f2, .int .i64 f3] 110 (0, 0))) : W.cell? ⟨g, 0, none⟩ = some (.slice A0 f0.length c0) := (blk_cell h 0).trans rfl
theorem cellS110_1 {W : World} {g : Nat} {A0 : Option Addr} {c0 : Nat} {f0 : List Int} {f1 : Int} {f2 : Int} {f3 : Int} (h : W.heap[g]? = some (.cells #[.slice A0 f0.length c0, .int .i64 f1, .int .i64 f2, .int .i64 f3] 110 (0, 0))) : W.cell? ⟨g, 1, none⟩ = some (.int .i64 f1) := (blk_cell h 1).trans rfl
theorem IsS110.set_1 {w0 W : World} {g : Nat} {f0 : List Int} {f1 : Int} {f2 : Int} {f3 : Int} (h : IsS110 w0 W g f0 f1 f2 f3) (x : Int) : IsS110 w0 (W.setCell ⟨g, 1, none⟩ (.int .i64 x)) g f0 x f2 f3 := by
 obtain ⟨A0, c0, hb, hg, hr0⟩ := h
 exact ⟨A0, c0, by simpa using blk_set hb 1 (.int .i64 x), hg, hr0⟩
theorem cellS110_2 {W : World} {g : Nat} {A0 : Option Addr} {c0 : Nat} {f0 : List Int} {f1 : Int} {f2 : Int} {f3 : Int} (h : W.heap[g]? = some (.cells #[.slice A0 f0.length c0, .int .i64 f1, .int .i64 f2, .int .i64 f3] 110 (0, 0))) : W.cell? ⟨g, 2, none⟩ = some (.int .i64 f2) := (blk_cell h 2).trans rfl
theorem IsS110.set_2 {w0 W : World} {g : Nat} {f0 : List Int} {f1 : Int} {f2 : Int} {f3 : Int} (h : IsS110 w0 W g f0 f1 f2 f3) (x : Int) : IsS110 w0 (W.setCell ⟨g, 2, none⟩ (.int .i64 x)) g f0 f1 x f3 := by
 obtain ⟨A0, c0, hb, hg, hr0⟩ := h
 exact ⟨A0, c0, by simpa using blk_set hb 2 (.int .i64 x), hg, hr0⟩
theorem cellS110_3 {W : World} {g : Nat} {A0 : Option Addr} {c0 : Nat} {f0 : List Int} {f1 : Int} {f2 : Int} {f3 : Int} (h : W.heap[g]? = some (.cells #[.slice A0 f0.length c0, .int .i64 f1, .int .i64 f2, .int .i64 f3] 110 (0, 0))) : W.cell? ⟨g, 3, none⟩ = some (.int .i64 f3) := (blk_cell h 3).trans rfl
theorem IsS110.set_3 {w0 W : World} {g : Nat} {f0 : List Int} {f1 : Int} {f2 : Int} {f3 : Int} (h : IsS110 w0 W g f0 f1 f2 f3) (x : Int) : IsS110 w0 (W.setCell ⟨g, 3, none⟩ (.int .i64 x)) g f0 f1 f2 x := by
 obtain ⟨A0, c0, hb, hg, hr0⟩ := h
 exact ⟨A0, c0, by simpa using blk_set hb 3 (.int .i64 x), hg, hr0⟩
theorem IsS110.new (w0 W : World) (A0 : Option Addr) (c0 : Nat) (f0 : List Int) (f1 : Int) (f2 : Int) (f3 : Int) (hB : Below w0.heap.size w0 W) (hr0 : Kd.C (Kd.int .u8) w0 A0 f0.length f0) : IsS110 w0 (W.alloc (.cells #[.slice A0 f0.length c0, .int .i64 f1, .int .i64 f2, .int .i64 f3] 110)) W.heap.size f0 f1 f2 f3 := ⟨A0, c0, by simpa using heap_alloc_new W _, hB.size, hr0⟩
end Go.Proofs.YtiaohbbafaaibabGreatDoor.P

/- What the Go functions named below come to, as plain functions, each with its proof; written by this session's prt.py over the kit's print. -/
namespace Go.Proofs.YtiaohbbafaaibabGreatDoor.P
open Go.RowKit Go.Proofs.YtiaohbbafaaibabGreatDoorW.PrintWords Go.Proofs.YtiaohbbafaaibabGreatDoorW.PrintLast Go.Proofs.YtiaohbbafaaibabGreatDoorW.PrintMore
attribute [local go_sem] max2_int min2_int max_two min_two max_three min_three max_four min_four   -- for this text's walks alone
set_option linter.unusedVariables false
set_option linter.unusedSimpArgs false
def pleatref00_SpareBytes.l0 : Nat → List Int → Int → Option (Bool)
 | 0, _, _ => none
 | k + 1, x3, x4 => if x4 < (x3.length : Int) then (if 0 ≤ x4 then (if ((rd x3 x4) = ((wrap64 ((wrap64 (279 + (wrap64 (7 * x4)))) + 3)) % 256)) then (pleatref00_SpareBytes.l0 k x3 (wrap64 (x4 + 1))) else (some false)) else (none)) else (some true)
def pleatref00_SpareBytes.f (k : Nat) (l0 : List Int) : Option (Bool) := if 0 ≤ (wrap64 ((l0.length : Int) + 64)) then (if (wrap64 ((l0.length : Int) + 64)) ≤ (l0.length : Int) then (pleatref00_SpareBytes.l0 k (l0.take ((wrap64 ((l0.length : Int) + 64)) : Int).toNat) (l0.length : Int)) else (none)) else (none)
theorem pleatref00_SpareBytes.mono_l : ∀ k, (∀ y0 y1, LeO (pleatref00_SpareBytes.l0 k y0 y1) (pleatref00_SpareBytes.l0 (k + 1) y0 y1))
 | 0 => fun _ _ r h => by simp [pleatref00_SpareBytes.l0] at h
 | k + 1 => by
  have ih0 := pleatref00_SpareBytes.mono_l k
  ·
   intro y0 y1
   unfold pleatref00_SpareBytes.l0
   repeat' first
   | (with_reducible first | exact ih0 _ _ | exact LeO.refl _ | exact LeO.none _ | refine LeO.ite ?_ ?_ | refine LeO.bind ?_ (fun _ => ?_))
theorem pleatref00_SpareBytes.mono : ∀ a0 k, LeO (pleatref00_SpareBytes.f k a0) (pleatref00_SpareBytes.f (k + 1) a0) := by
 intro a0 k
 have ih0 := pleatref00_SpareBytes.mono_l k
 unfold pleatref00_SpareBytes.f
 repeat' first
   | (with_reducible first | exact ih0 _ _ | exact LeO.refl _ | exact LeO.none _ | refine LeO.ite ?_ ?_ | refine LeO.bind ?_ (fun _ => ?_))
set_option maxHeartbeats 8000000 in
set_option maxRecDepth 100000 in
theorem pleatref00_SpareBytes.callsS (k : Nat) (A0 : Option Addr) (c0 n0 : Nat) (y_0 : List Int) (r : Bool) (w : World) (hr0 : Kd.C (Kd.int .u8) w A0 y_0.length y_0) (hn : y_0.length = n0 + 64) (hn2 : n0 ≤ 1000000000000000) (hc0 : n0 + 64 ≤ c0) (h : pleatref00_SpareBytes.l0 k y_0 (n0 : Int) = some r) (hrt : r = true) :
  Calls Tryz.prog 18 #[.slice A0 n0 c0] w fun e w' => e = .returned (.bool r) ∧ Drawn0 w w' := by
 have HRT := Aside0.mk hrt
 have HR624 := Aside0.mk hr0
 have H' := Aside0.mk h
 have HB := Aside0.mk (Below.refl w.heap.size w)
 obtain ⟨ji2, hji2⟩ : ∃ j_ : Int, (wrap64 ((n0 : Int) + 64)) = j_ := ⟨_, rfl⟩
 have hjv : ji2 = (y_0.length : Int) := by rw [← hji2, wrap64_id (by omega) (by omega), hn]; omega
 have hji2w : (IntKind.i64.wrap ((n0 : Int) + 64)) = ji2 := (i64_w _).trans hji2
 have c3b0 := eq_true (show 0 ≤ ji2 by omega)
 obtain ⟨i0_, hi05, _, _, _⟩ := info_parts info5
 have hcut5 := cut_wide (P := Tryz.prog) 31 5 .i64 Tryz.underlying31 hi05 A0 n0 c0 ji2 (by omega) (by omega)
 rw [show ji2.toNat = y_0.length by omega] at hcut5
 clear hrt hr0 h hjv hi05 hc0 hn
 go_enter Tryz.func18, Tryz.ntmps18
 go_wp2
 go_loopg [4] k (fun kq v4 w' => ∃ (x4_1 : Int), v4 = .int .i64 x4_1 ∧ Aside0 (pleatref00_SpareBytes.l0 kq y_0 x4_1 = some r) ∧ Aside0 (kq ≤ k) ∧ Drawn0 w w')
 case atStart => exact ⟨((n0 : Int)), (by first | rfl | (simp; done) | (simp [*]; done)), H', ⟨Nat.le_refl _⟩, by repeat (first | exact Drawn0.refl _ | apply Drawn0.step)⟩
 case round =>
  clear H'
  try clear c1
  try clear p2
  try clear c3
  try clear c3b0
  try clear c3b1
  try clear c4
  try clear c4b0
  try clear c4b1
  obtain ⟨x4_1, rfl, HA, HK1, ⟨m1, rfl⟩⟩ := hrel
  cases gk with
  | zero => exact absurd HA.out (by simp [pleatref00_SpareBytes.l0])
  | succ k1 =>
   have H := HA.out
   clear HA
   simp only [pleatref00_SpareBytes.l0] at H
   by_cases c6 : x4_1 < (y_0.length : Int)
   ·
    rw [if_pos c6] at H
    have c6b0 : decide (x4_1 < (y_0.length : Int)) = true := decide_eq_true c6
    clear c6
    by_cases c7 : 0 ≤ x4_1
    ·
     rw [if_pos c7] at H
     have c7b0 : decide (0 ≤ x4_1) = true := decide_eq_true c7
     clear c7
     by_cases c8 : ((rd y_0 x4_1) = ((wrap64 ((wrap64 (279 + (wrap64 (7 * x4_1)))) + 3)) % 256))
     ·
      rw [if_pos c8] at H
      have c8b0 : ((rd y_0 x4_1) == ((wrap64 ((wrap64 (279 + (wrap64 (7 * x4_1)))) + 3)) % 256)) = true := beq_iff_eq.mpr c8
      have c8b1 : ((rd y_0 x4_1) != ((wrap64 ((wrap64 (279 + (wrap64 (7 * x4_1)))) + 3)) % 256)) = false := bne_eq_false_iff_eq.mpr c8
      clear c8
      have H' := Aside0.mk H
      clear H
      have p625 : 0 ≤ (x4_1 : Int) := of_decide_eq_true ‹_›
      have q625 : x4_1 < (y_0.length : Int) := of_decide_eq_true ‹_›
      obtain ⟨ad625, e625, hx625_0⟩ := Kd.at_int HR624.out x4_1 p625 q625
      cases e625
      replace p625 := eq_true p625
      replace q625 := eq_true q625
      go_wp2
      go_roundg k1
      case measure => have := HK1.out; omega
      case rel => exact ⟨(wrap64 (x4_1 + 1)), (by first | rfl | (simp; done) | (simp [*]; done)), H', ⟨by have := HK1.out; omega⟩, by repeat (first | exact Drawn0.refl _ | apply Drawn0.step)⟩
     ·
      rw [if_neg c8] at H
      exact absurd ((Option.some.inj H).trans HRT.out) (by decide)
    ·
     rw [if_neg c7] at H
     exact absurd H (by simp)
   ·
    rw [if_neg c6] at H
    have c6b0 : decide (x4_1 < (y_0.length : Int)) = false := decide_eq_false c6
    clear c6
    obtain rfl := Option.some.inj H
    go_wp2
    go_ret
    exact ⟨by first | rfl | (simp; done) | (simp only [← hji2] <;> (first | rfl | simp)) | (simp [*]; done), by repeat (first | exact Drawn0.refl _ | apply Drawn0.step)⟩

-- NOT PRINTED: function 75 (pleatref00_Bag_AddWords)

-- NOT PRINTED: function 76 (pleatref00_Bag_AddLongs)

-- NOT PRINTED: function 77 (pleatref00_Bag_AddSymbols)

-- NOT PRINTED: function 78 (pleatref00_Bag_AddRelocs)

-- NOT PRINTED: function 19 (pleatref00_Bag_AddObject)

-- NOT PRINTED: function 4 (pleatlaw04_WireReads)
end Go.Proofs.YtiaohbbafaaibabGreatDoor.P

/- OWN TEXT: the law WireReads, walked. -/
namespace Go.Proofs.YtiaohbbafaaibabGreatDoor.P
open Go.RowKit Go.Maps Go.Proofs.YtiaohbbafaaibabGreatDoorW.PrintWords Go.Proofs.YtiaohbbafaaibabGreatDoorW.PrintLast Go.Proofs.YtiaohbbafaaibabGreatDoorW.PrintMore Go.Proofs.YtiaohbbafaaibabGreatDoor.Arr Go.Proofs.YtiaohbbafaaibabGreatDoor.MapB
set_option linter.unusedVariables false
set_option linter.unusedSimpArgs false
theorem wideB_l {l : List Int} (hl : l.length ≤ 1000000000) : ∀ d : Nat, ∀ x : List Int, ∀ i : Nat, i + d = l.length + 64 → FillW l mkB x (i : Int) → Ev (fun k => pleatref00_WideBytes.l0 k l x (i : Int)) l := by
 intro d
 induction d with
 | zero =>
  intro x i hi hf
  have hx := hf.done (decide_eq_false (by have := hf.len; omega))
  refine Ev.succ (Ev.iteF (by have := hf.len; omega) (Ev.iteT (by omega) (Ev.iteT (by have := hf.len; omega) (Ev.val ?_))))
  rw [hx]
  simp
 | succ d ih =>
  intro x i hi hf
  have hw : wrap64 ((i : Int) + 1) = ((i + 1 : Nat) : Int) := by rw [wrap64_id (by omega) (by omega)]; rfl
  refine Ev.succ (Ev.iteT (by have := hf.len; omega) (Ev.ite2 (fun h => Ev.iteT (by omega) ?_) (fun h => Ev.iteT (by omega) ?_)))
  ·
   have hf2 := hf.copy (decide_eq_true h) (getB (z := 0) hf.lo (decide_eq_true h)) rfl
   rw [hw] at hf2
   simp only [hw]
   exact ih _ (i + 1) (by omega) hf2
  ·
   have hf2 := hf.mark (decide_eq_false h) (decide_eq_true (by have := hf.len; omega)) (mkB_eq (by omega) (by omega)) rfl
   rw [hw] at hf2
   simp only [hw]
   exact ih _ (i + 1) (by omega) hf2
theorem wideB_ev {l : List Int} (hl : l.length ≤ 1000000000) : Ev (fun k => pleatref00_WideBytes.f k l) l := by
 unfold pleatref00_WideBytes.f
 have hw : wrap64 ((l.length : Int) + 64) = (l.length : Int) + 64 := wrap64_id (by omega) (by omega)
 simp only [hw]
 refine Ev.iteT (by omega) (Ev.iteT (by omega) ?_)
 exact wideB_l hl (l.length + 64) _ 0 (by omega) (FillW.start (by omega) hw (decide_eq_true (by omega)) (decide_eq_true (by omega)) rfl)
theorem spareB_ev {l : List Int} (hl : l.length ≤ 1000000000) : Ev (fun k => pleatref00_SpareBytes.l0 k (l ++ marksL mkB l.length) (l.length : Int)) true := by
 have hlen : (l ++ marksL mkB l.length).length = l.length + 64 := by rw [List.length_append, marksL_length]
 have : ∀ d i : Nat, i + d = l.length + 64 → l.length ≤ i → Ev (fun k => pleatref00_SpareBytes.l0 k (l ++ marksL mkB l.length) (i : Int)) true := by
  intro d
  induction d with
  | zero => intro i hi h0; exact Ev.succ (Ev.iteF (by omega) (Ev.val rfl))
  | succ d ih =>
   intro i hi h0
   have hw : wrap64 ((i : Int) + 1) = ((i + 1 : Nat) : Int) := by rw [wrap64_id (by omega) (by omega)]; rfl
   have hr : rd (l ++ marksL mkB l.length) (i : Int) = (wrap64 ((wrap64 (279 + (wrap64 (7 * (i : Int))))) + 3)) % 256 := by
    rw [← mkB_eq (by omega) (by omega), Int.toNat_natCast]
    unfold rd
    rw [Int.toNat_natCast, List.getD_eq_getElem?_getD, List.getElem?_append_right h0, marksL_at _ _ _ (by omega), show l.length + (i - l.length) = i by omega]
    rfl
   refine Ev.succ (Ev.iteT (by omega) (Ev.iteT (by omega) (Ev.iteT hr ?_)))
   simp only [hw]
   exact ih (i + 1) (by omega) (by omega)
 exact this 64 l.length rfl (Nat.le_refl _)
theorem WideC.parts {α : Type} {d : Kd α} {e : Nat} {W : World} {base : Nat} {A : Option Addr} {n c : Nat} {l : List α} {mk : Nat → α} (h : WideC d e W base (.slice A n c) l mk) : n = l.length ∧ l.length + 64 ≤ c ∧ Kd.C d W A (l ++ marksL mk l.length).length (l ++ marksL mk l.length) ∧ Kd.C d W A l.length l := by
 obtain ⟨A', c', he, hR⟩ := h
 injection he with h1 h2 h3
 subst h1 h3
 have hT := Kd.R_take (m := l.length) hR (by rw [List.length_append]; omega)
 rw [List.take_left' rfl] at hT
 obtain ⟨q1, q2, q3⟩ := Kd.R_reads' hR
 rw [← q1] at q3
 exact ⟨h2, q2, by rw [← q1]; exact q3, (Kd.R_reads' hT).2.2⟩
def outO (l : List Int) : RO := if (readC l).1 = 0 then ra5 l else ⟨⟨#[]⟩, [], 0, [], [], [], ⟨0, none⟩⟩
theorem ra5_data (l : List Int) (hby : ∀ x ∈ l, 0 ≤ x ∧ x < 256) : (ra5 l).data.length ≤ 4096 := by
 have hc : (ra5 l).data = (ra3 l).data := by unfold ra5; rw [eachR_keep RO.data (f4 l) (fun _ => rfl)]; show (ra4 l).data = _; unfold ra4; rw [eachR_keep RO.data (f3 l) (fun _ => rfl)]; rfl
 rw [hc]
 have h1 := eachR_len (fun a => a.data.length) (f2 l) (fun a => by show (a.data ++ [_]).length = _; rw [List.length_append]; rfl) RO.rs (countR l 4096 (ra2 l).rs).1.toNat (cntR l 4096 (ra2 l))
 have h2 := countR_range l 4096 (ra2 l).rs hby (by decide)
 have h3 : (cntR l 4096 (ra2 l)).data.length = 0 := by show (ra2 l).data.length = 0; rw [ra2_data]; rfl
 show (eachR (f2 l) RO.rs (countR l 4096 (ra2 l).rs).1.toNat (cntR l 4096 (ra2 l))).data.length ≤ _
 omega
theorem outO_short (l : List Int) (hby : ∀ x ∈ l, 0 ≤ x ∧ x < 256) : (outO l).code.length ≤ 1000000000 ∧ (outO l).data.length ≤ 1000000000 ∧ (outO l).syms.length ≤ 1000000000 ∧ (outO l).rels.length ≤ 1000000000 := by
 unfold outO
 obtain ⟨h1, h2, h3⟩ := ra5_short l hby
 have h4 := ra5_data l hby
 split
 ·
  exact ⟨by omega, by omega, by omega, by omega⟩
 ·
  exact ⟨Nat.zero_le _, Nat.zero_le _, Nat.zero_le _, Nat.zero_le _⟩
structure RowsO (W : World) (base : Nat) (O : RO) (A1 : Option Addr) (c1 : Nat) (A3 : Option Addr) (c3 : Nat) (A4 : Option Addr) (c4 : Nat) (A5 : Option Addr) (c5 : Nat) : Prop where
  r1 : Kd.R (Kd.int .u32) 78 W base (fun _ => True) (.slice A1 O.code.length c1) O.code
  r3 : Kd.R (Kd.int .i64) 2 W base (fun _ => True) (.slice A3 O.data.length c3) O.data
  r4 : Kd.R k65 65 W base (fun _ => True) (.slice A4 O.syms.length c4) O.syms
  r5 : Kd.R k82 82 W base (fun _ => True) (.slice A5 O.rels.length c5) O.rels
section
variable {W W1 : World} {base : Nat} {O : RO} {A1 A3 A4 A5 : Option Addr} {c1 c3 c4 c5 : Nat}
theorem RowsO.below (h : RowsO W base O A1 c1 A3 c3 A4 c4 A5 c5) (k : Below W.heap.size W W1) : RowsO W1 base O A1 c1 A3 c3 A4 c4 A5 c5 := ⟨Kd.R_below h.r1 k, Kd.R_below h.r3 k, Kd.R_below h.r4 k, Kd.R_below h.r5 k⟩
theorem RowsO.lower (h : RowsO W base O A1 c1 A3 c3 A4 c4 A5 c5) {b : Nat} (k : b ≤ base) : RowsO W b O A1 c1 A3 c3 A4 c4 A5 c5 := ⟨Kd.R_lower h.r1 k, Kd.R_lower h.r3 k, Kd.R_lower h.r4 k, Kd.R_lower h.r5 k⟩
theorem RowsO.far (h : RowsO W base O A1 c1 A3 c3 A4 c4 A5 c5) {g : Nat} {cg : Array Value} (hb : W.heap[g]? = some (.cells cg 56 (0, 0))) (k : Far W W1 g) : RowsO W1 base O A1 c1 A3 c3 A4 c4 A5 c5 :=
 ⟨kept_far rfl h.r1 hb (by decide) (by decide) (by decide) (by decide) (by decide) k, kept_far rfl h.r3 hb (by decide) (by decide) (by decide) (by decide) (by decide) k, kept_far rfl h.r4 hb (by decide) (by decide) (by decide) (by decide) (by decide) k, kept_far rfl h.r5 hb (by decide) (by decide) (by decide) (by decide) (by decide) k⟩
end
theorem read_out {W : World} {base : Nat} {ov : Array Value} {l : List Int} (h0 : (readC l).1 = 0 → ∃ v1 v3 v4 v5, ov = #[.string (ra5 l).nm, v1, .int .i64 (ra5 l).dat, v3, v4, v5] ∧ Kd.R (Kd.int .u32) 78 W base (fun _ => True) v1 (ra5 l).code ∧ Kd.R (Kd.int .i64) 2 W base (fun _ => True) v3 (ra5 l).data ∧ Kd.R k65 65 W base (fun _ => True) v4 (ra5 l).syms ∧ Kd.R k82 82 W base (fun _ => True) v5 (ra5 l).rels) (h1 : (readC l).1 ≠ 0 → ov = zObj) : ∃ A1 c1 A3 c3 A4 c4 A5 c5, ov = #[.string (outO l).nm, .slice A1 (outO l).code.length c1, .int .i64 (outO l).dat, .slice A3 (outO l).data.length c3, .slice A4 (outO l).syms.length c4, .slice A5 (outO l).rels.length c5] ∧ RowsO W base (outO l) A1 c1 A3 c3 A4 c4 A5 c5 := by
 by_cases h : (readC l).1 = 0
 ·
  have e : outO l = ra5 l := if_pos h
  rw [e]
  obtain ⟨v1, v3, v4, v5, rfl, q1, q3, q4, q5⟩ := h0 h
  obtain ⟨A1, c1, rfl⟩ := Kd.R_slice q1
  obtain ⟨A3, c3, rfl⟩ := Kd.R_slice q3
  obtain ⟨A4, c4, rfl⟩ := Kd.R_slice q4
  obtain ⟨A5, c5, rfl⟩ := Kd.R_slice q5
  exact ⟨A1, c1, A3, c3, A4, c4, A5, c5, rfl, ⟨q1, q3, q4, q5⟩⟩
 ·
  have e : outO l = ⟨⟨#[]⟩, [], 0, [], [], [], ⟨0, none⟩⟩ := if_neg h
  rw [e, h1 h]
  exact ⟨none, 0, none, 0, none, 0, none, 0, rfl, ⟨Kd.R_nil _ _ _ _ _, Kd.R_nil _ _ _ _ _, Kd.R_nil _ _ _ _ _, Kd.R_nil _ _ _ _ _⟩⟩
def zBagR : Array Value := #[.slice none 0 0, .slice none 0 0, .slice none 0 0, .slice none 0 0, .slice none 0 0, .slice none 0 0, .slice none 0 0, .slice none 0 0, .slice none 0 0, .slice none 0 0, .slice none 0 0, .slice none 0 0, .slice none 0 0, .slice none 0 0, .slice none 0 0, .slice none 0 0, .slice none 0 0]
theorem zBagR_nil : ∀ k, k < 17 → zBagR[k]? = some (.slice none 0 0) := by
 intro k hk
 match k, hk with
 | 0, _ => rfl
 | 1, _ => rfl
 | 2, _ => rfl
 | 3, _ => rfl
 | 4, _ => rfl
 | 5, _ => rfl
 | 6, _ => rfl
 | 7, _ => rfl
 | 8, _ => rfl
 | 9, _ => rfl
 | 10, _ => rfl
 | 11, _ => rfl
 | 12, _ => rfl
 | 13, _ => rfl
 | 14, _ => rfl
 | 15, _ => rfl
 | 16, _ => rfl
 | k + 17, h => exact absurd h (by omega)
set_option maxHeartbeats 60000000 in
set_option maxRecDepth 100000 in
theorem wreads.walk (A : Option Addr) (c : Nat) (l : List Int) (w : World) (hC : Kd.C (Kd.int .u8) w A l.length l) (hcc : l.length ≤ c) (hby : ∀ x ∈ l, 0 ≤ x ∧ x < 256) (hgl : w.cell? ⟨0, 0, none⟩ = some (.iface 182 (.agg #[.pointer (some ⟨4, 95, none⟩)]))) :
  Calls Tryz.prog 4 #[.slice A l.length c] w fun e w' => e = .returned (.bool true) ∧ Below w.heap.size w w' := by
 have hu1 := Tryz.underlying27
 have HGL := Aside0.mk hgl
 have HC := Aside0.mk (And.intro hC hcc)
 have HBY := Aside0.mk hby
 have HB := Aside0.mk (Below.refl w.heap.size w)
 by_cases hbig : l.length > 262144
 ·
  have hd1 : decide ((l.length : Int) > 262144) = true := decide_eq_true (by omega)
  have hd2 : (262144 < l.length) = True := eq_true hbig
  clear hbig hC hcc hby hgl
  go_enter Tryz.func4, Tryz.ntmps4
  go_wp2_with ((go_at_call 6; refine (lives4.calls _ (pw_cell_below HB.out HGL.out)).mono ?_; rintro e_ wl ⟨rfl, hb_⟩; replace HB := Aside0.mk (bsQ hb_ HB.out); clear hb_))
  go_ret
  exact ⟨rfl, HB.out⟩
 have hd1 : decide ((l.length : Int) > 262144) = false := decide_eq_false (by omega)
 have hd2 : (262144 < l.length) = False := eq_false hbig
 obtain ⟨kw, hkw⟩ := (wideB_ev (l := l) (by omega)).rounds
 obtain ⟨ks, hks⟩ := (spareB_ev (l := l) (by omega)).rounds
 obtain ⟨kb, hkb⟩ := (eqBytesE l (by omega)).rounds
 have HKW := Aside0.mk (And.intro hkw (And.intro hks hkb))
 have HL := Aside0.mk (show l.length ≤ 262144 by omega)
 have HSH := Aside0.mk (outO_short l hby)
 clear hbig hC hcc hby hgl hkw hks hkb
 go_enter Tryz.func4, Tryz.ntmps4
 go_upto_region 4 with ((go_at_call 15; refine (pleatref00_WideBytes.callsW kw A c l l _ (Kd.C_below HC.out.1 HB.out) HC.out.2 HKW.out.1).mono ?_; rintro e_ w3 ⟨v_, rfl, _, hb_, hw_⟩; obtain ⟨Ai, ci, rfl, hR_⟩ := hw_; have WI := Aside0.mk (show WideC (Kd.int .u8) 5 w3 w.heap.size (.slice Ai l.length ci) l mkB from WideC.lower ⟨Ai, ci, rfl, hR_⟩ HB.out.size); replace HB := Aside0.mk (bsQ hb_ HB.out); clear hb_ hR_))
 go_upto_region 5 with ((go_at_call 16; refine (wread.calls Ai ci l _ WI.out.parts.2.2.2 (Nat.le_trans (Nat.le_add_right _ 64) WI.out.parts.2.1) (Nat.le_trans HL.out (by decide)) HBY.out (pw_cell_below HB.out HGL.out)).mono ?_; rintro e_ w5 ⟨ov_, rfl, hb_, h0_, h1_⟩; obtain ⟨X1, x1, X3, x3, X4, x4, X5, x5, rfl, hr_⟩ := read_out h0_ h1_; have Rx := Aside0.mk (hr_.lower HB.out.size); replace HB := Aside0.mk (bsQ hb_ HB.out); replace WI := Aside0.mk (WideC.below WI.out hb_); clear hb_ h0_ h1_ hr_))
 have hbx := below_alloc (Below.refl w5.heap.size w5) (.cells #[.string (outO l).nm, .slice X1 (outO l).code.length x1, .int .i64 (outO l).dat, .slice X3 (outO l).data.length x3, .slice X4 (outO l).syms.length x4, .slice X5 (outO l).rels.length x5] 27)
 have Bx := Aside0.mk (MapKept.heap_alloc w5 (.cells #[.string (outO l).nm, .slice X1 (outO l).code.length x1, .int .i64 (outO l).dat, .slice X3 (outO l).data.length x3, .slice X4 (outO l).syms.length x4, .slice X5 (outO l).rels.length x5] 27)).1
 replace HB := Aside0.mk (bsQ hbx HB.out)
 replace WI := Aside0.mk (WideC.below WI.out hbx)
 replace Rx := Aside0.mk (RowsO.below Rx.out hbx)
 clear hbx
 generalize w5.alloc (.cells #[.string (outO l).nm, .slice X1 (outO l).code.length x1, .int .i64 (outO l).dat, .slice X3 (outO l).data.length x3, .slice X4 (outO l).syms.length x4, .slice X5 (outO l).rels.length x5] 27) = w6 at Bx HB WI Rx ⊢
 generalize w5.heap.size = gx at Bx ⊢
 go_upto_region 6 with ((go_at_call 16; refine (wread.calls Ai ci l _ WI.out.parts.2.2.2 (Nat.le_trans (Nat.le_add_right _ 64) WI.out.parts.2.1) (Nat.le_trans HL.out (by decide)) HBY.out (pw_cell_below HB.out HGL.out)).mono ?_; rintro e_ w7 ⟨ov_, rfl, hb_, h0_, h1_⟩; obtain ⟨Y1, y1, Y3, y3, Y4, y4, Y5, y5, rfl, hr_⟩ := read_out h0_ h1_; have NE1 := Aside0.mk (show ∀ j, (Value.slice X1 _ x1).ownBlock = some j → ∀ k, (Value.slice Y1 _ y1).ownBlock = some k → k ≠ j from fun j hj k hk => Nat.ne_of_gt (Nat.lt_of_lt_of_le (Kd.R_lt Rx.out.r1 j hj) (Kd.R_base hr_.r1 k hk))); have NE3 := Aside0.mk (show ∀ j, (Value.slice X3 _ x3).ownBlock = some j → ∀ k, (Value.slice Y3 _ y3).ownBlock = some k → k ≠ j from fun j hj k hk => Nat.ne_of_gt (Nat.lt_of_lt_of_le (Kd.R_lt Rx.out.r3 j hj) (Kd.R_base hr_.r3 k hk))); have NE4 := Aside0.mk (show ∀ j, (Value.slice X4 _ x4).ownBlock = some j → ∀ k, (Value.slice Y4 _ y4).ownBlock = some k → k ≠ j from fun j hj k hk => Nat.ne_of_gt (Nat.lt_of_lt_of_le (Kd.R_lt Rx.out.r4 j hj) (Kd.R_base hr_.r4 k hk))); have NE5 := Aside0.mk (show ∀ j, (Value.slice X5 _ x5).ownBlock = some j → ∀ k, (Value.slice Y5 _ y5).ownBlock = some k → k ≠ j from fun j hj k hk => Nat.ne_of_gt (Nat.lt_of_lt_of_le (Kd.R_lt Rx.out.r5 j hj) (Kd.R_base hr_.r5 k hk))); have Ry := Aside0.mk (hr_.lower HB.out.size); replace HB := Aside0.mk (bsQ hb_ HB.out); replace WI := Aside0.mk (WideC.below WI.out hb_); replace Rx := Aside0.mk (RowsO.below Rx.out hb_); replace Bx := Aside0.mk (blk_below Bx.out hb_); clear hb_ h0_ h1_ hr_))
 have hbx := below_alloc (Below.refl w7.heap.size w7) (.cells #[.string (outO l).nm, .slice Y1 (outO l).code.length y1, .int .i64 (outO l).dat, .slice Y3 (outO l).data.length y3, .slice Y4 (outO l).syms.length y4, .slice Y5 (outO l).rels.length y5] 27)
 have By := Aside0.mk (MapKept.heap_alloc w7 (.cells #[.string (outO l).nm, .slice Y1 (outO l).code.length y1, .int .i64 (outO l).dat, .slice Y3 (outO l).data.length y3, .slice Y4 (outO l).syms.length y4, .slice Y5 (outO l).rels.length y5] 27)).1
 replace HB := Aside0.mk (bsQ hbx HB.out)
 replace WI := Aside0.mk (WideC.below WI.out hbx)
 replace Rx := Aside0.mk (RowsO.below Rx.out hbx)
 replace Bx := Aside0.mk (blk_below Bx.out hbx)
 replace Ry := Aside0.mk (RowsO.below Ry.out hbx)
 clear hbx
 generalize w7.alloc (.cells #[.string (outO l).nm, .slice Y1 (outO l).code.length y1, .int .i64 (outO l).dat, .slice Y3 (outO l).data.length y3, .slice Y4 (outO l).syms.length y4, .slice Y5 (outO l).rels.length y5] 27) = w8 at By HB WI Rx Bx Ry ⊢
 generalize w7.heap.size = gy at By ⊢
 go_upto_region 7 with ((go_at_call 17; refine (refRead.calls A c l _ (Kd.C_below HC.out.1 HB.out) HC.out.2 (Nat.le_trans HL.out (by decide)) HBY.out).mono ?_; rintro e_ w9 ⟨ov_, rfl, hb_, h0_, h1_⟩; obtain ⟨Z1, z1, Z3, z3, Z4, z4, Z5, z5, rfl, hr_⟩ := read_out h0_ h1_; have Rz := Aside0.mk (hr_.lower HB.out.size); replace HB := Aside0.mk (bsQ hb_ HB.out); replace WI := Aside0.mk (WideC.below WI.out hb_); replace Rx := Aside0.mk (RowsO.below Rx.out hb_); replace Ry := Aside0.mk (RowsO.below Ry.out hb_); replace Bx := Aside0.mk (blk_below Bx.out hb_); replace By := Aside0.mk (blk_below By.out hb_); clear hb_ h0_ h1_ hr_))
 have hbx := below_alloc (Below.refl w9.heap.size w9) (.cells #[.string (outO l).nm, .slice Z1 (outO l).code.length z1, .int .i64 (outO l).dat, .slice Z3 (outO l).data.length z3, .slice Z4 (outO l).syms.length z4, .slice Z5 (outO l).rels.length z5] 27)
 have Bz := Aside0.mk (MapKept.heap_alloc w9 (.cells #[.string (outO l).nm, .slice Z1 (outO l).code.length z1, .int .i64 (outO l).dat, .slice Z3 (outO l).data.length z3, .slice Z4 (outO l).syms.length z4, .slice Z5 (outO l).rels.length z5] 27)).1
 replace HB := Aside0.mk (bsQ hbx HB.out)
 replace WI := Aside0.mk (WideC.below WI.out hbx)
 replace Rx := Aside0.mk (RowsO.below Rx.out hbx)
 replace Ry := Aside0.mk (RowsO.below Ry.out hbx)
 replace Bx := Aside0.mk (blk_below Bx.out hbx)
 replace By := Aside0.mk (blk_below By.out hbx)
 replace Rz := Aside0.mk (RowsO.below Rz.out hbx)
 clear hbx
 generalize w9.alloc (.cells #[.string (outO l).nm, .slice Z1 (outO l).code.length z1, .int .i64 (outO l).dat, .slice Z3 (outO l).data.length z3, .slice Z4 (outO l).syms.length z4, .slice Z5 (outO l).rels.length z5] 27) = w10 at Bz HB WI Rx Ry Bx By Rz ⊢
 generalize w9.heap.size = gz at Bz ⊢
 generalize (readC l).1 = ce
 generalize (readC l).2 = ca
 have hx0 := (blk_cell Bx.out 0).trans rfl
 have hx1 := (blk_cell Bx.out 1).trans rfl
 have hx2 := (blk_cell Bx.out 2).trans rfl
 have hx3 := (blk_cell Bx.out 3).trans rfl
 have hx4 := (blk_cell Bx.out 4).trans rfl
 have hx5 := (blk_cell Bx.out 5).trans rfl
 have hy0 := (blk_cell By.out 0).trans rfl
 have hy1 := (blk_cell By.out 1).trans rfl
 have hy2 := (blk_cell By.out 2).trans rfl
 have hy3 := (blk_cell By.out 3).trans rfl
 have hy4 := (blk_cell By.out 4).trans rfl
 have hy5 := (blk_cell By.out 5).trans rfl
 have hz0 := (blk_cell Bz.out 0).trans rfl
 have hz1 := (blk_cell Bz.out 1).trans rfl
 have hz2 := (blk_cell Bz.out 2).trans rfl
 have hz3 := (blk_cell Bz.out 3).trans rfl
 have hz4 := (blk_cell Bz.out 4).trans rfl
 have hz5 := (blk_cell Bz.out 5).trans rfl
 have TX := Aside0.mk trivial
 have TY := Aside0.mk trivial
 go_upto_region 9 with (first | (go_at_call 11; have _ := TX.out; clear TX; refine (eqObjS.calls (outO l).nm (outO l).code (outO l).dat (outO l).data (outO l).syms (outO l).rels X1 x1 X3 x3 X4 x4 X5 x5 Z1 z1 Z3 z3 Z4 z4 Z5 z5 _ (Kd.R_reads' Rx.out.r1).2.2 (Kd.R_reads' Rx.out.r3).2.2 (Kd.R_reads' Rx.out.r4).2.2 (Kd.R_reads' Rx.out.r5).2.2 (Kd.R_reads' Rz.out.r1).2.2 (Kd.R_reads' Rz.out.r3).2.2 (Kd.R_reads' Rz.out.r4).2.2 (Kd.R_reads' Rz.out.r5).2.2 HSH.out.1 HSH.out.2.1 HSH.out.2.2.1 HSH.out.2.2.2).mono ?_; rintro e_ w11 ⟨rfl, hb_⟩; replace HB := Aside0.mk (bsQ hb_ HB.out); replace WI := Aside0.mk (WideC.below WI.out hb_); replace Rx := Aside0.mk (RowsO.below Rx.out hb_); replace Ry := Aside0.mk (RowsO.below Ry.out hb_); replace Rz := Aside0.mk (RowsO.below Rz.out hb_); replace Bx := Aside0.mk (blk_below Bx.out hb_); replace By := Aside0.mk (blk_below By.out hb_); replace Bz := Aside0.mk (blk_below Bz.out hb_); clear hb_ hx0 hx1 hx2 hx3 hx4 hx5 hy0 hy1 hy2 hy3 hy4 hy5 hz0 hz1 hz2 hz3 hz4 hz5; have hx0 := (blk_cell Bx.out 0).trans rfl; have hx1 := (blk_cell Bx.out 1).trans rfl; have hx2 := (blk_cell Bx.out 2).trans rfl; have hx3 := (blk_cell Bx.out 3).trans rfl; have hx4 := (blk_cell Bx.out 4).trans rfl; have hx5 := (blk_cell Bx.out 5).trans rfl; have hy0 := (blk_cell By.out 0).trans rfl; have hy1 := (blk_cell By.out 1).trans rfl; have hy2 := (blk_cell By.out 2).trans rfl; have hy3 := (blk_cell By.out 3).trans rfl; have hy4 := (blk_cell By.out 4).trans rfl; have hy5 := (blk_cell By.out 5).trans rfl; have hz0 := (blk_cell Bz.out 0).trans rfl; have hz1 := (blk_cell Bz.out 1).trans rfl; have hz2 := (blk_cell Bz.out 2).trans rfl; have hz3 := (blk_cell Bz.out 3).trans rfl; have hz4 := (blk_cell Bz.out 4).trans rfl; have hz5 := (blk_cell Bz.out 5).trans rfl) | (go_at_call 11; have _ := TY.out; clear TY; refine (eqObjS.calls (outO l).nm (outO l).code (outO l).dat (outO l).data (outO l).syms (outO l).rels Y1 y1 Y3 y3 Y4 y4 Y5 y5 Z1 z1 Z3 z3 Z4 z4 Z5 z5 _ (Kd.R_reads' Ry.out.r1).2.2 (Kd.R_reads' Ry.out.r3).2.2 (Kd.R_reads' Ry.out.r4).2.2 (Kd.R_reads' Ry.out.r5).2.2 (Kd.R_reads' Rz.out.r1).2.2 (Kd.R_reads' Rz.out.r3).2.2 (Kd.R_reads' Rz.out.r4).2.2 (Kd.R_reads' Rz.out.r5).2.2 HSH.out.1 HSH.out.2.1 HSH.out.2.2.1 HSH.out.2.2.2).mono ?_; rintro e_ w11 ⟨rfl, hb_⟩; replace HB := Aside0.mk (bsQ hb_ HB.out); replace WI := Aside0.mk (WideC.below WI.out hb_); replace Rx := Aside0.mk (RowsO.below Rx.out hb_); replace Ry := Aside0.mk (RowsO.below Ry.out hb_); replace Rz := Aside0.mk (RowsO.below Rz.out hb_); replace Bx := Aside0.mk (blk_below Bx.out hb_); replace By := Aside0.mk (blk_below By.out hb_); replace Bz := Aside0.mk (blk_below Bz.out hb_); clear hb_ hx0 hx1 hx2 hx3 hx4 hx5 hy0 hy1 hy2 hy3 hy4 hy5 hz0 hz1 hz2 hz3 hz4 hz5; have hx0 := (blk_cell Bx.out 0).trans rfl; have hx1 := (blk_cell Bx.out 1).trans rfl; have hx2 := (blk_cell Bx.out 2).trans rfl; have hx3 := (blk_cell Bx.out 3).trans rfl; have hx4 := (blk_cell Bx.out 4).trans rfl; have hx5 := (blk_cell Bx.out 5).trans rfl; have hy0 := (blk_cell By.out 0).trans rfl; have hy1 := (blk_cell By.out 1).trans rfl; have hy2 := (blk_cell By.out 2).trans rfl; have hy3 := (blk_cell By.out 3).trans rfl; have hy4 := (blk_cell By.out 4).trans rfl; have hy5 := (blk_cell By.out 5).trans rfl; have hz0 := (blk_cell Bz.out 0).trans rfl; have hz1 := (blk_cell Bz.out 1).trans rfl; have hz2 := (blk_cell Bz.out 2).trans rfl; have hz3 := (blk_cell Bz.out 3).trans rfl; have hz4 := (blk_cell Bz.out 4).trans rfl; have hz5 := (blk_cell Bz.out 5).trans rfl) | (go_at_call 10; refine (pleatref00_EqBytes.calls kb Ai ci l A c l true _ WI.out.parts.2.2.2 (Nat.le_trans (Nat.le_add_right _ 64) WI.out.parts.2.1) (Kd.C_below HC.out.1 HB.out) HC.out.2 HKW.out.2.2).mono ?_; rintro e_ w12 ⟨rfl, hd_⟩; have hb_ := hd_.below; clear hd_; replace HB := Aside0.mk (bsQ hb_ HB.out); replace WI := Aside0.mk (WideC.below WI.out hb_); replace Rx := Aside0.mk (RowsO.below Rx.out hb_); replace Ry := Aside0.mk (RowsO.below Ry.out hb_); replace Rz := Aside0.mk (RowsO.below Rz.out hb_); replace Bx := Aside0.mk (blk_below Bx.out hb_); replace By := Aside0.mk (blk_below By.out hb_); replace Bz := Aside0.mk (blk_below Bz.out hb_); clear hb_ hx0 hx1 hx2 hx3 hx4 hx5 hy0 hy1 hy2 hy3 hy4 hy5 hz0 hz1 hz2 hz3 hz4 hz5; have hx0 := (blk_cell Bx.out 0).trans rfl; have hx1 := (blk_cell Bx.out 1).trans rfl; have hx2 := (blk_cell Bx.out 2).trans rfl; have hx3 := (blk_cell Bx.out 3).trans rfl; have hx4 := (blk_cell Bx.out 4).trans rfl; have hx5 := (blk_cell Bx.out 5).trans rfl; have hy0 := (blk_cell By.out 0).trans rfl; have hy1 := (blk_cell By.out 1).trans rfl; have hy2 := (blk_cell By.out 2).trans rfl; have hy3 := (blk_cell By.out 3).trans rfl; have hy4 := (blk_cell By.out 4).trans rfl; have hy5 := (blk_cell By.out 5).trans rfl; have hz0 := (blk_cell Bz.out 0).trans rfl; have hz1 := (blk_cell Bz.out 1).trans rfl; have hz2 := (blk_cell Bz.out 2).trans rfl; have hz3 := (blk_cell Bz.out 3).trans rfl; have hz4 := (blk_cell Bz.out 4).trans rfl; have hz5 := (blk_cell Bz.out 5).trans rfl) | (go_at_call 18; refine (pleatref00_SpareBytes.callsS ks Ai ci l.length (l ++ marksL mkB l.length) true _ WI.out.parts.2.2.1 (by rw [List.length_append, marksL_length]) (Nat.le_trans HL.out (by decide)) WI.out.parts.2.1 HKW.out.2.1 rfl).mono ?_; rintro e_ w13 ⟨rfl, hd_⟩; have hb_ := hd_.below; clear hd_; replace HB := Aside0.mk (bsQ hb_ HB.out); replace WI := Aside0.mk (WideC.below WI.out hb_); replace Rx := Aside0.mk (RowsO.below Rx.out hb_); replace Ry := Aside0.mk (RowsO.below Ry.out hb_); replace Rz := Aside0.mk (RowsO.below Rz.out hb_); replace Bx := Aside0.mk (blk_below Bx.out hb_); replace By := Aside0.mk (blk_below By.out hb_); replace Bz := Aside0.mk (blk_below Bz.out hb_); clear hb_ hx0 hx1 hx2 hx3 hx4 hx5 hy0 hy1 hy2 hy3 hy4 hy5 hz0 hz1 hz2 hz3 hz4 hz5; have hx0 := (blk_cell Bx.out 0).trans rfl; have hx1 := (blk_cell Bx.out 1).trans rfl; have hx2 := (blk_cell Bx.out 2).trans rfl; have hx3 := (blk_cell Bx.out 3).trans rfl; have hx4 := (blk_cell Bx.out 4).trans rfl; have hx5 := (blk_cell Bx.out 5).trans rfl; have hy0 := (blk_cell By.out 0).trans rfl; have hy1 := (blk_cell By.out 1).trans rfl; have hy2 := (blk_cell By.out 2).trans rfl; have hy3 := (blk_cell By.out 3).trans rfl; have hy4 := (blk_cell By.out 4).trans rfl; have hy5 := (blk_cell By.out 5).trans rfl; have hz0 := (blk_cell Bz.out 0).trans rfl; have hz1 := (blk_cell Bz.out 1).trans rfl; have hz2 := (blk_cell Bz.out 2).trans rfl; have hz3 := (blk_cell Bz.out 3).trans rfl; have hz4 := (blk_cell Bz.out 4).trans rfl; have hz5 := (blk_cell Bz.out 5).trans rfl))
 clear hx0 hx1 hx2 hx3 hx4 hx5 hy0 hy1 hy2 hy3 hy4 hy5 hz0 hz1 hz2 hz3 hz4 hz5 Bz Rz WI
 go_upto_region 10 with (((with_reducible refine gate_dst (N := 80) rfl ?_); refine box_event ?hg (N := 80) ?hd (cs := zBagR) (t := 56) ?hr ?_; (case hd => rfl); (case hg => rfl); (case hr => first | (go_simp; done) | (go_simp; rfl)); intro gg hg_ w14 BK_ hb_; have NGX := Aside0.mk (show gx ≠ gg ∧ gy ≠ gg by rw [hg_]; exact ⟨Nat.ne_of_lt (blk_lt Bx.out), Nat.ne_of_lt (blk_lt By.out)⟩); have BG := Aside0.mk (show BagO w w14 gg zBagR (.slice none 0 0) (.slice none 0 0) (.slice none 0 0) (.slice none 0 0) [] [] [] [] from ⟨bsQ hb_ HB.out, gwQ hg_ HB.out, BK_, rfl, fun k a _ _ _ _ => zBagR_nil k a, rfl, Kd.R_nil _ _ _ _ _, rfl, Kd.R_nil _ _ _ _ _, rfl, Kd.R_nil _ _ _ _ _, rfl, Kd.R_nil _ _ _ _ _⟩); clear BK_ hg_; replace HB := Aside0.mk (bsQ hb_ HB.out); replace Rx := Aside0.mk (RowsO.below Rx.out hb_); replace Ry := Aside0.mk (RowsO.below Ry.out hb_); replace Bx := Aside0.mk (blk_below Bx.out hb_); replace By := Aside0.mk (blk_below By.out hb_); clear hb_ HB; have hx0 := (blk_cell Bx.out 0).trans rfl; have hx1 := (blk_cell Bx.out 1).trans rfl; have hx2 := (blk_cell Bx.out 2).trans rfl; have hx3 := (blk_cell Bx.out 3).trans rfl; have hx4 := (blk_cell Bx.out 4).trans rfl; have hx5 := (blk_cell Bx.out 5).trans rfl; have hy0 := (blk_cell By.out 0).trans rfl; have hy1 := (blk_cell By.out 1).trans rfl; have hy2 := (blk_cell By.out 2).trans rfl; have hy3 := (blk_cell By.out 3).trans rfl; have hy4 := (blk_cell By.out 4).trans rfl; have hy5 := (blk_cell By.out 5).trans rfl))
 go_upto_region 11 with ((go_at_call 19; refine (addObject.calls BG.out (by simp) (by simp) (by simp) (by simp) (outO l).nm X1 (outO l).code.length x1 (outO l).dat X3 (outO l).data.length x3 X4 (outO l).syms.length x4 X5 (outO l).rels.length x5).mono ?_; rintro e_ w15 ⟨rfl, ⟨cg_, u4_, u5_, u8_, u9_, hbg_⟩, hf_⟩; replace Rx := Aside0.mk (Rx.out.far BG.out.blk hf_); replace Ry := Aside0.mk (Ry.out.far BG.out.blk hf_); replace By := Aside0.mk ((hf_ gy _ _ By.out NGX.out.2 (by decide) (by decide) (by decide) (by decide)).trans By.out); replace BG := Aside0.mk hbg_; clear hf_ hbg_ hx0 hx1 hx2 hx3 hx4 hx5 hy0 hy1 hy2 hy3 hy4 hy5; have hy0 := (blk_cell By.out 0).trans rfl; have hy1 := (blk_cell By.out 1).trans rfl; have hy2 := (blk_cell By.out 2).trans rfl; have hy3 := (blk_cell By.out 3).trans rfl; have hy4 := (blk_cell By.out 4).trans rfl; have hy5 := (blk_cell By.out 5).trans rfl))
 go_upto_region 12 with ((go_at_call 19; refine (addObject.calls BG.out (by simp) (by simp) (by simp) (by simp) (outO l).nm Y1 (outO l).code.length y1 (outO l).dat Y3 (outO l).data.length y3 Y4 (outO l).syms.length y4 Y5 (outO l).rels.length y5).mono ?_; rintro e_ w16 ⟨rfl, ⟨cg_, u4_, u5_, u8_, u9_, hbg_⟩, hf_⟩; replace Rx := Aside0.mk (Rx.out.far BG.out.blk hf_); replace Ry := Aside0.mk (Ry.out.far BG.out.blk hf_); replace By := Aside0.mk ((hf_ gy _ _ By.out NGX.out.2 (by decide) (by decide) (by decide) (by decide)).trans By.out); replace BG := Aside0.mk hbg_; clear hf_ hbg_ hy0 hy1 hy2 hy3 hy4 hy5; have hy0 := (blk_cell By.out 0).trans rfl; have hy1 := (blk_cell By.out 1).trans rfl; have hy2 := (blk_cell By.out 2).trans rfl; have hy3 := (blk_cell By.out 3).trans rfl; have hy4 := (blk_cell By.out 4).trans rfl; have hy5 := (blk_cell By.out 5).trans rfl))
 obtain ⟨a5, l5, k5, o5, p5, q5, r5, hkb5⟩ := kb_of (mk := mkWords) BG.out.r5 BG.out.c5 Rx.out.r1 Ry.out.r1 NE1.out HSH.out.1 HSH.out.1
 have KK5 := Aside0.mk hkb5
 clear hkb5
 obtain ⟨a4, l4, k4, o4, p4, q4, r4, hkb4⟩ := kb_of (mk := mkLongs) BG.out.r4 BG.out.c4 Rx.out.r3 Ry.out.r3 NE3.out HSH.out.2.1 HSH.out.2.1
 have KK4 := Aside0.mk hkb4
 clear hkb4
 obtain ⟨a8, l8, k8, o8, p8, q8, r8, hkb8⟩ := kb_of (mk := mkSymbols) BG.out.r8 BG.out.c8 Rx.out.r4 Ry.out.r4 NE4.out HSH.out.2.2.1 HSH.out.2.2.1
 have KK8 := Aside0.mk hkb8
 clear hkb8
 obtain ⟨a9, l9, k9, o9, p9, q9, r9, hkb9⟩ := kb_of (mk := mkRelocs) BG.out.r9 BG.out.c9 Rx.out.r5 Ry.out.r5 NE5.out HSH.out.2.2.2 HSH.out.2.2.2
 have KK9 := Aside0.mk hkb9
 clear hkb9
 clear Bx By
 go_wp2_with (first | (go_at_call 14; refine (apartO.calls w _ gg _ BG.out.blk BG.out.low BG.out.nil KK4.out KK5.out KK8.out KK9.out).mono ?_; rintro e_ w17 ⟨rfl, hb_⟩; have HB := Aside0.mk hb_; clear hb_ BG Rx Ry KK4 KK5 KK8 KK9 hy0 hy1 hy2 hy3 hy4 hy5) | (go_at_call 6; refine (lives4.calls _ (pw_cell_below HB.out HGL.out)).mono ?_; rintro e_ wl ⟨rfl, hb_⟩; replace HB := Aside0.mk (bsQ hb_ HB.out); clear hb_))
 go_ret
 exact ⟨rfl, HB.out⟩
end Go.Proofs.YtiaohbbafaaibabGreatDoor.P

/- OWN TEXT: an argument of whatever plain type (whole numbers, bools, strings, slices, structs of these), read as a value of the print's own kinds. -/
set_option linter.unusedVariables false
set_option linter.unusedSimpArgs false
namespace Go.Proofs.YtiaohbbafaaibabGreatDoor.Opn
open Go.ChangeShapes Go.WideShapes Go.Deep Go.RowKit Go.Proofs.YtiaohbbafaaibabGreatDoorW.PrintWords

def Opens (P : Program) (t : TypeId) {α : Type} (d : Kd α) (wf : α → Prop) : Prop :=
 P.cellsOf t = d.sz ∧ ∀ (H : Type) (enc : TypeId × Value → H) (w : World) (base : Nat) (spare : Nat → Bool) (held : Bool) (fuel : Nat) (cs : List Value) (x : DataW H × List MemPlace),
  DataW.trod enc P w base spare held fuel t cs = some x → (∀ n ∈ x.1.weights P t, n ≤ reachBytes) → ∃ a : α, d.K w a cs ∧ wf a

theorem Opens.int {P : Program} {t : TypeId} {k : IntKind} (hc : P.cellsOf t = 1) (hu : P.underlying t = some (.int k)) : Opens P t (Kd.int k) (fun n => (Lit.int k n).wf = true) :=
  ⟨hc, fun H enc w base spare held fuel cs x h _ => by
    obtain ⟨n, rfl, rfl, hw⟩ := DataW.trod_int hu h
    exact ⟨n, rfl, hw⟩⟩
theorem Opens.bool {P : Program} {t : TypeId} (hc : P.cellsOf t = 1) (hu : P.underlying t = some .bool) : Opens P t Kd.bool (fun _ => True) :=
  ⟨hc, fun H enc w base spare held fuel cs x h _ => by
    obtain ⟨b, rfl, rfl⟩ := DataW.trod_bool hu h
    exact ⟨b, rfl, trivial⟩⟩
theorem Opens.string {P : Program} {t : TypeId} (hc : P.cellsOf t = 1) (hu : P.underlying t = some .string) : Opens P t Kd.string (fun s => s.size ≤ 140737488351232) :=
  ⟨hc, fun H enc w base spare held fuel cs x h hz => by
    obtain ⟨s, rfl, rfl, _⟩ := DataW.trod_string hu h
    have := hz s.data.toList.length (by simp [DataW.weights])
    rw [Array.length_toList] at this
    exact ⟨s, rfl, this⟩⟩

theorem weightsAll_mem {H : Type} {P : Program} {e : TypeId} : ∀ {l : List (DataW H)} {d : DataW H}, d ∈ l → ∀ n ∈ d.weights P e, n ∈ DataW.weightsAll P e l
  | d0 :: r, d, hd, n, hn => by
    simp only [DataW.weightsAll, List.mem_append]
    rcases List.mem_cons.1 hd with rfl | hd
    · exact .inl hn
    · exact .inr (weightsAll_mem hd n hn)

theorem Opens.slice {P : Program} {t e : TypeId} {α : Type} {d : Kd α} {wf : α → Prop} {B : Nat} (hc : P.cellsOf t = 1) (hu : P.underlying t = some (.slice e)) (hB : P.bytesOf e = B) (he : Opens P e d wf) :
    Opens P t (Kd.slice e d) (fun l => l.length ≤ 9223372036854775807 ∧ l.length * B ≤ 140737488351232 ∧ ∀ x ∈ l, wf x) :=
  ⟨hc, fun H enc w base spare held fuel cs x h hz => by
    rcases open_slice hu h with ⟨rfl, rfl⟩ | ⟨a, len, cap, m, n, D, Pl, rfl, hb, hl, hm, hmm, rfl, hi⟩
    · exact ⟨[], ⟨none, 0, rfl, Nat.le_refl _, rfl, by simp, fun h => absurd h (Nat.lt_irrefl 0)⟩, by simp, by simp, fun x hx => by cases hx⟩
    · have hlm : len ≤ m := by rw [hmm]; split <;> omega
      have hw0 : ∀ n ∈ (DataW.slice ((List.range len).map D) ((List.range (m - len)).map fun j => D (len + j))).weights P t, n ≤ reachBytes := hz
      have h1 : (len + (m - len)) * P.bytesOf e ≤ reachBytes := by
        have := hw0 _ (by simp only [DataW.weights, hu]; exact List.mem_cons_self)
        simpa using this
      have hel : ∀ i, i < len → ∃ (a' : α) (c : List Value), w.cells? base (a.add (i * P.cellsOf e)) (P.cellsOf e) = some c ∧ d.K w a' c ∧ wf a' := fun i hi' => by
        obtain ⟨c, hcc, ht⟩ := hi i (Nat.lt_of_lt_of_le hi' hlm)
        obtain ⟨a', hk, hwf⟩ := he.2 H enc w base spare held n c _ ht (fun q hq => hw0 q (by
          simp only [DataW.weights, hu]
          exact List.mem_cons_of_mem _ (List.mem_append_left _ (weightsAll_mem (List.mem_map.2 ⟨i, List.mem_range.2 hi', rfl⟩) q hq))))
        exact ⟨a', c, hcc, hk, hwf⟩
      have hl' : ∃ l : List α, l.length = len ∧ ∀ i x, l[i]? = some x → ∃ c, w.cells? base (a.add (i * P.cellsOf e)) (P.cellsOf e) = some c ∧ d.K w x c ∧ wf x := by
        clear hw0 h1 hi hlm hl hz hmm h
        induction len with
        | zero => exact ⟨[], rfl, fun i x hx => by simp at hx⟩
        | succ len ih =>
          obtain ⟨l, hl, hp⟩ := ih (fun i hi => hel i (Nat.lt_succ_of_lt hi))
          obtain ⟨a', c, h1, h2, h3⟩ := hel len (Nat.lt_succ_self len)
          refine ⟨l ++ [a'], by simp [hl], fun i x hx => ?_⟩
          rcases Nat.lt_or_ge i l.length with h | h
          · rw [List.getElem?_append_left h] at hx
            exact hp i x hx
          · rw [List.getElem?_append_right h] at hx
            have hi0 : i - l.length = 0 := by
              rcases Nat.eq_zero_or_pos (i - l.length) with h0 | h0
              · exact h0
              · rw [List.getElem?_eq_none (by simp; omega)] at hx; cases hx
            rw [hi0] at hx
            simp at hx
            subst hx
            obtain rfl : i = len := by omega
            exact ⟨c, h1, h2, h3⟩
      obtain ⟨l, hll, hp⟩ := hl'
      subst hll
      refine ⟨l, ⟨some a, cap, rfl, hl, rfl, by simp only [maxLen] at hm; omega, fun _ => ⟨a, rfl, fun j p hj => ?_⟩⟩, ?_, ?_, ?_⟩
      · obtain ⟨c, h1, h2, _⟩ := hp j p hj
        obtain ⟨_, hcl, hcell⟩ := World.cells?_some h1
        refine ⟨c, by rw [hcl, he.1], h2, fun i u hu' => ?_⟩
        have hi2 : i < P.cellsOf e := by
          rw [← hcl]
          exact (List.getElem?_eq_some_iff.1 hu').1
        rw [← he.1, ← Go.Deep.add_add, hcell i hi2, hu']
      · simp only [maxLen] at hm; omega
      · rw [← hB]
        refine Nat.le_trans (Nat.mul_le_mul_right _ (show l.length ≤ l.length + (m - l.length) by omega)) ?_
        exact h1
      · intro x hx
        obtain ⟨i, hi'⟩ := List.getElem?_of_mem hx
        obtain ⟨_, _, _, h3⟩ := hp i x hi'
        exact h3⟩

def OpensF (P : Program) (fs : List Field) (off : Nat) {α : Type} (d : Kd α) (wf : α → Prop) : Prop :=
 (fs.map fun f => P.cellsOf f.type).sum = d.sz ∧ ∀ (H : Type) (enc : TypeId × Value → H) (w : World) (base : Nat) (spare : Nat → Bool) (held : Bool) (fuel : Nat) (cs : List Value) (xs : List (DataW H × List MemPlace)),
  cs.length = off + d.sz → xs.length = fs.length → (∀ (i : Nat) (f : Field), fs[i]? = some f → DataW.trod enc P w base spare held fuel f.type ((cs.drop f.offset).take (P.cellsOf f.type)) = xs[i]?) →
  (∀ n ∈ DataW.weightsEach P (fs.map (·.type)) (xs.map (·.1)), n ≤ reachBytes) → ∃ a : α, d.K w a (cs.drop off) ∧ wf a

theorem OpensF.one {P : Program} {f : Field} {off : Nat} {α : Type} {d : Kd α} {wf : α → Prop} (ho : f.offset = off) (h : Opens P f.type d wf) : OpensF P [f] off d wf := by
 refine ⟨by simp [h.1], fun H enc w base spare held fuel cs xs hl hx hf hz => ?_⟩
 match xs, hx with
 | [x], _ =>
  have h0 := hf 0 f rfl
  rw [ho, h.1, List.take_of_length_le (by rw [List.length_drop]; omega)] at h0
  exact h.2 H enc w base spare held fuel _ x h0 (fun n hn => hz n (by simp only [List.map_cons, DataW.weightsEach, List.mem_append]; exact .inl hn))

theorem OpensF.cons {P : Program} {f : Field} {fs : List Field} {off : Nat} {α β : Type} {d : Kd α} {d' : Kd β} {wf : α → Prop} {wf' : β → Prop} (ho : f.offset = off) (h : Opens P f.type d wf) (hs : OpensF P fs (off + d.sz) d' wf') :
  OpensF P (f :: fs) off (Kd.pair d d') (fun x => wf x.1 ∧ wf' x.2) := by
 refine ⟨by simp [h.1, hs.1, Kd.pair], fun H enc w base spare held fuel cs xs hl hx hf hz => ?_⟩
 match xs, hx with
 | x :: xs, hx =>
  have hsz : (Kd.pair d d').sz = d.sz + d'.sz := rfl
  have h0 := hf 0 f rfl
  rw [ho, h.1] at h0
  obtain ⟨a, hk, hw⟩ := h.2 H enc w base spare held fuel _ x h0 (fun n hn => hz n (by simp only [List.map_cons, DataW.weightsEach, List.mem_append]; exact .inl hn))
  obtain ⟨b, hk', hw'⟩ := hs.2 H enc w base spare held fuel cs xs (by omega) (by simpa using hx) (fun i g hg => hf (i + 1) g hg) (fun n hn => hz n (by simp only [List.map_cons, DataW.weightsEach, List.mem_append]; exact .inr hn))
  exact ⟨(a, b), ⟨(cs.drop off).take d.sz, cs.drop (off + d.sz), by rw [← List.drop_drop, List.take_append_drop], hk, hk'⟩, hw, hw'⟩

theorem Opens.struct {P : Program} {t : TypeId} {fs : Array Field} {α β : Type} {d : Kd α} {wf : α → Prop} (f : β → α) (g : α → β) (hfg : ∀ a, f (g a) = a) (hc : P.cellsOf t = d.sz) (hu : P.underlying t = some (.struct fs)) (h : OpensF P fs.toList 0 d wf) :
  Opens P t (Kd.iso d f) (fun x => wf (f x)) := by
 refine ⟨hc, fun H enc w base spare held fuel cs x hx hz => ?_⟩
 obtain ⟨xs, n, rfl, rfl, hl, hlen, hf⟩ := DataW.trod_struct hu hx
 obtain ⟨a, hk, hw⟩ := h.2 H enc w base spare held n cs xs (by omega) (by simpa using hlen) (fun i fl hfl => hf i fl (by simpa using hfl)) (fun q hq => hz q (by simp only [DataW.weights, hu]; exact hq))
 refine ⟨g a, ?_, by show wf (f (g a)); rw [hfg]; exact hw⟩
 show d.K w (f (g a)) cs
 rw [hfg]
 simpa using hk

theorem Opens.arg {P : Program} {t : TypeId} {α : Type} {d : Kd α} {wf : α → Prop} (ho : Opens P t d wf) {H : Type} {enc : TypeId × Value → H} {ts : List TypeId} {ds : List (DataW H)} {w : World} {base : Nat} {spare : Nat → Bool} {held : Bool} {v : Value} {x : DataW H} {ps : List MemPlace} {j : Nat}
  (hsz : (DataW.weightsEach P ts ds).all (· ≤ reachBytes) = true) (ht : ts[j]? = some t) (hd : ds[j]? = some x) (h : DataW.Trod enc P w base spare held t v x ps) : ∃ a : α, d.K w a v.cells.toList ∧ wf a := by
 obtain ⟨fuel, hf⟩ := h
 refine ho.2 H enc w base spare held fuel _ _ hf (fun n hn => ?_)
 have := List.all_eq_true.1 hsz _ (DataW.weights_mem_each ht hd n hn)
 simpa using this

theorem slice_of {P : Program} {w : World} {r : Reach} {b0 : Nat} {t e : TypeId} {v : Value} {u : Value} (hs : P.underlying t = some (.slice e)) (hv : Value.okWide P w r b0 t v) (h : v.cells.toList = [u]) : v = u := by
 obtain ⟨a, len, cap, rfl⟩ := okWide_slice hs hv
 simpa [Value.cells] using h

end Go.Proofs.YtiaohbbafaaibabGreatDoor.Opn

/- OWN TEXT, written by rows.py (for seat D), turned to names: what an argument of each parameter type of this seat's laws reads as. -/
namespace Go.Proofs.YtiaohbbafaaibabGreatDoor.P
open Go.RowKit Go.Proofs.YtiaohbbafaaibabGreatDoorW.PrintWords Go.Proofs.YtiaohbbafaaibabGreatDoorW.PrintLast Go.Proofs.YtiaohbbafaaibabGreatDoorW.PrintMore Go.Proofs.YtiaohbbafaaibabGreatDoor.Opn
set_option linter.unusedVariables false
set_option linter.unusedSimpArgs false
theorem opn5 : Opens Tryz.prog 5 (Kd.int .u8) (fun n => (Lit.int .u8 n).wf = true) := Opens.int (by kernel_rfl) Tryz.underlying5
theorem opn31 : Opens Tryz.prog 31 (Kd.slice 5 (Kd.int .u8)) (fun l => l.length ≤ 9223372036854775807 ∧ l.length * 1 ≤ 140737488351232 ∧ ∀ y ∈ l, (Lit.int .u8 y).wf = true) := Opens.slice (by kernel_rfl) Tryz.underlying31 (by kernel_rfl) opn5
end Go.Proofs.YtiaohbbafaaibabGreatDoor.P
