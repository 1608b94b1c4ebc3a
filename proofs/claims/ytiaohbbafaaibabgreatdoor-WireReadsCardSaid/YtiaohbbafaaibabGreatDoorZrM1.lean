/- OWN TEXT and printed parts of this claim, laid together: HRe, HTk, HIsa, HIsaE, P5. -/
import Derived.Test.YtiaohbbafaaibabGreatDoorZrM0
import Derived.Laws.BytesArg
import Derived.Outline
import Derived.Handy
import Derived.Deep.DeepMust
/- OWN TEXT: wire's reader, walked: text, each. -/
namespace Go.Proofs.YtiaohbbafaaibabGreatDoor.P
open Go.RowKit Go.Proofs.YtiaohbbafaaibabGreatDoorW.PrintWords Go.Proofs.YtiaohbbafaaibabGreatDoorW.PrintLast Go.Proofs.YtiaohbbafaaibabGreatDoorW.PrintMore Go.Proofs.YtiaohbbafaaibabGreatDoor.Arr
set_option linter.unusedVariables false
set_option linter.unusedSimpArgs false
theorem conv_str {w : World} {A : Option Addr} {xs : List Int} {n c : Nat} (hC : Kd.C (Kd.int .u8) w A n xs) (hn : xs.length = n) : (convert 31 9 (.slice A n c)).run Tryz.prog w = .ok (.string (strOfNums xs)) w := by
  subst hn
  cases A with
  | none =>
    have h0 : xs = [] := by
      cases xs with
      | nil => rfl
      | cons x xs =>
        obtain ⟨ad, e, _⟩ := Kd.at_int hC 0 (by omega) (show (0 : Int) < ((x :: xs).length : Int) by simp only [List.length_cons]; omega)
        cases e
    subst h0
    exact run_convert_bytes_nil w 31 5 Tryz.underlying31 Tryz.underlying5 _ c 9 Tryz.underlying9
  | some ad =>
    rw [run_convert_bytes_string w 31 9 5 (some ad) xs.length c Tryz.underlying31 Tryz.underlying5 Tryz.underlying9]
    have hl : (loadCells ad xs.length).run Tryz.prog w = .ok (xs.map (Value.int .u8)).toArray w := by
      have := run_loadCells_list (P := Tryz.prog) w ad (xs.map (Value.int .u8)) (fun j v hj => by
        have hjl : j < xs.length := by
          have := (List.getElem?_eq_some_iff.1 hj).1
          simpa using this
        obtain ⟨ad', e, hx⟩ := Kd.at_int hC (j : Int) (by omega) (by omega)
        obtain rfl := Option.some.inj e
        rw [Int.toNat_natCast, rd_getR hjl] at hx
        rw [hx]
        simp [List.getElem?_eq_getElem hjl] at hj
        rw [hj])
      simpa using this
    rw [run_bytesToString w ad xs.length c xs hl, foldl_push_bytes]
    simp [strOfNums, ByteArray.empty, ByteArray.emptyWithCapacity]
    rfl
theorem countR_range (l : List Int) (lim : Int) (s : RS) (hby : ∀ x ∈ l, 0 ≤ x ∧ x < 256) (h0 : 0 ≤ lim) : 0 ≤ (countR l lim s).1 ∧ (countR l lim s).1 ≤ lim := by
 unfold countR
 by_cases hgt : (numR l 4 s).1 > lim
 ·
  rw [if_pos hgt]
  exact ⟨Int.le_refl _, h0⟩
 ·
  rw [if_neg hgt]
  cases (numR l 4 s).2.er with
  | none => exact ⟨(numR_range l 4 s hby).1, by show (numR l 4 s).1 ≤ lim; omega⟩
  | some q => exact ⟨Int.le_refl _, h0⟩
def textR (l : List Int) (s : RS) : ByteArray × RS :=
 match (hasR l.length (countR l 24 s).1 (countR l 24 s).2).er with
 | some _ => (⟨#[]⟩, hasR l.length (countR l 24 s).1 (countR l 24 s).2)
 | none => (strOfNums ((l.take ((countR l 24 s).2.at_.toNat + (countR l 24 s).1.toNat)).drop (countR l 24 s).2.at_.toNat), ⟨(countR l 24 s).2.at_ + (countR l 24 s).1, none⟩)
set_option maxHeartbeats 8000000 in
set_option maxRecDepth 100000 in
theorem rtext.calls (w0 W : World) (r : Nat) (A : Option Addr) (c : Nat) (l : List Int) (s : RS) (h : Rd w0 W r A c l s) (hC : Kd.C (Kd.int .u8) w0 A l.length l) (hcc : l.length ≤ c) (hl : l.length ≤ 1099511627776) (hby : ∀ x ∈ l, 0 ≤ x ∧ x < 256) :
  Calls Tryz.prog 58 #[.pointer (some ⟨r, 0, none⟩)] W fun e w' => e = .returned (.string (textR l s).1) ∧ Rd w0 w' r A c l (textR l s).2 ∧ W.grownBy w' (some r) := by
 have hu1 := Tryz.underlying97
 have hu2 := Tryz.underlying31
 have hu3 := Tryz.underlying5
 have hu4 := Tryz.underlying9
 have H := Aside0.mk h
 have HH := Aside0.mk (And.intro hC (And.intro hcc (And.intro hl hby)))
 obtain ⟨v, hb, he⟩ := h.blk
 have hrg := countR_range l 24 s hby (by decide)
 clear h hb he hC hcc hl hby
 obtain ⟨nv, hnv⟩ : ∃ nv, nv = (countR l 24 s).1 := ⟨_, rfl⟩
 obtain ⟨s1, hs1⟩ : ∃ s1, s1 = (countR l 24 s).2 := ⟨_, rfl⟩
 have HN := Aside0.mk hnv
 have HS := Aside0.mk hs1
 rw [← hnv] at hrg
 have HRG := Aside0.mk hrg
 clear hrg
 cases hh : (hasR l.length nv s1).er with
 | some q =>
  have HF := Aside0.mk (show textR l s = (⟨#[]⟩, hasR l.length nv s1) by unfold textR; rw [← hnv, ← hs1, hh])
  have HB := Aside0.mk (show (hasR l.length nv s1).er.isNone = false by rw [hh]; rfl)
  clear hnv hs1 hh
  go_enter Tryz.func58, Tryz.ntmps58
  go_wp2_with (first | (go_at_call 60; refine (count.calls w0 _ r A c l s H.out HH.out.1 HH.out.2.1 HH.out.2.2.1 HH.out.2.2.2 24).mono ?_; rw [← HN.out, ← HS.out]; rintro e_ w1 ⟨rfl, hr_, hg_⟩; have HR := Aside0.mk hr_; have HG := Aside0.mk hg_; clear hr_ hg_) | (go_at_call 96; refine (has.calls w0 _ r A c l s1 HR.out nv HH.out.2.2.1).mono ?_; rw [HB.out]; rintro e_ w2 ⟨rfl, hr_, hg_⟩; have HR2 := Aside0.mk hr_; have HG2 := Aside0.mk (grown_trans HG.out hg_); clear hr_ hg_))
  go_ret
  rw [HF.out]
  exact ⟨rfl, HR2.out, HG2.out⟩
 | none =>
  have hge : ¬ ((l.length : Int) - s1.at_ < nv) := fun h => by
   unfold hasR at hh
   rw [if_pos h] at hh
   obtain ⟨q, hq⟩ := failsR_er (l.length : Int) s1
   rw [hq] at hh
   cases hh
  have hhs : hasR l.length nv s1 = s1 := if_neg hge
  have HF := Aside0.mk (show textR l s = (strOfNums ((l.take (s1.at_.toNat + nv.toNat)).drop s1.at_.toNat), ⟨s1.at_ + nv, none⟩) by unfold textR; rw [← hnv, ← hs1, hh])
  have HB := Aside0.mk (show (hasR l.length nv s1).er.isNone = true by rw [hh]; rfl)
  rw [hhs] at hh
  have HE := Aside0.mk hh
  have HHS := Aside0.mk hhs
  have HGE := Aside0.mk hge
  clear hnv hs1 hh hge hhs
  obtain ⟨kn, rfl⟩ : ∃ kn : Nat, nv = (kn : Int) := ⟨nv.toNat, by have := HRG.out; omega⟩
  go_enter Tryz.func58, Tryz.ntmps58
  go_upto_region 5 with (first | (go_at_call 60; refine (count.calls w0 _ r A c l s H.out HH.out.1 HH.out.2.1 HH.out.2.2.1 HH.out.2.2.2 24).mono ?_; rw [← HN.out, ← HS.out]; rintro e_ w1 ⟨rfl, hr_, hg_⟩; have HR := Aside0.mk hr_; have HG := Aside0.mk hg_; clear hr_ hg_) | (go_at_call 96; refine (has.calls w0 _ r A c l s1 HR.out (kn : Int) HH.out.2.2.1).mono ?_; rw [HB.out]; rintro e_ w2 ⟨rfl, hr_, hg_⟩; have HR2 := Aside0.mk hr_; have HG2 := Aside0.mk (grown_trans HG.out hg_); rw [HHS.out] at hr_; clear HR2; have HR2 := Aside0.mk hr_; obtain ⟨v1, hb1, he1⟩ := hr_.blk; rw [HE.out] at he1; obtain rfl : v1 = .nilIface := he1; obtain ⟨m, hm⟩ : ∃ m : Nat, s1.at_ = (m : Int) := ⟨s1.at_.toNat, by have := hr_.at0; omega⟩; rw [hm] at hb1; have HM := Aside0.mk hm; have HB1 := Aside0.mk hb1; have hd0 := (blk_cell hb1 0).trans rfl; have hd1 := (blk_cell hb1 1).trans rfl; have hg1 := blk_frozen hb1 1; clear hb1 hm; clear hr_ hg_))
  have HMX := Aside0.mk (show m + kn ≤ l.length by have := HGE.out; have := HM.out; omega)
  have HWV := Aside0.mk (show wrap64 ((m : Int) + (kn : Int)) = ((m + kn : Nat) : Int) by rw [wrap64_id (by have := HMX.out; have := HH.out.2.2.1; omega) (by have := HMX.out; have := HH.out.2.2.1; omega)]; omega)
  have HWL := Aside0.mk (show wrap64 (((m + kn : Nat) : Int) - (kn : Int)) = (m : Int) by rw [wrap64_id (by omega) (by have := HMX.out; have := HH.out.2.2.1; omega)]; omega)
  have hx := HR2.out.put (v := .nilIface) (y := 0) (x := .nilIface) _ (put_set (j := 1) (x := .int .i64 (wrap64 ((m : Int) + (kn : Int)))) HB1.out) ⟨s1.at_ + kn, none⟩ (by rw [HWV.out, HM.out]; rfl) rfl (by have := HR2.out.at0; show 0 ≤ s1.at_ + kn; omega) (by have := HMX.out; have := HM.out; show s1.at_ + kn ≤ _; omega) (fun _ => by have := HMX.out; have := HM.out; show s1.at_ + kn ≤ _; omega)
  generalize hws : w2.setCell ⟨r, 1, none⟩ (.int .i64 (wrap64 ((m : Int) + (kn : Int)))) = ws at hx ⊢
  clear hd0 hd1 hg1 hws
  have HX := Aside0.mk hx
  obtain ⟨v2, hb2, _⟩ := hx.1.blk
  have hz0 := (blk_cell hb2 0).trans rfl
  have hz1 : _ = some (Value.int .i64 ((m + kn : Nat) : Int)) := (blk_cell hb2 1).trans (by show some (Value.int .i64 (s1.at_ + kn)) = _; rw [HM.out]; rfl)
  clear hb2 hx
  obtain ⟨xs, hxs⟩ : ∃ xs, xs = (l.take (m + kn)).drop m := ⟨_, rfl⟩
  have hxl : xs.length = kn := by have := HMX.out; rw [hxs, List.length_drop, List.length_take]; omega
  have hcz : Kd.C (Kd.int .u8) w0 (if c = m then A else Option.map (fun x : Addr => x.add m) A) kn xs := by
   have hz := Kd.C_mid HH.out.1 (show m ≤ m + kn by omega) HMX.out HH.out.2.1
   rw [← hxs, hxl, show m * (Kd.int IntKind.u8).sz = m from Nat.mul_one m] at hz
   exact hz
  have hcv : ∀ q, (convert 31 9 (.slice (if c = m then A else Option.map (fun x : Addr => x.add m) A) kn (c - m))).run Tryz.prog (ws.drewN q) = .ok (.string (strOfNums xs)) (ws.drewN q) := fun q => conv_str (Kd.C_below hcz (pw_below_drewN HX.out.1.low q)) hxl
  have HXS := Aside0.mk hxs
  have hwm : IntKind.i64.wrap (m : Int) = (m : Int) := by have := HMX.out; have := HH.out.2.2.1; rw [i64_w, wrap64_id (by omega) (by omega)]
  have p1 : (m : Int) ≤ (m : Int) + (kn : Int) := by omega
  have p2 : (m : Int) + (kn : Int) ≤ (c : Int) := by have := HMX.out; have := HH.out.2.1; omega
  have p3 : (0 : Int) ≤ (m : Int) + (kn : Int) := by omega
  have p4 : ((m : Int) + (kn : Int)).toNat - m = kn := by omega
  clear hcz hxs hxl
  go_quiet (fail)
  clear hcv hwm p1 p2 p3 p4
  generalize (if c = m then A else Option.map (fun x : Addr => x.add m) A) = Az
  go_wp2
  go_ret
  rw [HF.out]
  refine ⟨?_, HX.out.1.below (pw_below_drewN (Below.refl _ _) _), grown_trans HG2.out (grown_trans HX.out.2 (grown_below (pw_below_drewN (Below.refl _ _) _)))⟩
  show Ending.returned (Value.string (strOfNums xs)) = _
  rw [HXS.out, HM.out, Int.toNat_natCast, Int.toNat_natCast]
def eachR {α : Type} (f : α → α) (rs : α → RS) : Nat → α → α
 | 0, a => a
 | n + 1, a => if (rs a).er.isNone = true then eachR f rs n (f a) else a
theorem eachR_go {α : Type} (f : α → α) (rs : α → RS) (n : Nat) {a : α} (h : (rs a).er = none) : eachR f rs (n + 1) a = eachR f rs n (f a) := by
 show (if (rs a).er.isNone = true then eachR f rs n (f a) else a) = _
 rw [h]
 rfl
theorem eachR_stop {α : Type} (f : α → α) (rs : α → RS) (n : Nat) {a : α} {q : Int} (h : (rs a).er = some q) : eachR f rs n a = a := by
 cases n with
 | zero => rfl
 | succ n =>
  show (if (rs a).er.isNone = true then eachR f rs n (f a) else a) = _
  rw [h]
  rfl
set_option maxHeartbeats 8000000 in
set_option maxRecDepth 100000 in
theorem each1.calls {α : Type} (I : Nat → α → World → Prop) (rs : α → RS) (f : α → α) (w0 : World) (r : Nat) (A : Option Addr) (c : Nat) (l : List Int) (hI : ∀ j a W, I j a W → Rd w0 W r A c l (rs a)) (caps : Array Value)
  (hf : ∀ j a W, I (j + 1) a W → (rs a).er = none → Calls Tryz.prog 61 caps W fun e w' => e = .returned (.tuple #[]) ∧ I j (f a) w') (a : α) (W : World) (n : Nat) (hW : I n a W) (hn : n ≤ 9223372036854775806) :
  Calls Tryz.prog 59 #[.pointer (some ⟨r, 0, none⟩), .int .i64 (n : Int), .func (.func 61) #[] caps] W fun e w' => e = .returned (.tuple #[]) ∧ ∃ j, I j (eachR f rs n a) w' := by
 have hu1 := Tryz.underlying97
 have HW := Aside0.mk hW
 have HI := Aside0.mk hI
 have HF := Aside0.mk hf
 have HN := Aside0.mk hn
 clear hW hI hf hn
 go_enter Tryz.func59, Tryz.ntmps59
 go_wp2
 go_loopw [1] (fun u1 wr => ∃ (m : Nat) (b : α), u1 = .int .i64 (m : Int) ∧ m ≤ n ∧ Aside0 (I m b wr) ∧ Aside0 (eachR f rs m b = eachR f rs n a)) (fun u1 _ => (intOf u1).toNat)
 case atStart => exact ⟨n, a, rfl, Nat.le_refl _, HW, ⟨rfl⟩⟩
 case round =>
  clear HW
  obtain ⟨m, b, rfl, hmn, HB, HE⟩ := hrel
  have HR := Aside0.mk (HI.out m b wr HB.out)
  obtain ⟨v, hb, he⟩ := HR.out.blk
  have hc2 := (blk_cell hb 2).trans rfl
  clear hb
  cases m with
  | zero =>
   have hm0 : decide (((0 : Nat) : Int) > 0) = false := by simp
   clear he hmn
   go_wp2
   refine Go.Great.bodyPost_end0 rfl rfl ?_
   have hE := HE.out
   exact ⟨rfl, 0, by rw [← hE]; exact HB.out⟩
  | succ m =>
   have hm0 : decide (((m + 1 : Nat) : Int) > 0) = true := decide_eq_true (by omega)
   have HMN := Aside0.mk hmn
   clear hmn
   cases hs : (rs b).er with
   | some q =>
    rw [hs] at he
    obtain ⟨ee, rfl, _, _⟩ := he
    have HEE := Aside0.mk (show eachR f rs n a = b by rw [← HE.out]; exact eachR_stop f rs _ hs)
    clear hs
    go_wp2
    refine Go.Great.bodyPost_end0 rfl rfl ?_
    exact ⟨rfl, m + 1, by rw [HEE.out]; exact HB.out⟩
   | none =>
    rw [hs] at he
    obtain rfl : v = .nilIface := he
    have HEE := Aside0.mk (show eachR f rs m (f b) = eachR f rs n a by rw [← HE.out]; exact (eachR_go f rs m hs).symm)
    have HS := Aside0.mk hs
    have HWR := Aside0.mk (show wrap64 (m : Int) = (m : Int) by rw [wrap64_id (by omega) (by have := HMN.out; have := HN.out; omega)])
    clear hs
    go_wp2_with (go_at_call 61; refine (HF.out m b _ HB.out HS.out).mono ?_; rintro e_ w1 ⟨rfl, hi_⟩; have HB1 := Aside0.mk hi_; clear hi_ hc2)
    go_roundw
    case measure => (try rw [HWR.out]); simp only [intOf]; omega
    case rel => exact ⟨m, f b, by first | rfl | (rw [HWR.out]; done), by have := HMN.out; omega, HB1, HEE⟩
set_option maxHeartbeats 8000000 in
set_option maxRecDepth 100000 in
theorem each2.calls {α : Type} (I : Nat → α → World → Prop) (rs : α → RS) (f : α → α) (w0 : World) (r : Nat) (A : Option Addr) (c : Nat) (l : List Int) (hI : ∀ j a W, I j a W → Rd w0 W r A c l (rs a)) (caps : Array Value)
  (hf : ∀ j a W, I (j + 1) a W → (rs a).er = none → Calls Tryz.prog 63 caps W fun e w' => e = .returned (.tuple #[]) ∧ I j (f a) w') (a : α) (W : World) (n : Nat) (hW : I n a W) (hn : n ≤ 9223372036854775806) :
  Calls Tryz.prog 59 #[.pointer (some ⟨r, 0, none⟩), .int .i64 (n : Int), .func (.func 63) #[] caps] W fun e w' => e = .returned (.tuple #[]) ∧ ∃ j, I j (eachR f rs n a) w' := by
 have hu1 := Tryz.underlying97
 have HW := Aside0.mk hW
 have HI := Aside0.mk hI
 have HF := Aside0.mk hf
 have HN := Aside0.mk hn
 clear hW hI hf hn
 go_enter Tryz.func59, Tryz.ntmps59
 go_wp2
 go_loopw [1] (fun u1 wr => ∃ (m : Nat) (b : α), u1 = .int .i64 (m : Int) ∧ m ≤ n ∧ Aside0 (I m b wr) ∧ Aside0 (eachR f rs m b = eachR f rs n a)) (fun u1 _ => (intOf u1).toNat)
 case atStart => exact ⟨n, a, rfl, Nat.le_refl _, HW, ⟨rfl⟩⟩
 case round =>
  clear HW
  obtain ⟨m, b, rfl, hmn, HB, HE⟩ := hrel
  have HR := Aside0.mk (HI.out m b wr HB.out)
  obtain ⟨v, hb, he⟩ := HR.out.blk
  have hc2 := (blk_cell hb 2).trans rfl
  clear hb
  cases m with
  | zero =>
   have hm0 : decide (((0 : Nat) : Int) > 0) = false := by simp
   clear he hmn
   go_wp2
   refine Go.Great.bodyPost_end0 rfl rfl ?_
   have hE := HE.out
   exact ⟨rfl, 0, by rw [← hE]; exact HB.out⟩
  | succ m =>
   have hm0 : decide (((m + 1 : Nat) : Int) > 0) = true := decide_eq_true (by omega)
   have HMN := Aside0.mk hmn
   clear hmn
   cases hs : (rs b).er with
   | some q =>
    rw [hs] at he
    obtain ⟨ee, rfl, _, _⟩ := he
    have HEE := Aside0.mk (show eachR f rs n a = b by rw [← HE.out]; exact eachR_stop f rs _ hs)
    clear hs
    go_wp2
    refine Go.Great.bodyPost_end0 rfl rfl ?_
    exact ⟨rfl, m + 1, by rw [HEE.out]; exact HB.out⟩
   | none =>
    rw [hs] at he
    obtain rfl : v = .nilIface := he
    have HEE := Aside0.mk (show eachR f rs m (f b) = eachR f rs n a by rw [← HE.out]; exact (eachR_go f rs m hs).symm)
    have HS := Aside0.mk hs
    have HWR := Aside0.mk (show wrap64 (m : Int) = (m : Int) by rw [wrap64_id (by omega) (by have := HMN.out; have := HN.out; omega)])
    clear hs
    go_wp2_with (go_at_call 63; refine (HF.out m b _ HB.out HS.out).mono ?_; rintro e_ w1 ⟨rfl, hi_⟩; have HB1 := Aside0.mk hi_; clear hi_ hc2)
    go_roundw
    case measure => (try rw [HWR.out]); simp only [intOf]; omega
    case rel => exact ⟨m, f b, by first | rfl | (rw [HWR.out]; done), by have := HMN.out; omega, HB1, HEE⟩
set_option maxHeartbeats 8000000 in
set_option maxRecDepth 100000 in
theorem each3.calls {α : Type} (I : Nat → α → World → Prop) (rs : α → RS) (f : α → α) (w0 : World) (r : Nat) (A : Option Addr) (c : Nat) (l : List Int) (hI : ∀ j a W, I j a W → Rd w0 W r A c l (rs a)) (caps : Array Value)
  (hf : ∀ j a W, I (j + 1) a W → (rs a).er = none → Calls Tryz.prog 65 caps W fun e w' => e = .returned (.tuple #[]) ∧ I j (f a) w') (a : α) (W : World) (n : Nat) (hW : I n a W) (hn : n ≤ 9223372036854775806) :
  Calls Tryz.prog 59 #[.pointer (some ⟨r, 0, none⟩), .int .i64 (n : Int), .func (.func 65) #[] caps] W fun e w' => e = .returned (.tuple #[]) ∧ ∃ j, I j (eachR f rs n a) w' := by
 have hu1 := Tryz.underlying97
 have HW := Aside0.mk hW
 have HI := Aside0.mk hI
 have HF := Aside0.mk hf
 have HN := Aside0.mk hn
 clear hW hI hf hn
 go_enter Tryz.func59, Tryz.ntmps59
 go_wp2
 go_loopw [1] (fun u1 wr => ∃ (m : Nat) (b : α), u1 = .int .i64 (m : Int) ∧ m ≤ n ∧ Aside0 (I m b wr) ∧ Aside0 (eachR f rs m b = eachR f rs n a)) (fun u1 _ => (intOf u1).toNat)
 case atStart => exact ⟨n, a, rfl, Nat.le_refl _, HW, ⟨rfl⟩⟩
 case round =>
  clear HW
  obtain ⟨m, b, rfl, hmn, HB, HE⟩ := hrel
  have HR := Aside0.mk (HI.out m b wr HB.out)
  obtain ⟨v, hb, he⟩ := HR.out.blk
  have hc2 := (blk_cell hb 2).trans rfl
  clear hb
  cases m with
  | zero =>
   have hm0 : decide (((0 : Nat) : Int) > 0) = false := by simp
   clear he hmn
   go_wp2
   refine Go.Great.bodyPost_end0 rfl rfl ?_
   have hE := HE.out
   exact ⟨rfl, 0, by rw [← hE]; exact HB.out⟩
  | succ m =>
   have hm0 : decide (((m + 1 : Nat) : Int) > 0) = true := decide_eq_true (by omega)
   have HMN := Aside0.mk hmn
   clear hmn
   cases hs : (rs b).er with
   | some q =>
    rw [hs] at he
    obtain ⟨ee, rfl, _, _⟩ := he
    have HEE := Aside0.mk (show eachR f rs n a = b by rw [← HE.out]; exact eachR_stop f rs _ hs)
    clear hs
    go_wp2
    refine Go.Great.bodyPost_end0 rfl rfl ?_
    exact ⟨rfl, m + 1, by rw [HEE.out]; exact HB.out⟩
   | none =>
    rw [hs] at he
    obtain rfl : v = .nilIface := he
    have HEE := Aside0.mk (show eachR f rs m (f b) = eachR f rs n a by rw [← HE.out]; exact (eachR_go f rs m hs).symm)
    have HS := Aside0.mk hs
    have HWR := Aside0.mk (show wrap64 (m : Int) = (m : Int) by rw [wrap64_id (by omega) (by have := HMN.out; have := HN.out; omega)])
    clear hs
    go_wp2_with (go_at_call 65; refine (HF.out m b _ HB.out HS.out).mono ?_; rintro e_ w1 ⟨rfl, hi_⟩; have HB1 := Aside0.mk hi_; clear hi_ hc2)
    go_roundw
    case measure => (try rw [HWR.out]); simp only [intOf]; omega
    case rel => exact ⟨m, f b, by first | rfl | (rw [HWR.out]; done), by have := HMN.out; omega, HB1, HEE⟩
set_option maxHeartbeats 8000000 in
set_option maxRecDepth 100000 in
theorem each4.calls {α : Type} (I : Nat → α → World → Prop) (rs : α → RS) (f : α → α) (w0 : World) (r : Nat) (A : Option Addr) (c : Nat) (l : List Int) (hI : ∀ j a W, I j a W → Rd w0 W r A c l (rs a)) (caps : Array Value)
  (hf : ∀ j a W, I (j + 1) a W → (rs a).er = none → Calls Tryz.prog 66 caps W fun e w' => e = .returned (.tuple #[]) ∧ I j (f a) w') (a : α) (W : World) (n : Nat) (hW : I n a W) (hn : n ≤ 9223372036854775806) :
  Calls Tryz.prog 59 #[.pointer (some ⟨r, 0, none⟩), .int .i64 (n : Int), .func (.func 66) #[] caps] W fun e w' => e = .returned (.tuple #[]) ∧ ∃ j, I j (eachR f rs n a) w' := by
 have hu1 := Tryz.underlying97
 have HW := Aside0.mk hW
 have HI := Aside0.mk hI
 have HF := Aside0.mk hf
 have HN := Aside0.mk hn
 clear hW hI hf hn
 go_enter Tryz.func59, Tryz.ntmps59
 go_wp2
 go_loopw [1] (fun u1 wr => ∃ (m : Nat) (b : α), u1 = .int .i64 (m : Int) ∧ m ≤ n ∧ Aside0 (I m b wr) ∧ Aside0 (eachR f rs m b = eachR f rs n a)) (fun u1 _ => (intOf u1).toNat)
 case atStart => exact ⟨n, a, rfl, Nat.le_refl _, HW, ⟨rfl⟩⟩
 case round =>
  clear HW
  obtain ⟨m, b, rfl, hmn, HB, HE⟩ := hrel
  have HR := Aside0.mk (HI.out m b wr HB.out)
  obtain ⟨v, hb, he⟩ := HR.out.blk
  have hc2 := (blk_cell hb 2).trans rfl
  clear hb
  cases m with
  | zero =>
   have hm0 : decide (((0 : Nat) : Int) > 0) = false := by simp
   clear he hmn
   go_wp2
   refine Go.Great.bodyPost_end0 rfl rfl ?_
   have hE := HE.out
   exact ⟨rfl, 0, by rw [← hE]; exact HB.out⟩
  | succ m =>
   have hm0 : decide (((m + 1 : Nat) : Int) > 0) = true := decide_eq_true (by omega)
   have HMN := Aside0.mk hmn
   clear hmn
   cases hs : (rs b).er with
   | some q =>
    rw [hs] at he
    obtain ⟨ee, rfl, _, _⟩ := he
    have HEE := Aside0.mk (show eachR f rs n a = b by rw [← HE.out]; exact eachR_stop f rs _ hs)
    clear hs
    go_wp2
    refine Go.Great.bodyPost_end0 rfl rfl ?_
    exact ⟨rfl, m + 1, by rw [HEE.out]; exact HB.out⟩
   | none =>
    rw [hs] at he
    obtain rfl : v = .nilIface := he
    have HEE := Aside0.mk (show eachR f rs m (f b) = eachR f rs n a by rw [← HE.out]; exact (eachR_go f rs m hs).symm)
    have HS := Aside0.mk hs
    have HWR := Aside0.mk (show wrap64 (m : Int) = (m : Int) by rw [wrap64_id (by omega) (by have := HMN.out; have := HN.out; omega)])
    clear hs
    go_wp2_with (go_at_call 66; refine (HF.out m b _ HB.out HS.out).mono ?_; rintro e_ w1 ⟨rfl, hi_⟩; have HB1 := Aside0.mk hi_; clear hi_ hc2)
    go_roundw
    case measure => (try rw [HWR.out]); simp only [intOf]; omega
    case rel => exact ⟨m, f b, by first | rfl | (rw [HWR.out]; done), by have := HMN.out; omega, HB1, HEE⟩
end Go.Proofs.YtiaohbbafaaibabGreatDoor.P

/- OWN TEXT: the document's reader, walked: Wrong, Has, Four, Eight, Count, Begin. -/
namespace Go.Proofs.YtiaohbbafaaibabGreatDoor.P
open Go.RowKit Go.Proofs.YtiaohbbafaaibabGreatDoorW.PrintWords Go.Proofs.YtiaohbbafaaibabGreatDoorW.PrintLast Go.Proofs.YtiaohbbafaaibabGreatDoorW.PrintMore Go.Proofs.YtiaohbbafaaibabGreatDoor.Arr
set_option linter.unusedVariables false
set_option linter.unusedSimpArgs false
def badT : Option Int → Int
 | none => 0
 | some _ => 27
def plcT : Option Int → Int
 | none => 0
 | some x => x
def tkV (A : Option Addr) (n c : Nat) (s : RS) : Array Value := #[.slice A n c, .int .i64 s.at_, .int .i64 (badT s.er), .int .i64 (plcT s.er)]
structure Tk (w0 W : World) (r : Nat) (A : Option Addr) (c : Nat) (l : List Int) (s : RS) : Prop where
  low : Below w0.heap.size w0 W
  blk : W.heap[r]? = some (.cells (tkV A l.length c s) 110 (0, 0))
  base : w0.heap.size ≤ r
  at0 : 0 ≤ s.at_
  at1 : s.at_ ≤ (l.length : Int) + 4
  at2 : s.er = none → s.at_ ≤ (l.length : Int)
section
variable {w0 W W1 : World} {r : Nat} {A : Option Addr} {c : Nat} {l : List Int} {s : RS}
theorem Tk.below (h : Tk w0 W r A c l s) (k : Below W.heap.size W W1) : Tk w0 W1 r A c l s := ⟨below_then h.low h.low.size k, blk_below h.blk k, h.base, h.at0, h.at1, h.at2⟩
theorem Tk.c0 (h : Tk w0 W r A c l s) : W.cell? ⟨r, 0, none⟩ = some (.slice A l.length c) := (blk_cell h.blk 0).trans rfl
theorem Tk.c1 (h : Tk w0 W r A c l s) : W.cell? ⟨r, 1, none⟩ = some (.int .i64 s.at_) := (blk_cell h.blk 1).trans rfl
theorem Tk.c2 (h : Tk w0 W r A c l s) {b : Int} (e : b = badT s.er) : W.cell? ⟨r, 2, none⟩ = some (.int .i64 b) := by
 subst e
 exact (blk_cell h.blk 2).trans rfl
theorem Tk.c3 (h : Tk w0 W r A c l s) {b : Int} (e : b = plcT s.er) : W.cell? ⟨r, 3, none⟩ = some (.int .i64 b) := by
 subst e
 exact (blk_cell h.blk 3).trans rfl
theorem Tk.put {cs : Array Value} (h : Tk w0 W r A c l s) (hp : Put W W1 r cs 110) (s1 : RS) (hcs : cs = tkV A l.length c s1) (h0 : 0 ≤ s1.at_) (h1 : s1.at_ ≤ (l.length : Int) + 4) (h2 : s1.er = none → s1.at_ ≤ (l.length : Int)) : Tk w0 W1 r A c l s1 ∧ W.grownBy W1 (some r) := by
 subst hcs
 exact ⟨⟨hp.below h.low h.base, hp.blk, h.base, h0, h1, h2⟩, put_grownN hp⟩
end
set_option maxHeartbeats 4000000 in
set_option maxRecDepth 100000 in
theorem tWrong.calls (w0 W : World) (r : Nat) (A : Option Addr) (c : Nat) (l : List Int) (s : RS) (h : Tk w0 W r A c l s) (p : Int) :
  Calls Tryz.prog 101 #[.pointer (some ⟨r, 0, none⟩), .int .i64 27, .int .i64 p] W fun e w' => e = .returned (.tuple #[]) ∧ Tk w0 w' r A c l (failsR p s) ∧ W.grownBy w' (some r) := by
 have hu1 := Tryz.underlying110
 have H := Aside0.mk h
 obtain ⟨at_, er⟩ := s
 have hf2 := blk_frozen h.blk 2
 have hf3 := blk_frozen h.blk 3
 cases er with
 | none =>
  have hc2 := h.c2 (b := 0) rfl
  have hc3 := h.c3 (b := 0) rfl
  clear h
  go_enter Tryz.func101, Tryz.ntmps101
  go_wp2
  refine Go.Great.bodyPost_end0 rfl rfl ?_
  have h1 := put_set (j := 2) (x := .int .i64 27) H.out.blk
  have h2 := put_set (j := 3) (x := .int .i64 p) h1.blk
  exact ⟨rfl, ⟨h2.below (h1.below H.out.low H.out.base) H.out.base, h2.blk, H.out.base, H.out.at0, H.out.at1, fun e => by cases e⟩, grown_trans (put_grownN h1) (put_grownN h2)⟩
 | some q =>
  have hc2 := h.c2 (b := 27) rfl
  clear h
  go_enter Tryz.func101, Tryz.ntmps101
  go_wp2
  refine Go.Great.bodyPost_end0 rfl rfl ?_
  exact ⟨rfl, H.out, grown_refl W _⟩
set_option maxHeartbeats 4000000 in
set_option maxRecDepth 100000 in
theorem tHas.calls (w0 W : World) (r : Nat) (A : Option Addr) (c : Nat) (l : List Int) (s : RS) (h : Tk w0 W r A c l s) (n : Int) (hl : l.length ≤ 1099511627776) :
  Calls Tryz.prog 102 #[.pointer (some ⟨r, 0, none⟩), .int .i64 n] W fun e w' => e = .returned (.bool (hasR l.length n s).er.isNone) ∧ Tk w0 w' r A c l (hasR l.length n s) ∧ W.grownBy w' (some r) := by
 have hu1 := Tryz.underlying110
 have H := Aside0.mk h
 have hc0 := h.c0
 have hc1 := h.c1
 have hwr : wrap64 ((l.length : Int) - s.at_) = (l.length : Int) - s.at_ := by have := h.at0; have := h.at1; rw [wrap64_id (by omega) (by omega)]
 obtain ⟨at_, er⟩ := s
 cases er with
 | some q =>
  have hc2 := h.c2 (b := 27) rfl
  have HF := Aside0.mk (show hasR l.length n ⟨at_, some q⟩ = ⟨at_, some q⟩ by unfold hasR failsR; split <;> rfl)
  clear h hwr hl
  go_enter Tryz.func102, Tryz.ntmps102
  go_wp2
  go_quiet (fail)
  go_wp2
  go_ret
  rw [HF.out]
  exact ⟨rfl, H.out.below (pw_below_drewN (Below.refl _ _) _), grown_below (pw_below_drewN (Below.refl _ _) _)⟩
 | none =>
  have hc2 := h.c2 (b := 0) rfl
  by_cases hlt : (l.length : Int) - at_ < n
  ·
   have hd : decide (wrap64 ((l.length : Int) - at_) < n) = true := by rw [hwr]; exact decide_eq_true hlt
   have HF := Aside0.mk (show hasR l.length n ⟨at_, none⟩ = failsR l.length ⟨at_, none⟩ from if_pos hlt)
   clear hlt hwr h hl
   go_enter Tryz.func102, Tryz.ntmps102
   go_wp2
   go_quiet (fail)
   go_wp2_with (go_at_call 101; refine (tWrong.calls w0 _ r A c l _ (H.out.below (pw_below_drewN (Below.refl _ _) _)) l.length).mono ?_; rintro e_ w1 ⟨rfl, hr_, hg_⟩; have HR := Aside0.mk hr_; have HG := Aside0.mk hg_; have hd2 := hr_.c2 (b := 27) rfl; clear hr_ hg_ hc0 hc1 hc2)
   go_ret
   rw [HF.out]
   exact ⟨rfl, HR.out, grown_trans (grown_below (pw_below_drewN (Below.refl _ _) _)) HG.out⟩
  ·
   have hd : decide (wrap64 ((l.length : Int) - at_) < n) = false := by rw [hwr]; exact decide_eq_false hlt
   have HF := Aside0.mk (show hasR l.length n ⟨at_, none⟩ = ⟨at_, none⟩ from if_neg hlt)
   clear hlt hwr h hl
   go_enter Tryz.func102, Tryz.ntmps102
   go_wp2
   go_quiet (fail)
   go_wp2
   go_ret
   rw [HF.out]
   exact ⟨rfl, H.out.below (pw_below_drewN (Below.refl _ _) _), grown_below (pw_below_drewN (Below.refl _ _) _)⟩
theorem beV_mid (l : List Int) (m i : Nat) (h : m + 4 ≤ l.length) (hi : i < 4) : beV (((l.take (m + 4)).drop m).take (i + 1)) = 256 * beV (((l.take (m + 4)).drop m).take i) + rd l ((m + i : Nat) : Int) := by
 rw [beV_take _ i (by rw [List.length_drop, List.length_take]; omega), rd_getR (by rw [List.length_drop, List.length_take]; omega), rd_getR (by omega), List.getElem_drop, List.getElem_take, Int.mul_comm]
theorem numR_end (l : List Int) (n : Nat) (q a : Int) : numR l n ⟨a, some q⟩ = (0, ⟨a, some q⟩) := rfl
theorem numR_lt {l : List Int} {n : Nat} {a : Int} (h : (l.length : Int) - a < n) : numR l n ⟨a, none⟩ = (0, ⟨a, some (l.length : Int)⟩) := by
 unfold numR
 exact if_pos h
theorem numR_ge {l : List Int} {n : Nat} {a : Int} (h : ¬ (l.length : Int) - a < n) : numR l n ⟨a, none⟩ = (beV ((l.take (a.toNat + n)).drop a.toNat), ⟨a + n, none⟩) := by
 unfold numR
 exact if_neg h
set_option maxHeartbeats 8000000 in
set_option maxRecDepth 100000 in
theorem tFour.calls (w0 W : World) (r : Nat) (A : Option Addr) (c : Nat) (l : List Int) (s : RS) (h : Tk w0 W r A c l s) (hC : Kd.C (Kd.int .u8) w0 A l.length l) (hl : l.length ≤ 1099511627776) (hby : ∀ x ∈ l, 0 ≤ x ∧ x < 256) :
  Calls Tryz.prog 71 #[.pointer (some ⟨r, 0, none⟩)] W fun e w' => e = .returned (.int .u32 (numR l 4 s).1) ∧ Tk w0 w' r A c l (numR l 4 s).2 ∧ W.grownBy w' (some r) := by
 have hu1 := Tryz.underlying110
 have H := Aside0.mk h
 have HL := Aside0.mk hl
 obtain ⟨at_, er⟩ := s
 have h0 : 0 ≤ at_ := h.at0
 clear h
 cases er with
 | some q =>
  have HF := Aside0.mk (show hasR l.length 4 ⟨at_, some q⟩ = ⟨at_, some q⟩ by unfold hasR failsR; split <;> rfl)
  have HFE := Aside0.mk (show (hasR l.length 4 ⟨at_, some q⟩).er.isNone = false by rw [HF.out]; rfl)
  clear hC hby hl h0
  go_enter Tryz.func71, Tryz.ntmps71
  go_wp2_with ((go_at_call 102; refine (tHas.calls w0 _ r A c l _ H.out 4 HL.out).mono ?_; rintro e_ w1 ⟨rfl, hr_, hg_⟩; rw [HF.out] at hr_; (try rw [HFE.out]); have HR := Aside0.mk hr_; have HG := Aside0.mk hg_; clear hr_ hg_; have hd0 := HR.out.c0; have hd1 := HR.out.c1; have hd2 := HR.out.c2 rfl; have hd3 := HR.out.c3 rfl; have hg1 := blk_frozen HR.out.blk 1))
  go_ret
  exact ⟨rfl, HR.out, HG.out⟩
 | none =>
  by_cases hlt : (l.length : Int) - at_ < 4
  ·
   have HF := Aside0.mk (show hasR l.length 4 ⟨at_, none⟩ = ⟨at_, some (l.length : Int)⟩ by unfold hasR failsR; rw [if_pos hlt])
   have HFE := Aside0.mk (show (hasR l.length 4 ⟨at_, none⟩).er.isNone = false by rw [HF.out]; rfl)
   have HS := Aside0.mk (numR_lt (n := 4) hlt)
   clear hC hby hl hlt h0
   go_enter Tryz.func71, Tryz.ntmps71
   go_wp2_with ((go_at_call 102; refine (tHas.calls w0 _ r A c l _ H.out 4 HL.out).mono ?_; rintro e_ w1 ⟨rfl, hr_, hg_⟩; rw [HF.out] at hr_; (try rw [HFE.out]); have HR := Aside0.mk hr_; have HG := Aside0.mk hg_; clear hr_ hg_; have hd0 := HR.out.c0; have hd1 := HR.out.c1; have hd2 := HR.out.c2 rfl; have hd3 := HR.out.c3 rfl; have hg1 := blk_frozen HR.out.blk 1))
   go_ret
   rw [HS.out]
   exact ⟨rfl, HR.out, HG.out⟩
  ·
   have HF := Aside0.mk (show hasR l.length 4 ⟨at_, none⟩ = ⟨at_, none⟩ by unfold hasR; rw [if_neg hlt])
   have HFE := Aside0.mk (show (hasR l.length 4 ⟨at_, none⟩).er.isNone = true by rw [HF.out]; rfl)
   have HS := Aside0.mk (numR_ge (n := 4) hlt)
   obtain ⟨m, hm⟩ : ∃ m : Nat, at_ = (m : Int) := ⟨at_.toNat, by omega⟩
   have HM := Aside0.mk hm
   have HLE := Aside0.mk (show m + 4 ≤ l.length by omega)
   have HC := Aside0.mk hC
   have HBY := Aside0.mk hby
   clear hC hby hl hlt h0 hm
   go_enter Tryz.func71, Tryz.ntmps71
   go_wp2_with ((go_at_call 102; refine (tHas.calls w0 _ r A c l _ H.out 4 HL.out).mono ?_; rintro e_ w1 ⟨rfl, hr_, hg_⟩; rw [HF.out] at hr_; (try rw [HFE.out]); have HR := Aside0.mk hr_; have HG := Aside0.mk hg_; clear hr_ hg_; have hd0 := HR.out.c0; have hd1 := HR.out.c1; have hd2 := HR.out.c2 rfl; have hd3 := HR.out.c3 rfl; have hg1 := blk_frozen HR.out.blk 1))
   go_loopw [3, 4] (fun u3 u4 wr => ∃ i : Nat, u4 = .int .i64 (i : Int) ∧ i ≤ 4 ∧ u3 = .int .u32 (beV (((l.take (m + 4)).drop m).take i)) ∧ Aside0 (Below w1.heap.size w1 wr)) (fun _ u4 _ => 4 - (intOf u4).toNat)
   case atStart => exact ⟨0, rfl, by omega, rfl, ⟨Below.refl _ _⟩⟩
   case round =>
    obtain ⟨i, rfl, hile, rfl, HW⟩ := hrel
    clear hd0 hd1 hd2 hd3 hg1
    have HRn := Aside0.mk (HR.out.below HW.out)
    have hd0 := HRn.out.c0
    have hd1 := HRn.out.c1
    by_cases hlt : i < 4
    ·
     have hwi : wrap64 (at_ + (i : Int)) = ((m + i : Nat) : Int) := by rw [HM.out, wrap64_id (by have := HL.out; have := HLE.out; omega) (by have := HL.out; have := HLE.out; omega)]; rfl
     have p0 : (0 : Int) ≤ wrap64 (at_ + (i : Int)) := by omega
     have q0 : wrap64 (at_ + (i : Int)) < (l.length : Int) := by have := HLE.out; omega
     obtain ⟨ad, e0, h0⟩ := Kd.at_int HC.out (wrap64 (at_ + (i : Int))) p0 q0
     subst e0
     replace h0 := pw_cell_below HRn.out.low h0
     obtain ⟨cb, hcb⟩ : ∃ cb, cb = rd l (wrap64 (at_ + (i : Int))) := ⟨_, rfl⟩
     rw [← hcb] at h0
     have HCB := Aside0.mk (show 0 ≤ cb ∧ cb < 256 by rw [hcb, hwi, rd_getR (by have := HLE.out; omega)]; exact HBY.out _ (List.getElem_mem _))
     have HST := Aside0.mk (show beV (((l.take (m + 4)).drop m).take (i + 1)) = 256 * beV (((l.take (m + 4)).drop m).take i) + cb by rw [beV_mid l m i HLE.out hlt, hcb, hwi])
     have HRG := Aside0.mk (beV_range (((l.take (m + 4)).drop m).take i) (fun x hx => HBY.out x (List.mem_of_mem_take (List.mem_of_mem_drop (List.mem_of_mem_take hx)))))
     have HTL := Aside0.mk (show (((l.take (m + 4)).drop m).take i).length ≤ 3 by rw [List.length_take]; omega)
     obtain ⟨sb, hsb⟩ : ∃ sb, sb = beV (((l.take (m + 4)).drop m).take i) := ⟨_, rfl⟩
     rw [← hsb]
     have HSB := Aside0.mk hsb
     have hltb : decide ((i : Int) < 4) = true := decide_eq_true (by omega)
     have HLT := Aside0.mk hlt
     have HWR := Aside0.mk (show wrap64 ((i : Int) + 1) = ((i + 1 : Nat) : Int) by rw [wrap64_id (by omega) (by omega)]; rfl)
     replace p0 := eq_true p0
     replace q0 := eq_true q0
     clear hsb hcb hwi hlt hile
     go_wp2
     go_quiet (fail)
     go_wp2
     go_roundw
     case measure => have hq := HLT.out; rw [HWR.out]; simp only [intOf]; omega
     case rel =>
      refine ⟨i + 1, by rw [HWR.out], by have := HLT.out; omega, ?_, ⟨below_then HW.out HW.out.size (pw_below_drewN (Below.refl _ _) _)⟩⟩
      have h1 := HRG.out
      rw [← HSB.out] at h1
      have h2 : sb < 256 ^ 3 := Int.lt_of_lt_of_le h1.2 (by have h3 := Nat.pow_le_pow_right (n := 256) (by decide) HTL.out; exact_mod_cast h3)
      have h3 := HCB.out
      rw [HST.out, ← HSB.out, show (256 * sb % 4294967296 + cb % 4294967296) % 4294967296 = 256 * sb + cb by omega]
    ·
     have hi0 : i = 4 := by omega
     subst hi0
     have hltb : decide (((4 : Nat) : Int) < 4) = false := by simp
     have hg1 := blk_frozen HRn.out.blk 1
     have HWV := Aside0.mk (show wrap64 (at_ + 4) = at_ + 4 by have := HM.out; have := HL.out; have := HLE.out; rw [wrap64_id (by omega) (by omega)])
     clear hlt hile
     go_wp2
     go_ret
     have hx := HRn.out.put (put_set (j := 1) (x := .int .i64 (wrap64 (at_ + 4))) HRn.out.blk) ⟨at_ + 4, none⟩ (by rw [HWV.out]; rfl) (by have := HM.out; show (0 : Int) ≤ at_ + 4; omega) (by have := HM.out; have := HLE.out; show at_ + 4 ≤ _; omega) (fun _ => by have := HM.out; have := HLE.out; show at_ + 4 ≤ _; omega)
     rw [HS.out]
     refine ⟨?_, hx.1, grown_trans HG.out (grown_trans (grown_below HW.out) hx.2)⟩
     rw [show at_.toNat = m by have := HM.out; omega, List.take_of_length_le (by rw [List.length_drop, List.length_take]; omega)]
     rfl
theorem beV_app (X Y : List Int) : beV (X ++ Y) = beV X * 256 ^ Y.length + beV Y := by
 have main : ∀ (Y : List Int) (a : Int), Y.foldl (fun a c => a * 256 + c) a = a * 256 ^ Y.length + Y.foldl (fun a c => a * 256 + c) 0 := by
  intro Y
  induction Y with
  | nil => intro a; simp
  | cons c Y ih =>
   intro a
   rw [List.foldl_cons, ih, List.foldl_cons, ih (0 * 256 + c), List.length_cons, Int.pow_succ, Int.zero_mul, Int.zero_add, Int.add_mul, Int.add_assoc, Int.mul_assoc, Int.mul_comm 256]
 unfold beV
 rw [List.foldl_append, main]
theorem beV_eight {l : List Int} {m : Nat} (h : m + 8 ≤ l.length) : beV ((l.take (m + 8)).drop m) = beV ((l.take (m + 4)).drop m) * 4294967296 + beV ((l.take (m + 4 + 4)).drop (m + 4)) := by
 have e : (l.take (m + 8)).drop m = (l.take (m + 4)).drop m ++ (l.take (m + 4 + 4)).drop (m + 4) := by
  rw [show m + 4 + 4 = m + 8 by omega, ← List.take_append_drop 4 ((l.take (m + 8)).drop m), List.take_drop, List.take_take, Nat.min_eq_left (by omega), List.drop_drop]
 rw [e, beV_app]
 rw [show ((l.take (m + 4 + 4)).drop (m + 4)).length = 4 by rw [List.length_drop, List.length_take]; omega]
 rfl
theorem eight_j {a b : Int} (a0 : 0 ≤ a) (a1 : a < 4294967296) (b0 : 0 ≤ b) (b1 : b < 4294967296) : Go.bits .or .u64 (IntKind.u64.wrap (IntKind.u64.wrap a * 4294967296)) (IntKind.u64.wrap b) = a * 4294967296 + b := by
 rw [show IntKind.u64.wrap a = a by rw [IntKind.wrap_u64]; omega, show IntKind.u64.wrap (a * 4294967296) = a * 4294967296 by rw [IntKind.wrap_u64]; omega, show IntKind.u64.wrap b = b by rw [IntKind.wrap_u64]; omega]
 exact Go.bits_join .u64 64 (by decide) (fun n a b => by rw [IntKind.wrap_u64]; omega) 32 (a * 4294967296) b (by omega) (by omega) (by omega) b0 (by omega) (by omega)
set_option maxHeartbeats 8000000 in
set_option maxRecDepth 100000 in
theorem tEight.calls (w0 W : World) (r : Nat) (A : Option Addr) (c : Nat) (l : List Int) (s : RS) (h : Tk w0 W r A c l s) (hC : Kd.C (Kd.int .u8) w0 A l.length l) (hl : l.length ≤ 1099511627776) (hby : ∀ x ∈ l, 0 ≤ x ∧ x < 256) :
  Calls Tryz.prog 72 #[.pointer (some ⟨r, 0, none⟩)] W fun e w' => e = .returned (.int .i64 (wrap64 (numR l 8 s).1)) ∧ Tk w0 w' r A c l (numR l 8 s).2 ∧ W.grownBy w' (some r) := by
 have hu1 := Tryz.underlying110
 have H := Aside0.mk h
 have HL := Aside0.mk hl
 obtain ⟨at_, er⟩ := s
 have h0 : 0 ≤ at_ := h.at0
 clear h
 cases er with
 | some q =>
  have HF := Aside0.mk (show hasR l.length 8 ⟨at_, some q⟩ = ⟨at_, some q⟩ by unfold hasR failsR; split <;> rfl)
  have HFE := Aside0.mk (show (hasR l.length 8 ⟨at_, some q⟩).er.isNone = false by rw [HF.out]; rfl)
  clear hC hby hl h0
  go_enter Tryz.func72, Tryz.ntmps72
  go_wp2_with ((go_at_call 102; refine (tHas.calls w0 _ r A c l _ H.out 8 HL.out).mono ?_; rintro e_ w1 ⟨rfl, hr_, hg_⟩; rw [HF.out] at hr_; (try rw [HFE.out]); have HR := Aside0.mk hr_; have HG := Aside0.mk hg_; clear hr_ hg_; have hd0 := HR.out.c0; have hd1 := HR.out.c1; have hd2 := HR.out.c2 rfl; have hd3 := HR.out.c3 rfl; have hg1 := blk_frozen HR.out.blk 1))
  go_ret
  rw [numR_end, w64_zero]
  exact ⟨rfl, HR.out, HG.out⟩
 | none =>
  by_cases hlt : (l.length : Int) - at_ < 8
  ·
   have HF := Aside0.mk (show hasR l.length 8 ⟨at_, none⟩ = ⟨at_, some (l.length : Int)⟩ by unfold hasR failsR; rw [if_pos hlt])
   have HFE := Aside0.mk (show (hasR l.length 8 ⟨at_, none⟩).er.isNone = false by rw [HF.out]; rfl)
   have HS := Aside0.mk (numR_lt (n := 8) hlt)
   clear hC hby hl hlt h0
   go_enter Tryz.func72, Tryz.ntmps72
   go_wp2_with ((go_at_call 102; refine (tHas.calls w0 _ r A c l _ H.out 8 HL.out).mono ?_; rintro e_ w1 ⟨rfl, hr_, hg_⟩; rw [HF.out] at hr_; (try rw [HFE.out]); have HR := Aside0.mk hr_; have HG := Aside0.mk hg_; clear hr_ hg_; have hd0 := HR.out.c0; have hd1 := HR.out.c1; have hd2 := HR.out.c2 rfl; have hd3 := HR.out.c3 rfl; have hg1 := blk_frozen HR.out.blk 1))
   go_ret
   rw [HS.out, w64_zero]
   exact ⟨rfl, HR.out, HG.out⟩
  ·
   have HF := Aside0.mk (show hasR l.length 8 ⟨at_, none⟩ = ⟨at_, none⟩ by unfold hasR; rw [if_neg hlt])
   have HFE := Aside0.mk (show (hasR l.length 8 ⟨at_, none⟩).er.isNone = true by rw [HF.out]; rfl)
   have HC := Aside0.mk hC
   have HBY := Aside0.mk hby
   have H8 := Aside0.mk hlt
   have H0 := Aside0.mk h0
   clear hC hby hl hlt h0
   go_enter Tryz.func72, Tryz.ntmps72
   go_wp2_with (first | (go_at_call 102; refine (tHas.calls w0 _ r A c l _ H.out 8 HL.out).mono ?_; rintro e_ w1 ⟨rfl, hr_, hg_⟩; rw [HF.out] at hr_; (try rw [HFE.out]); have HR := Aside0.mk hr_; have HG := Aside0.mk hg_; clear hr_ hg_; have hd0 := HR.out.c0; have hd1 := HR.out.c1; have hd2 := HR.out.c2 rfl; have hd3 := HR.out.c3 rfl; have hg1 := blk_frozen HR.out.blk 1) | (go_at_call 71; refine (tFour.calls w0 _ r A c l _ HR.out HC.out HL.out HBY.out).mono ?_; rintro e_ w2 ⟨rfl, hr_, hg_⟩; replace HR := Aside0.mk hr_; replace HG := Aside0.mk (grown_trans HG.out hg_); clear hr_ hg_ hd0 hd1 hd2 hd3 hg1; have hd0 := trivial; have hd1 := trivial; have hd2 := trivial; have hd3 := trivial; have hg1 := trivial))
   go_ret
   obtain ⟨m, hm⟩ : ∃ m : Nat, at_ = (m : Int) := ⟨at_.toNat, by have := H0.out; omega⟩
   have hlt := H8.out
   have e1 : numR l 4 ⟨at_, none⟩ = (beV ((l.take (m + 4)).drop m), ⟨at_ + 4, none⟩) := by rw [numR_ge (n := 4) (by omega), hm, Int.toNat_natCast]; rfl
   have e2 : numR l 4 ⟨at_ + 4, none⟩ = (beV ((l.take (m + 4 + 4)).drop (m + 4)), ⟨at_ + 8, none⟩) := by rw [numR_ge (n := 4) (by omega), show (at_ + 4).toNat = m + 4 by omega, show at_ + 4 + ((4 : Nat) : Int) = at_ + 8 by omega]
   have e8 : numR l 8 ⟨at_, none⟩ = (beV ((l.take (m + 8)).drop m), ⟨at_ + 8, none⟩) := by rw [numR_ge (n := 8) (by omega), hm, Int.toNat_natCast]; rfl
   have rg : ∀ k : Nat, k + 4 ≤ l.length → 0 ≤ beV ((l.take (k + 4)).drop k) ∧ beV ((l.take (k + 4)).drop k) < 4294967296 := fun k hk => by
    have h1 := beV_range ((l.take (k + 4)).drop k) (fun x hx => HBY.out x (List.mem_of_mem_take (List.mem_of_mem_drop hx)))
    rw [show ((l.take (k + 4)).drop k).length = 4 by rw [List.length_drop, List.length_take]; omega] at h1
    exact h1
   have k1 : (numR l 8 ⟨at_, none⟩).1 = Go.bits .or .u64 (IntKind.u64.wrap (IntKind.u64.wrap (numR l 4 ⟨at_, none⟩).1 * 4294967296)) (IntKind.u64.wrap (numR l 4 (numR l 4 ⟨at_, none⟩).2).1) := by
    have r1 := rg m (by omega)
    have r2 := rg (m + 4) (by omega)
    rw [e8, e1]
    show _ = Go.bits .or .u64 _ (IntKind.u64.wrap (numR l 4 ⟨at_ + 4, none⟩).1)
    rw [e2]
    exact (beV_eight (by omega)).trans (eight_j r1.1 r1.2 r2.1 r2.2).symm
   have k2 : (numR l 8 ⟨at_, none⟩).2 = (numR l 4 (numR l 4 ⟨at_, none⟩).2).2 := by
    rw [e8, e1]
    show _ = (numR l 4 ⟨at_ + 4, none⟩).2
    rw [e2]
   rw [k1, k2]
   exact ⟨rfl, HR.out, HG.out⟩
theorem failsR_same {p q : Int} {s : RS} (h : s.er = some q) : failsR p s = s := by
 obtain ⟨a, e⟩ := s
 obtain rfl : e = some q := h
 rfl
set_option maxHeartbeats 8000000 in
set_option maxRecDepth 100000 in
theorem tCount.calls (w0 W : World) (r : Nat) (A : Option Addr) (c : Nat) (l : List Int) (s : RS) (h : Tk w0 W r A c l s) (hC : Kd.C (Kd.int .u8) w0 A l.length l) (hl : l.length ≤ 1099511627776) (hby : ∀ x ∈ l, 0 ≤ x ∧ x < 256) (lim : Int) :
  Calls Tryz.prog 70 #[.pointer (some ⟨r, 0, none⟩), .int .i64 lim] W fun e w' => e = .returned (.int .i64 (countR l lim s).1) ∧ Tk w0 w' r A c l (countR l lim s).2 ∧ W.grownBy w' (some r) := by
 have hu1 := Tryz.underlying110
 have H := Aside0.mk h
 have HH := Aside0.mk (And.intro hC (And.intro hl hby))
 have hc1 := h.c1
 have hrg := numR_range l 4 s hby
 clear h hC hl hby
 obtain ⟨nv, hnv⟩ : ∃ nv, nv = (numR l 4 s).1 := ⟨_, rfl⟩
 obtain ⟨s1, hs1⟩ : ∃ s1, s1 = (numR l 4 s).2 := ⟨_, rfl⟩
 have HN := Aside0.mk hnv
 have HS := Aside0.mk hs1
 rw [← hnv] at hrg
 have h256 : (256 : Int) ^ 4 = 4294967296 := by decide
 rw [h256] at hrg
 have hwr : wrap64 nv = nv := by rw [wrap64_id (by omega) (by omega)]
 have HWR := Aside0.mk hwr
 cases he1s : s1.er with
 | some q =>
  have HE1 := Aside0.mk he1s
  have HF := Aside0.mk (show countR l lim s = (0, s1) by unfold countR; rw [← hnv, ← hs1, failsR_same he1s, he1s]; split <;> rfl)
  clear hwr hrg hnv hs1 h256 he1s
  go_enter Tryz.func70, Tryz.ntmps70
  go_wp2_with ((go_at_call 71; refine (tFour.calls w0 _ r A c l s H.out HH.out.1 HH.out.2.1 HH.out.2.2).mono ?_; rw [← HN.out, ← HS.out]; rintro e_ w1 ⟨rfl, hr_, hg_⟩; have HR := Aside0.mk hr_; have HG := Aside0.mk hg_; have hd2 := hr_.c2 (b := 27) (by rw [HE1.out]; rfl); clear hr_ hg_ hc1))
  go_ret
  rw [HF.out]
  exact ⟨rfl, HR.out, HG.out⟩
 | none =>
  have HE1 := Aside0.mk he1s
  by_cases hgt : nv > lim
  ·
   have hd : decide (wrap64 nv > lim) = true := by rw [hwr]; exact decide_eq_true hgt
   have HF := Aside0.mk (show countR l lim s = (0, failsR s.at_ s1) by unfold countR; rw [← hnv, ← hs1, if_pos hgt])
   clear hgt hwr hrg hnv hs1 h256 he1s
   go_enter Tryz.func70, Tryz.ntmps70
   go_wp2_with (first | (go_at_call 71; refine (tFour.calls w0 _ r A c l s H.out HH.out.1 HH.out.2.1 HH.out.2.2).mono ?_; rw [← HN.out, ← HS.out]; rintro e_ w1 ⟨rfl, hr_, hg_⟩; have HR := Aside0.mk hr_; have HG := Aside0.mk hg_; have hd2 := hr_.c2 (b := 0) (by rw [HE1.out]; rfl); clear hr_ hg_ hc1) | (go_at_call 101; refine (tWrong.calls w0 _ r A c l s1 HR.out s.at_).mono ?_; rintro e_ w2 ⟨rfl, hr_, hg_⟩; have HR2 := Aside0.mk hr_; have HG2 := Aside0.mk (grown_trans HG.out hg_); have he2 := hr_.c2 (b := 27) (by unfold failsR; rw [HE1.out]; rfl); clear hr_ hg_ hd2))
   go_ret
   rw [HF.out]
   exact ⟨rfl, HR2.out, HG2.out⟩
  ·
   have hd : decide (wrap64 nv > lim) = false := by rw [hwr]; exact decide_eq_false hgt
   have HF := Aside0.mk (show countR l lim s = (nv, s1) by unfold countR; rw [← hnv, ← hs1, if_neg hgt, he1s])
   clear hgt hwr hrg hnv hs1 h256 he1s
   go_enter Tryz.func70, Tryz.ntmps70
   go_wp2_with ((go_at_call 71; refine (tFour.calls w0 _ r A c l s H.out HH.out.1 HH.out.2.1 HH.out.2.2).mono ?_; rw [← HN.out, ← HS.out]; rintro e_ w1 ⟨rfl, hr_, hg_⟩; have HR := Aside0.mk hr_; have HG := Aside0.mk hg_; have hd2 := hr_.c2 (b := 0) (by rw [HE1.out]; rfl); clear hr_ hg_ hc1))
   go_ret
   rw [HF.out]
   refine ⟨?_, HR.out, HG.out⟩
   show Ending.returned (Value.int .i64 (wrap64 nv)) = Ending.returned (Value.int .i64 nv)
   rw [HWR.out]
end Go.Proofs.YtiaohbbafaaibabGreatDoor.P

/- OWN TEXT: what isa.has and isa.Encode come to (their tables are arrays, which the print does not take), in the print's own form. -/
namespace Go.Proofs.YtiaohbbafaaibabGreatDoor.P
open Go.RowKit Go.Proofs.YtiaohbbafaaibabGreatDoorW.PrintWords Go.Proofs.YtiaohbbafaaibabGreatDoorW.PrintLast Go.Proofs.YtiaohbbafaaibabGreatDoorW.PrintMore Go.Proofs.YtiaohbbafaaibabGreatDoor.Arr
set_option linter.unusedVariables false
set_option linter.unusedSimpArgs false

def fieldsA : Array Value := #[.int .i64 0, .int .i64 9, .int .i64 3, .int .i64 7, .int .i64 7, .int .i64 7, .int .i64 7, .int .i64 7, .int .i64 7, .int .i64 7, .int .i64 7, .int .i64 11, .int .i64 14, .int .i64 1, .int .i64 10, .int .i64 24, .int .i64 26, .int .i64 24, .int .i64 2, .int .i64 2, .int .i64 25, .int .i64 0]
theorem fieldsA_one : (fieldsA.all fun v => v.oneCell') = true := by kernel_rfl
def fieldsL : List Int := [0, 9, 3, 7, 7, 7, 7, 7, 7, 7, 7, 11, 14, 1, 10, 24, 26, 24, 2, 2, 25, 0]
theorem fieldsA_eq : fieldsA = (fieldsL.map (Value.int .i64)).toArray := rfl
theorem isa_size3 (W : World) : (sizeOf 3).run Tryz.prog W = .ok 1 W := by kernel_rfl
set_option maxHeartbeats 4000000 in
set_option maxRecDepth 100000 in
theorem isa_fields.calls (w : World) :
  Calls Tryz.prog 121 #[] w fun e w' => e = .returned (.agg fieldsA) ∧ Below w.heap.size w w' := by
 have HB := Aside0.mk (Below.refl w.heap.size w)
 go_enter Tryz.func121, Tryz.ntmps121
 go_upto_region 2 with (first | ((with_reducible refine gate_dst (N := 0) rfl ?_); refine box_event ?hg (N := 0) ?hd (cs := #[.int .i64 0, .int .i64 0, .int .i64 0, .int .i64 0, .int .i64 0, .int .i64 0, .int .i64 0, .int .i64 0, .int .i64 0, .int .i64 0, .int .i64 0, .int .i64 0, .int .i64 0, .int .i64 0, .int .i64 0, .int .i64 0, .int .i64 0, .int .i64 0, .int .i64 0, .int .i64 0, .int .i64 0, .int .i64 0]) (t := 199) ?hr ?_; (case hd => rfl); (case hg => rfl); (case hr => first | (go_simp; done) | (go_simp; rfl)); intro g0 hge0 w1 BK0 hb0; have HB1 := Aside0.mk (below_then HB.out (Nat.le_refl _) hb0); have BGa := Aside0.mk BK0; have GE0 := Aside0.mk (show w.heap.size ≤ g0 by omega); have GL0 := Aside0.mk (show g0 < w1.heap.size from blk_lt BK0); clear BK0 hb0 hge0) | ((with_reducible refine gate_dst (N := 1) rfl ?_); refine box_event ?hg (N := 1) ?hd (cs := #[.int .i64 0, .int .i64 0, .int .i64 0, .int .i64 0, .int .i64 0, .int .i64 0, .int .i64 0, .int .i64 0, .int .i64 0, .int .i64 0, .int .i64 0, .int .i64 0, .int .i64 0, .int .i64 0, .int .i64 0, .int .i64 0, .int .i64 0, .int .i64 0, .int .i64 0, .int .i64 0, .int .i64 0, .int .i64 0]) (t := 199) ?hr ?_; (case hd => rfl); (case hg => rfl); (case hr => first | (go_simp; done) | (go_simp; rfl)); intro g1 hge1 w2 BK1 hb1; have HB2 := Aside0.mk (below_then HB1.out HB1.out.size hb1); have BG1 := Aside0.mk BK1; have BG0 := Aside0.mk (blk_below BGa.out hb1); have NE := Aside0.mk (show g0 ≠ g1 by have := GL0.out; omega); have GE1 := Aside0.mk (show w.heap.size ≤ g1 by have := HB1.out.size; omega); clear BK1 hb1 hge1 HB1 BGa GL0))
 go_wp2_with (first | ((with_reducible refine gate_store (t := 3) rfl ?_); refine wpList_store_arr_const rfl rfl rfl g1 _ _ _ _ rfl rfl rfl (isa_size3 _) BG1.out (by decide) (by simp only [List.setIfInBounds_toArray, List.set_cons_zero, List.set_cons_succ]; rfl) ?_; intro w3 hp; have HBn := Aside0.mk (hp.below HB2.out GE1.out); have BG1n := Aside0.mk hp.blk; have BG0n := Aside0.mk ((hp.far g0 NE.out).trans BG0.out); clear BG1 BG0 HB2 hp; have BG1 := BG1n; have BG0 := BG0n; have HB2 := HBn; clear BG1n BG0n HBn) | ((with_reducible refine gate_dst (N := 21) rfl ?_); (refine wpList_load_row rfl 199 _ rfl g1 rfl 199 _ (0, 0) _ BG1.out Tryz.underlying199 rfl (by kernel_rfl) ?_)) | ((with_reducible refine gate_store (t := 199) rfl ?_); refine wpList_store_whole rfl rfl rfl g0 _ fieldsA _ rfl (by rfl) BG0.out (by kernel_rfl) (by rfl) fieldsA_one ?_; intro w3 hp; have HBn := Aside0.mk (hp.below HB2.out GE0.out); have BG0n := Aside0.mk hp.blk; clear BG1 BG0 HB2 hp))
 refine wp_loop_rounds 9 ?_
 iterate 9 (rw [rounds_succ]; go_wp2_with (first | ((with_reducible refine gate_store (t := 3) rfl ?_); refine wpList_store_arr_const rfl rfl rfl g1 _ _ _ _ rfl rfl rfl (isa_size3 _) BG1.out (by decide) (by simp only [List.setIfInBounds_toArray, List.set_cons_zero, List.set_cons_succ]; rfl) ?_; intro w3 hp; have HBn := Aside0.mk (hp.below HB2.out GE1.out); have BG1n := Aside0.mk hp.blk; have BG0n := Aside0.mk ((hp.far g0 NE.out).trans BG0.out); clear BG1 BG0 HB2 hp; have BG1 := BG1n; have BG0 := BG0n; have HB2 := HBn; clear BG1n BG0n HBn) | ((with_reducible refine gate_dst (N := 21) rfl ?_); (refine wpList_load_row rfl 199 _ rfl g1 rfl 199 _ (0, 0) _ BG1.out Tryz.underlying199 rfl (by kernel_rfl) ?_)) | ((with_reducible refine gate_store (t := 199) rfl ?_); refine wpList_store_whole rfl rfl rfl g0 _ fieldsA _ rfl (by rfl) BG0.out (by kernel_rfl) (by rfl) fieldsA_one ?_; intro w3 hp; have HBn := Aside0.mk (hp.below HB2.out GE0.out); have BG0n := Aside0.mk hp.blk; clear BG1 BG0 HB2 hp)))
 exact bodyPost_ret (v := .agg fieldsA) (results_cell_row Tryz.results121 _ _ g0 199 fieldsA (0, 0) _ rfl BG0n.out Tryz.underlying199 rfl (by kernel_rfl)) rfl ⟨rfl, HBn.out⟩

def hasT (a0 : Int) : Int := fieldsL.getD a0.toNat 0
def isa_has.f (a0 : Int) : Option (Int) := if a0 < 0 then (some 0) else (if a0 ≥ 22 then (some 0) else (some (hasT a0)))
set_option maxHeartbeats 1000000 in
set_option maxRecDepth 100000 in
theorem isa_has.calls (a0 : Int) (r : Int) (w : World) (h : isa_has.f a0 = some r) :
  Calls Tryz.prog 116 #[.int .i8 a0] w fun e w' => e = .returned (.int .i64 r) ∧ Below w.heap.size w w' := by
 unfold isa_has.f at h
 by_cases c1 : a0 < 0
 ·
  rw [if_pos c1] at h
  obtain rfl := Option.some.inj h
  go_enter Tryz.func116, Tryz.ntmps116
  go_wp2
  go_ret
  exact ⟨rfl, Below.refl _ _⟩
 rw [if_neg c1] at h
 by_cases c2 : a0 ≥ 22
 ·
  rw [if_pos c2] at h
  obtain rfl := Option.some.inj h
  go_enter Tryz.func116, Tryz.ntmps116
  go_wp2
  go_ret
  exact ⟨rfl, Below.refl _ _⟩
 rw [if_neg c2] at h
 have hr := Option.some.inj h
 have hv : fieldsA[a0.toNat]? = some (.int .i64 r) := by
  rw [← hr, fieldsA_eq, List.getElem?_toArray, List.getElem?_map]
  have hl : a0.toNat < fieldsL.length := by
   have : fieldsL.length = 22 := rfl
   omega
  unfold hasT
  rw [List.getD_eq_getElem?_getD, List.getElem?_eq_getElem hl]
  rfl
 have hix := fun W => run_index_arr (P := Tryz.prog) (w := W) (cs := fieldsA) (k := .i8) (i := a0) Tryz.underlying199 (by kernel_rfl) (isa_size3 W) (by omega) (by omega) hv
 clear h hr hv
 go_enter Tryz.func116, Tryz.ntmps116
 go_wp2_with (go_at_call 121; refine (isa_fields.calls _).mono ?_; rintro e w1 ⟨rfl, hb⟩)
 go_ret
 exact ⟨rfl, hb⟩

end Go.Proofs.YtiaohbbafaaibabGreatDoor.P

/- OWN TEXT: what isa.Encode comes to (it holds an array, which the print does not take), in the print's own form. -/
namespace Go.Proofs.YtiaohbbafaaibabGreatDoor.P
open Go.RowKit Go.Proofs.YtiaohbbafaaibabGreatDoorW.PrintWords Go.Proofs.YtiaohbbafaaibabGreatDoorW.PrintLast Go.Proofs.YtiaohbbafaaibabGreatDoorW.PrintMore Go.Proofs.YtiaohbbafaaibabGreatDoor.Arr
set_option linter.unusedVariables false
set_option linter.unusedSimpArgs false

theorem cells5 {W : World} {g t : Nat} {v0 v1 v2 v3 v4 : Value} (h : W.heap[g]? = some (.cells #[v0, v1, v2, v3, v4] t (0, 0))) :
  W.cell? ⟨g, 0, none⟩ = some v0 ∧ W.cell? ⟨g, 1, none⟩ = some v1 ∧ W.cell? ⟨g, 2, none⟩ = some v2 ∧ W.cell? ⟨g, 3, none⟩ = some v3 ∧ W.cell? ⟨g, 4, none⟩ = some v4 :=
 ⟨blk_cell h 0, blk_cell h 1, blk_cell h 2, blk_cell h 3, blk_cell h 4⟩
theorem arr3_one (a b c : Int) : ((#[.int .i8 a, .int .i8 b, .int .i8 c] : Array Value).all fun v => v.oneCell') = true := by kernel_rfl
def badReg (f r m : Int) : Prop := r < 0 ∨ 16 ≤ r ∨ (r ≠ 0 ∧ Go.bits .and .i64 f m = 0)
def lowT (f : Int) : Int := if Go.bits .and .i64 f 16 = 0 then (if Go.bits .and .i64 f 8 = 0 then 0 else -16384) else 0
def highT (f : Int) : Int := if Go.bits .and .i64 f 16 = 0 then (if Go.bits .and .i64 f 8 = 0 then 0 else 16383) else 16383
def encW (a0 a1 a2 a3 a4 : Int) : Int := Go.bits .or .u32 (Go.bits .or .u32 (Go.bits .or .u32 (Go.bits .or .u32 (a0 * 134217728) (a1 * 8388608)) (a2 * 524288)) (a3 * 32768)) (Go.bits .and .u32 (a4 % 4294967296) 32767)
def RegRel (fv a1 a2 a3 : Int) (i : Value) : Prop :=
 i = .int .i64 0 ∨ (i = .int .i64 1 ∧ ¬ badReg fv a1 1) ∨ (i = .int .i64 2 ∧ ¬ badReg fv a1 1 ∧ ¬ badReg fv a2 2) ∨ (i = .int .i64 3 ∧ ¬ badReg fv a1 1 ∧ ¬ badReg fv a2 2 ∧ ¬ badReg fv a3 4)
def BadIns (fv a1 a2 a3 a4 : Int) : Prop := badReg fv a1 1 ∨ badReg fv a2 2 ∨ badReg fv a3 4 ∨ a4 < lowT fv ∨ a4 > highT fv
set_option maxHeartbeats 8000000 in
set_option maxRecDepth 100000 in
theorem isa_Encode.calls_in (a0 a1 a2 a3 a4 fv : Int) (r1 r2 : Int) (w : World) (h0 : 0 ≤ a0) (h22 : a0 < 22) (Hhas : Aside0 (isa_has.f a0 = some fv))
  (Hbad : Aside0 (BadIns fv a1 a2 a3 a4 → r1 = 0 ∧ r2 = 11)) (Hgood : Aside0 (¬ BadIns fv a1 a2 a3 a4 → r1 = encW a0 a1 a2 a3 a4 ∧ r2 = 0)) :
  Calls Tryz.prog 120 #[.agg #[.int .i8 a0, .int .i8 a1, .int .i8 a2, .int .i8 a3, .int .i64 a4]] w fun e w' => e = .returned (.tuple #[.int .u32 r1, .int .i64 r2]) ∧ Below w.heap.size w w' := by
 have i0 : ∀ W, (Instr.index 204 (.agg #[.int .i8 a1, .int .i8 a2, .int .i8 a3]) (.int .i64 0)).run Tryz.prog W = .ok (.int .i8 a1) W := fun _ => by kernel_rfl
 have i1 : ∀ W, (Instr.index 204 (.agg #[.int .i8 a1, .int .i8 a2, .int .i8 a3]) (.int .i64 1)).run Tryz.prog W = .ok (.int .i8 a2) W := fun _ => by kernel_rfl
 have i2 : ∀ W, (Instr.index 204 (.agg #[.int .i8 a1, .int .i8 a2, .int .i8 a3]) (.int .i64 2)).run Tryz.prog W = .ok (.int .i8 a3) W := fun _ => by kernel_rfl
 go_enter Tryz.func120, Tryz.ntmps120
 go_wp2_with (first | ((with_reducible refine gate_dst (N := 1) rfl ?_); refine box_event ?hg (N := 1) ?hd (cs := #[.int .i8 a0, .int .i8 a1, .int .i8 a2, .int .i8 a3, .int .i64 a4]) (t := 140) ?hr ?_; (case hd => rfl); (case hg => rfl); (case hr => first | (go_simp; done) | (go_simp; rfl)); intro g0 hge0 w1 BK1 hb1; have HB := Aside0.mk (below_then (Below.refl w.heap.size w) (Nat.le_refl _) hb1); have BK := Aside0.mk BK1; have GE0 := Aside0.mk (show w.heap.size ≤ g0 by omega); clear BK1 hb1 hge0; obtain ⟨q0, q1, q2, q3, q4⟩ := cells5 BK.out) | (go_at_call 116; refine (isa_has.calls a0 fv _ Hhas.out).mono ?_; rintro e w2 ⟨rfl, hb⟩; replace HB := Aside0.mk (below_then HB.out HB.out.size hb); replace BK := Aside0.mk (blk_below BK.out hb); clear hb q0 q1 q2 q3 q4; obtain ⟨q0, q1, q2, q3, q4⟩ := cells5 BK.out) | ((with_reducible refine gate_dst (N := 5) rfl ?_); refine box_event ?hg (N := 5) ?hd (cs := #[.int .i8 0, .int .i8 0, .int .i8 0]) (t := 204) ?hr ?_; (case hd => rfl); (case hg => rfl); (case hr => first | (go_simp; done) | (go_simp; rfl)); intro g1 hge1 w3 BR1 hb; have HBn := Aside0.mk (below_then HB.out HB.out.size hb); have BKn := Aside0.mk (blk_below BK.out hb); have BR := Aside0.mk BR1; have NE := Aside0.mk (show g0 ≠ g1 by have := blk_lt BK.out; omega); have GE1 := Aside0.mk (show w.heap.size ≤ g1 by have := HB.out.size; omega); clear HB BK hb q0 q1 q2 q3 q4 BR1 hge1; have HB := HBn; have BK := BKn; clear HBn BKn; obtain ⟨q0, q1, q2, q3, q4⟩ := cells5 BK.out) | ((with_reducible refine gate_store (t := 204) rfl ?_); refine wpList_store_whole rfl rfl rfl g1 _ #[.int .i8 a1, .int .i8 a2, .int .i8 a3] _ rfl (by rfl) BR.out (by kernel_rfl) (by rfl) (arr3_one _ _ _) ?_; intro w4 hp; replace HB := Aside0.mk (hp.below HB.out GE1.out); replace BK := Aside0.mk ((hp.far g0 NE.out).trans BK.out); replace BR := Aside0.mk hp.blk; clear hp q0 q1 q2 q3 q4; obtain ⟨q0, q1, q2, q3, q4⟩ := cells5 BK.out) | ((with_reducible refine gate_dst (N := 28) rfl ?_); refine wpList_load_row rfl 204 _ rfl g1 rfl 204 _ (0, 0) _ BR.out Tryz.underlying204 rfl (by kernel_rfl) ?_))
 go_loop [29] (fun i => RegRel fv a1 a2 a3 i) (fun i => 3 - (intOf i).toNat)
 case atStart => exact .inl rfl
 case round =>
  rcases hrel with rfl | ⟨rfl, hg1⟩ | ⟨rfl, hg1, hg2⟩ | ⟨rfl, hg1, hg2, hg3⟩
  ·
   -- register 0
   by_cases c1 : a1 < 0
   ·
    have hbd : badReg fv a1 1 := .inl c1
    have Hbd := Aside0.mk (show BadIns fv a1 a2 a3 a4 from .inl hbd)
    clear hbd
    go_wp2
    go_ret2
    exact ⟨by obtain ⟨rfl, rfl⟩ := Hbad.out Hbd.out; rfl, HB.out⟩
   by_cases c2 : 16 ≤ a1
   ·
    have hbd : badReg fv a1 1 := .inr (.inl c2)
    have Hbd := Aside0.mk (show BadIns fv a1 a2 a3 a4 from .inl hbd)
    clear hbd
    go_wp2
    go_ret2
    exact ⟨by obtain ⟨rfl, rfl⟩ := Hbad.out Hbd.out; rfl, HB.out⟩
   by_cases c3 : a1 = 0
   ·
    have HG := Aside0.mk (show ¬ badReg fv a1 1 from fun h => by rcases h with h | h | h <;> omega)
    have e1 : (a1 != 0) = false := by simp [c3]
    clear c3
    go_wp2
    go_round
    case rel => exact .inr (.inl ⟨rfl, HG.out⟩)
    case measure => simp [intOf]
   have e1 : (a1 != 0) = true := by simp [c3]
   by_cases c4 : Go.bits .and .i64 fv 1 = 0
   ·
    have hbd : badReg fv a1 1 := .inr (.inr ⟨c3, c4⟩)
    have Hbd := Aside0.mk (show BadIns fv a1 a2 a3 a4 from .inl hbd)
    have e2 : (Go.bits .and .i64 fv 1 == 0) = true := by simp [c4]
    clear hbd c3 c4
    go_wp2
    go_ret2
    exact ⟨by obtain ⟨rfl, rfl⟩ := Hbad.out Hbd.out; rfl, HB.out⟩
   have HG := Aside0.mk (show ¬ badReg fv a1 1 from fun h => by rcases h with h | h | h <;> first | omega | exact c4 h.2)
   have e2 : (Go.bits .and .i64 fv 1 == 0) = false := by simp [c4]
   clear c3 c4
   go_wp2
   go_round
   case rel => exact .inr (.inl ⟨rfl, HG.out⟩)
   case measure => simp [intOf]
  ·
   -- register 1
   have H1 := Aside0.mk hg1
   clear hg1
   by_cases c1 : a2 < 0
   ·
    have hbd : badReg fv a2 2 := .inl c1
    have Hbd := Aside0.mk (show BadIns fv a1 a2 a3 a4 from .inr (.inl hbd))
    clear hbd
    go_wp2
    go_ret2
    exact ⟨by obtain ⟨rfl, rfl⟩ := Hbad.out Hbd.out; rfl, HB.out⟩
   by_cases c2 : 16 ≤ a2
   ·
    have hbd : badReg fv a2 2 := .inr (.inl c2)
    have Hbd := Aside0.mk (show BadIns fv a1 a2 a3 a4 from .inr (.inl hbd))
    clear hbd
    go_wp2
    go_ret2
    exact ⟨by obtain ⟨rfl, rfl⟩ := Hbad.out Hbd.out; rfl, HB.out⟩
   by_cases c3 : a2 = 0
   ·
    have HG := Aside0.mk (show ¬ badReg fv a2 2 from fun h => by rcases h with h | h | h <;> omega)
    have e1 : (a2 != 0) = false := by simp [c3]
    clear c3
    go_wp2
    go_round
    case rel => exact .inr (.inr (.inl ⟨rfl, H1.out, HG.out⟩))
    case measure => simp [intOf]
   have e1 : (a2 != 0) = true := by simp [c3]
   by_cases c4 : Go.bits .and .i64 fv 2 = 0
   ·
    have hbd : badReg fv a2 2 := .inr (.inr ⟨c3, c4⟩)
    have Hbd := Aside0.mk (show BadIns fv a1 a2 a3 a4 from .inr (.inl hbd))
    have e2 : (Go.bits .and .i64 fv 2 == 0) = true := by simp [c4]
    clear hbd c3 c4
    go_wp2
    go_ret2
    exact ⟨by obtain ⟨rfl, rfl⟩ := Hbad.out Hbd.out; rfl, HB.out⟩
   have HG := Aside0.mk (show ¬ badReg fv a2 2 from fun h => by rcases h with h | h | h <;> first | omega | exact c4 h.2)
   have e2 : (Go.bits .and .i64 fv 2 == 0) = false := by simp [c4]
   clear c3 c4
   go_wp2
   go_round
   case rel => exact .inr (.inr (.inl ⟨rfl, H1.out, HG.out⟩))
   case measure => simp [intOf]
  ·
   -- register 2
   have H1 := Aside0.mk hg1
   have H2 := Aside0.mk hg2
   clear hg1 hg2
   by_cases c1 : a3 < 0
   ·
    have hbd : badReg fv a3 4 := .inl c1
    have Hbd := Aside0.mk (show BadIns fv a1 a2 a3 a4 from .inr (.inr (.inl hbd)))
    clear hbd
    go_wp2
    go_ret2
    exact ⟨by obtain ⟨rfl, rfl⟩ := Hbad.out Hbd.out; rfl, HB.out⟩
   by_cases c2 : 16 ≤ a3
   ·
    have hbd : badReg fv a3 4 := .inr (.inl c2)
    have Hbd := Aside0.mk (show BadIns fv a1 a2 a3 a4 from .inr (.inr (.inl hbd)))
    clear hbd
    go_wp2
    go_ret2
    exact ⟨by obtain ⟨rfl, rfl⟩ := Hbad.out Hbd.out; rfl, HB.out⟩
   by_cases c3 : a3 = 0
   ·
    have HG := Aside0.mk (show ¬ badReg fv a3 4 from fun h => by rcases h with h | h | h <;> omega)
    have e1 : (a3 != 0) = false := by simp [c3]
    clear c3
    go_wp2
    go_round
    case rel => exact .inr (.inr (.inr ⟨rfl, H1.out, H2.out, HG.out⟩))
    case measure => simp [intOf]
   have e1 : (a3 != 0) = true := by simp [c3]
   by_cases c4 : Go.bits .and .i64 fv 4 = 0
   ·
    have hbd : badReg fv a3 4 := .inr (.inr ⟨c3, c4⟩)
    have Hbd := Aside0.mk (show BadIns fv a1 a2 a3 a4 from .inr (.inr (.inl hbd)))
    have e2 : (Go.bits .and .i64 fv 4 == 0) = true := by simp [c4]
    clear hbd c3 c4
    go_wp2
    go_ret2
    exact ⟨by obtain ⟨rfl, rfl⟩ := Hbad.out Hbd.out; rfl, HB.out⟩
   have HG := Aside0.mk (show ¬ badReg fv a3 4 from fun h => by rcases h with h | h | h <;> first | omega | exact c4 h.2)
   have e2 : (Go.bits .and .i64 fv 4 == 0) = false := by simp [c4]
   clear c3 c4
   go_wp2
   go_round
   case rel => exact .inr (.inr (.inr ⟨rfl, H1.out, H2.out, HG.out⟩))
   case measure => simp [intOf]
  ·
   have b1 : 0 ≤ a1 ∧ a1 < 16 := by unfold badReg at hg1; omega
   have b2 : 0 ≤ a2 ∧ a2 < 16 := by unfold badReg at hg2; omega
   have b3 : 0 ≤ a3 ∧ a3 < 16 := by unfold badReg at hg3; omega
   obtain ⟨b1l, b1h⟩ := b1
   obtain ⟨b2l, b2h⟩ := b2
   obtain ⟨b3l, b3h⟩ := b3
   have H1 := Aside0.mk hg1
   have H2 := Aside0.mk hg2
   have H3 := Aside0.mk hg3
   clear hg1 hg2 hg3 i0 i1 i2
   by_cases c5 : Go.bits .and .i64 fv 16 = 0
   ·
    have e5 : (Go.bits .and .i64 fv 16 != 0) = false := by simp [c5]
    by_cases c6 : Go.bits .and .i64 fv 8 = 0
    ·
     have e6 : (Go.bits .and .i64 fv 8 != 0) = false := by simp [c6]
     have HL := Aside0.mk (show lowT fv = 0 from by simp [lowT, *])
     have HH := Aside0.mk (show highT fv = 0 from by simp [highT, *])
     clear c5 c6
     by_cases c7 : a4 < 0
     ·
      have Hbd := Aside0.mk (show BadIns fv a1 a2 a3 a4 from .inr (.inr (.inr (.inl (by rw [HL.out]; exact c7)))))
      go_wp2
      go_ret2
      exact ⟨by obtain ⟨rfl, rfl⟩ := Hbad.out Hbd.out; rfl, HB.out⟩
     by_cases c8 : a4 > 0
     ·
      have Hbd := Aside0.mk (show BadIns fv a1 a2 a3 a4 from .inr (.inr (.inr (.inr (by rw [HH.out]; exact c8)))))
      go_wp2
      go_ret2
      exact ⟨by obtain ⟨rfl, rfl⟩ := Hbad.out Hbd.out; rfl, HB.out⟩
     have Hgd := Aside0.mk (show ¬ BadIns fv a1 a2 a3 a4 from fun h => by rcases h with h | h | h | h | h <;> first | exact H1.out h | exact H2.out h | exact H3.out h | (rw [HL.out] at h; omega) | (rw [HH.out] at h; omega))
     have c7' : 0 ≤ a4 := by omega
     have c8' : a4 ≤ 0 := by omega
     clear c7 c8
     go_wp2
     go_ret2
     obtain ⟨rfl, rfl⟩ := Hgood.out Hgd.out
     exact ⟨by unfold encW; first | rfl | (rw [show a4 % 4294967296 = a4 by omega]; rfl), HB.out⟩
    ·
     have e6 : (Go.bits .and .i64 fv 8 != 0) = true := by simp [c6]
     have HL := Aside0.mk (show lowT fv = (-16384) from by simp [lowT, *])
     have HH := Aside0.mk (show highT fv = 16383 from by simp [highT, *])
     clear c5 c6
     by_cases c7 : a4 < (-16384)
     ·
      have Hbd := Aside0.mk (show BadIns fv a1 a2 a3 a4 from .inr (.inr (.inr (.inl (by rw [HL.out]; exact c7)))))
      go_wp2
      go_ret2
      exact ⟨by obtain ⟨rfl, rfl⟩ := Hbad.out Hbd.out; rfl, HB.out⟩
     by_cases c8 : a4 > 16383
     ·
      have Hbd := Aside0.mk (show BadIns fv a1 a2 a3 a4 from .inr (.inr (.inr (.inr (by rw [HH.out]; exact c8)))))
      go_wp2
      go_ret2
      exact ⟨by obtain ⟨rfl, rfl⟩ := Hbad.out Hbd.out; rfl, HB.out⟩
     have Hgd := Aside0.mk (show ¬ BadIns fv a1 a2 a3 a4 from fun h => by rcases h with h | h | h | h | h <;> first | exact H1.out h | exact H2.out h | exact H3.out h | (rw [HL.out] at h; omega) | (rw [HH.out] at h; omega))
     have c7' : (-16384) ≤ a4 := by omega
     have c8' : a4 ≤ 16383 := by omega
     clear c7 c8
     go_wp2
     go_ret2
     obtain ⟨rfl, rfl⟩ := Hgood.out Hgd.out
     exact ⟨by unfold encW; first | rfl | (rw [show a4 % 4294967296 = a4 by omega]; rfl), HB.out⟩
   ·
    have e5 : (Go.bits .and .i64 fv 16 != 0) = true := by simp [c5]
    have HL := Aside0.mk (show lowT fv = 0 from by simp [lowT, *])
    have HH := Aside0.mk (show highT fv = 16383 from by simp [highT, *])
    clear c5
    by_cases c7 : a4 < 0
    ·
     have Hbd := Aside0.mk (show BadIns fv a1 a2 a3 a4 from .inr (.inr (.inr (.inl (by rw [HL.out]; exact c7)))))
     go_wp2
     go_ret2
     exact ⟨by obtain ⟨rfl, rfl⟩ := Hbad.out Hbd.out; rfl, HB.out⟩
    by_cases c8 : a4 > 16383
    ·
     have Hbd := Aside0.mk (show BadIns fv a1 a2 a3 a4 from .inr (.inr (.inr (.inr (by rw [HH.out]; exact c8)))))
     go_wp2
     go_ret2
     exact ⟨by obtain ⟨rfl, rfl⟩ := Hbad.out Hbd.out; rfl, HB.out⟩
    have Hgd := Aside0.mk (show ¬ BadIns fv a1 a2 a3 a4 from fun h => by rcases h with h | h | h | h | h <;> first | exact H1.out h | exact H2.out h | exact H3.out h | (rw [HL.out] at h; omega) | (rw [HH.out] at h; omega))
    have c7' : 0 ≤ a4 := by omega
    have c8' : a4 ≤ 16383 := by omega
    clear c7 c8
    go_wp2
    go_ret2
    obtain ⟨rfl, rfl⟩ := Hgood.out Hgd.out
    exact ⟨by unfold encW; first | rfl | (rw [show a4 % 4294967296 = a4 by omega]; rfl), HB.out⟩

instance (f r m : Int) : Decidable (badReg f r m) := by unfold badReg; infer_instance
instance (f a1 a2 a3 a4 : Int) : Decidable (BadIns f a1 a2 a3 a4) := by unfold BadIns; infer_instance
def isa_Encode.f (a0 a1 a2 a3 a4 : Int) : Option (Int × Int) :=
 if a0 < 0 then (some (0, 10)) else (if a0 ≥ 22 then (some (0, 10)) else (if BadIns (hasT a0) a1 a2 a3 a4 then (some (0, 11)) else (some (encW a0 a1 a2 a3 a4, 0))))
set_option maxHeartbeats 1000000 in
set_option maxRecDepth 100000 in
theorem isa_Encode.calls_out (a0 a1 a2 a3 a4 : Int) (w : World) (h : a0 < 0 ∨ 22 ≤ a0) :
  Calls Tryz.prog 120 #[.agg #[.int .i8 a0, .int .i8 a1, .int .i8 a2, .int .i8 a3, .int .i64 a4]] w fun e w' => e = .returned (.tuple #[.int .u32 0, .int .i64 10]) ∧ Below w.heap.size w w' := by
 rcases h with h | h
 ·
  go_enter Tryz.func120, Tryz.ntmps120
  go_wp2
  go_ret2
  exact ⟨rfl, (Below.refl _ _).alloc (Nat.le_refl _) _⟩
 ·
  have h2 : ¬ a0 < 0 := by omega
  go_enter Tryz.func120, Tryz.ntmps120
  go_wp2
  go_ret2
  exact ⟨rfl, (Below.refl _ _).alloc (Nat.le_refl _) _⟩
theorem isa_Encode.calls (a0 a1 a2 a3 a4 : Int) (r1 r2 : Int) (w : World) (h : isa_Encode.f a0 a1 a2 a3 a4 = some (r1, r2)) :
  Calls Tryz.prog 120 #[.agg #[.int .i8 a0, .int .i8 a1, .int .i8 a2, .int .i8 a3, .int .i64 a4]] w fun e w' => e = .returned (.tuple #[.int .u32 r1, .int .i64 r2]) ∧ Below w.heap.size w w' := by
 unfold isa_Encode.f at h
 by_cases c1 : a0 < 0
 ·
  rw [if_pos c1] at h
  injection h with h
  injection h with h1 h2
  subst h1 h2
  exact isa_Encode.calls_out a0 a1 a2 a3 a4 w (.inl c1)
 rw [if_neg c1] at h
 by_cases c2 : a0 ≥ 22
 ·
  rw [if_pos c2] at h
  injection h with h
  injection h with h1 h2
  subst h1 h2
  exact isa_Encode.calls_out a0 a1 a2 a3 a4 w (.inr c2)
 rw [if_neg c2] at h
 refine isa_Encode.calls_in a0 a1 a2 a3 a4 (hasT a0) r1 r2 w (by omega) (by omega) ⟨by unfold isa_has.f; rw [if_neg c1, if_neg c2]⟩ ⟨fun hb => ?_⟩ ⟨fun hb => ?_⟩
 ·
  rw [if_pos hb] at h
  injection h with h
  injection h with h1 h2
  exact ⟨h1.symm, h2.symm⟩
 ·
  rw [if_neg hb] at h
  injection h with h
  injection h with h1 h2
  exact ⟨h1.symm, h2.symm⟩

end Go.Proofs.YtiaohbbafaaibabGreatDoor.P

/- What the Go functions named below come to, as plain functions, each with its proof; written by this session's prt.py over the kit's print. -/
namespace Go.Proofs.YtiaohbbafaaibabGreatDoor.P
open Go.RowKit Go.Proofs.YtiaohbbafaaibabGreatDoorW.PrintWords Go.Proofs.YtiaohbbafaaibabGreatDoorW.PrintLast Go.Proofs.YtiaohbbafaaibabGreatDoorW.PrintMore
attribute [local go_sem] max2_int min2_int max_two min_two max_three min_three max_four min_four   -- for this text's walks alone
set_option linter.unusedVariables false
set_option linter.unusedSimpArgs false
def isa_Decode.j0 : Nat → Int → Bool → Int → Int → Int → Int → Int → Option (Int × Int × Int × Int × Int)
 | 0, _, _, _, _, _, _, _ => none
 | k + 1, x0, x41, x108000, x108001, x108002, x108003, x108004 => if x41 = true then ((isa_Encode.f x108000 x108001 x108002 x108003 (wrap64 (x108004 - 32768))).bind fun bt109 => (if bt109.2 = 0 then (if bt109.1 = x0 then (some (x108000, x108001, x108002, x108003, wrap64 (x108004 - 32768))) else (some ((-1), 0, 0, 0, wrap64 (x0)))) else (some ((-1), 0, 0, 0, wrap64 (x0))))) else ((isa_Encode.f x108000 x108001 x108002 x108003 x108004).bind fun bt111 => (if bt111.2 = 0 then (if bt111.1 = x0 then (some (x108000, x108001, x108002, x108003, x108004)) else (some ((-1), 0, 0, 0, wrap64 (x0)))) else (some ((-1), 0, 0, 0, wrap64 (x0)))))
def isa_Decode.f (k : Nat) (a0 : Int) : Option (Int × Int × Int × Int × Int) := (isa_has.f (IntKind.i8.wrap (a0 / 134217728))).bind fun t108 => (if (Go.bits .and .i64 t108 8) = 0 then (isa_Decode.j0 k a0 false (IntKind.i8.wrap (a0 / 134217728)) (IntKind.i8.wrap (Go.bits .and .u32 (a0 / 8388608) 15)) (IntKind.i8.wrap (Go.bits .and .u32 (a0 / 524288) 15)) (IntKind.i8.wrap (Go.bits .and .u32 (a0 / 32768) 15)) (wrap64 (Go.bits .and .u32 a0 32767))) else (if (Go.bits .and .i64 t108 16) = 0 then (isa_Decode.j0 k a0 (decide ((wrap64 (Go.bits .and .u32 a0 32767)) ≥ 16384)) (IntKind.i8.wrap (a0 / 134217728)) (IntKind.i8.wrap (Go.bits .and .u32 (a0 / 8388608) 15)) (IntKind.i8.wrap (Go.bits .and .u32 (a0 / 524288) 15)) (IntKind.i8.wrap (Go.bits .and .u32 (a0 / 32768) 15)) (wrap64 (Go.bits .and .u32 a0 32767))) else (isa_Decode.j0 k a0 false (IntKind.i8.wrap (a0 / 134217728)) (IntKind.i8.wrap (Go.bits .and .u32 (a0 / 8388608) 15)) (IntKind.i8.wrap (Go.bits .and .u32 (a0 / 524288) 15)) (IntKind.i8.wrap (Go.bits .and .u32 (a0 / 32768) 15)) (wrap64 (Go.bits .and .u32 a0 32767)))))
theorem isa_Decode.mono_l : ∀ k, (∀ y0 y1 y2 y3 y4 y5 y6, LeO (isa_Decode.j0 k y0 y1 y2 y3 y4 y5 y6) (isa_Decode.j0 (k + 1) y0 y1 y2 y3 y4 y5 y6))
 | 0 => fun _ _ _ _ _ _ _ r h => by simp [isa_Decode.j0] at h
 | k + 1 => by
  have ih0 := isa_Decode.mono_l k
  ·
   intro y0 y1 y2 y3 y4 y5 y6
   unfold isa_Decode.j0
   repeat' first
   | (with_reducible first | exact ih0 _ _ _ _ _ _ _ | exact LeO.refl _ | exact LeO.none _ | refine LeO.ite ?_ ?_ | refine LeO.bind ?_ (fun _ => ?_))
theorem isa_Decode.mono : ∀ a0 k, LeO (isa_Decode.f k a0) (isa_Decode.f (k + 1) a0) := by
 intro a0 k
 have ih0 := isa_Decode.mono_l k
 unfold isa_Decode.f
 repeat' first
   | (with_reducible first | exact ih0 _ _ _ _ _ _ _ | exact LeO.refl _ | exact LeO.none _ | refine LeO.ite ?_ ?_ | refine LeO.bind ?_ (fun _ => ?_))
set_option maxHeartbeats 8000000 in
set_option maxRecDepth 100000 in
theorem isa_Decode.calls (k : Nat) (a0 : Int) (r1 : Int) (r2 : Int) (r3 : Int) (r4 : Int) (r5 : Int) (w : World) (h : isa_Decode.f k a0 = some (r1, r2, r3, r4, r5)) :
  Calls Tryz.prog 115 #[.int .u32 a0] w fun e w' => e = .returned (.agg #[.int .i8 r1, .int .i8 r2, .int .i8 r3, .int .i8 r4, .int .i64 r5]) ∧ Below w.heap.size w w' := by
 have hu140 := Tryz.underlying140
 have HB := Aside0.mk (Below.refl w.heap.size w)
 have H : ((isa_has.f (IntKind.i8.wrap (a0 / 134217728))).bind fun t108 => (if (Go.bits .and .i64 t108 8) = 0 then (isa_Decode.j0 k a0 false (IntKind.i8.wrap (a0 / 134217728)) (IntKind.i8.wrap (Go.bits .and .u32 (a0 / 8388608) 15)) (IntKind.i8.wrap (Go.bits .and .u32 (a0 / 524288) 15)) (IntKind.i8.wrap (Go.bits .and .u32 (a0 / 32768) 15)) (wrap64 (Go.bits .and .u32 a0 32767))) else (if (Go.bits .and .i64 t108 16) = 0 then (isa_Decode.j0 k a0 (decide ((wrap64 (Go.bits .and .u32 a0 32767)) ≥ 16384)) (IntKind.i8.wrap (a0 / 134217728)) (IntKind.i8.wrap (Go.bits .and .u32 (a0 / 8388608) 15)) (IntKind.i8.wrap (Go.bits .and .u32 (a0 / 524288) 15)) (IntKind.i8.wrap (Go.bits .and .u32 (a0 / 32768) 15)) (wrap64 (Go.bits .and .u32 a0 32767))) else (isa_Decode.j0 k a0 false (IntKind.i8.wrap (a0 / 134217728)) (IntKind.i8.wrap (Go.bits .and .u32 (a0 / 8388608) 15)) (IntKind.i8.wrap (Go.bits .and .u32 (a0 / 524288) 15)) (IntKind.i8.wrap (Go.bits .and .u32 (a0 / 32768) 15)) (wrap64 (Go.bits .and .u32 a0 32767)))))) = some (r1, r2, r3, r4, r5) := h
 clear h
 replace H := Option.bind_eq_some_iff.mp H
 obtain ⟨t108, A20, H⟩ := H
 try dsimp only at H
 have A2 := Aside0.mk A20
 clear A20
 have HC3 := Aside0.mk H
 clear H
 go_enter Tryz.func115, Tryz.ntmps115
 go_upto_region 3 with (first | ((with_reducible refine gate_dst (N := 2) rfl ?_); refine box_event ?hg (N := 2) ?hd (cs := #[.int .i8 0, .int .i8 0, .int .i8 0, .int .i8 0, .int .i64 0]) (t := 140) ?hr ?_; (case hd => rfl); (case hg => rfl); (case hr => go_simp; try rfl); intro gb106 hg w4 hbox hb; have BK106 := Aside0.mk (hbox); have GW106 := Aside0.mk (gwQ hg HB.out); have GE106 := Aside0.mk (gwQ hg HB.out); replace HB := Aside0.mk (bsQ hb HB.out); clear hb hbox hg) | ((with_reducible refine gate_dst (N := 3) rfl ?_); refine box_event ?hg (N := 3) ?hd (cs := #[.int .i8 0, .int .i8 0, .int .i8 0, .int .i8 0, .int .i64 0]) (t := 140) ?hr ?_; (case hd => rfl); (case hg => rfl); (case hr => go_simp; try rfl); intro gb107 hg w5 hbox hb; have n0_ := Aside0.mk (bbQ hb BK106.out); have n1_ := Aside0.mk (bs1Q hb (by repeat with_reducible first | exact HB.out | apply pw_below_drewN | apply below_drew1 | refine below_set ?_ GE106.out)); have n2_ := Aside0.mk (hbox); have n3_ := Aside0.mk (gw1Q hg (by repeat with_reducible first | exact HB.out | apply pw_below_drewN | apply below_drew1 | refine below_set ?_ GE106.out)); have n4_ := Aside0.mk (gw1Q hg (by repeat with_reducible first | exact HB.out | apply pw_below_drewN | apply below_drew1 | refine below_set ?_ GE106.out)); have n5_ := Aside0.mk ((by rw [hg]; exact Nat.ne_of_lt (blk_lt (g := gb106) (o := .cells #[.int .i8 0, .int .i8 0, .int .i8 0, .int .i8 0, .int .i64 0] 140 (0, 0)) (by exact BK106.out)) : gb106 ≠ gb107)); have n6_ := Aside0.mk ((by rw [hg]; exact Nat.ne_of_gt (blk_lt (g := gb106) (o := .cells #[.int .i8 0, .int .i8 0, .int .i8 0, .int .i8 0, .int .i64 0] 140 (0, 0)) (by exact BK106.out)) : gb107 ≠ gb106)); clear BK106; clear HB; have BK106 := n0_; have HB := n1_; have BK107 := n2_; have GW107 := n3_; have GE107 := n4_; have NB106_107 := n5_; have NB107_106 := n6_; clear n0_ n1_ n2_ n3_ n4_ n5_ n6_; clear hb hbox hg; have hnb6 := NB107_106.out; have hnc6 := NB106_107.out; obtain ⟨hcz7_0, hcz7_1, hcz7_2, hcz7_3, hcz7_4⟩ := bcQ5 BK107.out; obtain ⟨hfz7_0, hfz7_1, hfz7_2, hfz7_3, hfz7_4⟩ := fzQ5 BK107.out) | ((with_reducible refine gate_callee (f := 116) rfl ?_); refine goesL_ (some 28) rfl rfl Tryz.func116 (by kernel_rfl) rfl #[.int .i8 (IntKind.i8.wrap (a0 / 134217728))] rfl (by (try simp only [List.map_toArray, List.map_cons, List.map_nil]); try rfl) ?_; (with_reducible refine (isa_has.calls (IntKind.i8.wrap (a0 / 134217728)) t108 _ A2.out).mono ?_); rintro e w8 ⟨rfl, hb⟩; refine ⟨_, rfl, ?_⟩; have n0_ := Aside0.mk (blk_below (g := gb106) (o := .cells #[.int .i8 0, .int .i8 0, .int .i8 0, .int .i8 0, .int .i64 0] 140 (0, 0)) (by refine blk_far ?_ NB106_107.out _; refine blk_far ?_ NB106_107.out _; refine blk_far ?_ NB106_107.out _; refine blk_far ?_ NB106_107.out _; refine blk_far ?_ NB106_107.out _; exact BK106.out) hb); have n1_ := Aside0.mk (blk_below (g := gb107) (o := .cells #[.int .i8 (IntKind.i8.wrap (a0 / 134217728)), .int .i8 (IntKind.i8.wrap (Go.bits .and .u32 (a0 / 8388608) 15)), .int .i8 (IntKind.i8.wrap (Go.bits .and .u32 (a0 / 524288) 15)), .int .i8 (IntKind.i8.wrap (Go.bits .and .u32 (a0 / 32768) 15)), .int .i64 (wrap64 (Go.bits .and .u32 a0 32767))] 140 (0, 0)) (by refine blk_put (cs := #[.int .i8 (IntKind.i8.wrap (a0 / 134217728)), .int .i8 (IntKind.i8.wrap (Go.bits .and .u32 (a0 / 8388608) 15)), .int .i8 (IntKind.i8.wrap (Go.bits .and .u32 (a0 / 524288) 15)), .int .i8 (IntKind.i8.wrap (Go.bits .and .u32 (a0 / 32768) 15)), .int .i64 0]) ?_ 4 _ rfl; refine blk_put (cs := #[.int .i8 (IntKind.i8.wrap (a0 / 134217728)), .int .i8 (IntKind.i8.wrap (Go.bits .and .u32 (a0 / 8388608) 15)), .int .i8 (IntKind.i8.wrap (Go.bits .and .u32 (a0 / 524288) 15)), .int .i8 0, .int .i64 0]) ?_ 3 _ rfl; refine blk_put (cs := #[.int .i8 (IntKind.i8.wrap (a0 / 134217728)), .int .i8 (IntKind.i8.wrap (Go.bits .and .u32 (a0 / 8388608) 15)), .int .i8 0, .int .i8 0, .int .i64 0]) ?_ 2 _ rfl; refine blk_put (cs := #[.int .i8 (IntKind.i8.wrap (a0 / 134217728)), .int .i8 0, .int .i8 0, .int .i8 0, .int .i64 0]) ?_ 1 _ rfl; refine blk_put (cs := #[.int .i8 0, .int .i8 0, .int .i8 0, .int .i8 0, .int .i64 0]) ?_ 0 _ rfl; exact BK107.out) hb); have n2_ := Aside0.mk (bs1Q hb (by repeat with_reducible first | exact HB.out | apply pw_below_drewN | apply below_drew1 | refine below_set ?_ GE106.out | refine below_set ?_ GE107.out)); clear BK106; clear BK107; clear HB; have BK106 := n0_; have BK107 := n1_; have HB := n2_; clear n0_ n1_ n2_; (try clear hb); (try clear hb2); (try clear hk); (try clear hi)))
 (try simp only [Act.put, List.setIfInBounds_toArray, List.set_cons_zero, List.set_cons_succ])
 go_cut [41] (fun v41 wc => ∃ (kq : Nat) (x41_2 : Bool), v41 = .bool x41_2 ∧ Aside0 (isa_Decode.j0 kq a0 x41_2 (IntKind.i8.wrap (a0 / 134217728)) (IntKind.i8.wrap (Go.bits .and .u32 (a0 / 8388608) 15)) (IntKind.i8.wrap (Go.bits .and .u32 (a0 / 524288) 15)) (IntKind.i8.wrap (Go.bits .and .u32 (a0 / 32768) 15)) (wrap64 (Go.bits .and .u32 a0 32767)) = some (r1, r2, r3, r4, r5)) ∧ Aside0 (kq ≤ k) ∧ Aside0 (wc.heap[gb106]? = some (.cells #[.int .i8 0, .int .i8 0, .int .i8 0, .int .i8 0, .int .i64 0] 140 (0, 0))) ∧ Aside0 (wc.heap[gb107]? = some (.cells #[.int .i8 (IntKind.i8.wrap (a0 / 134217728)), .int .i8 (IntKind.i8.wrap (Go.bits .and .u32 (a0 / 8388608) 15)), .int .i8 (IntKind.i8.wrap (Go.bits .and .u32 (a0 / 524288) 15)), .int .i8 (IntKind.i8.wrap (Go.bits .and .u32 (a0 / 32768) 15)), .int .i64 (wrap64 (Go.bits .and .u32 a0 32767))] 140 (0, 0))) ∧ Aside0 (Below w.heap.size w wc))
 case first =>
  have H := HC3.out
  clear HC3
  by_cases c9 : (Go.bits .and .i64 t108 8) = 0
  ·
   rw [if_pos c9] at H
   have c9b0 : ((Go.bits .and .i64 t108 8) == 0) = true := beq_iff_eq.mpr c9
   have c9b1 : ((Go.bits .and .i64 t108 8) != 0) = false := bne_eq_false_iff_eq.mpr c9
   clear c9
   (first | rw [c9b0] | (simp only [i64_w, i32_w]; rw [c9b0]) | skip)
   have H' := Aside0.mk H
   clear H
   go_wp2
   go_meet
   case rel => exact ⟨_, (false), (by first | rfl | (simp; done) | (simp [*]; done)), H', ⟨by first | omega | exact Nat.le_refl _⟩, ⟨by exact BK106.out⟩, ⟨by exact BK107.out⟩, ⟨by repeat with_reducible first | exact HB.out | apply pw_below_drewN | apply below_drew1 | refine below_set ?_ GE106.out | refine below_set ?_ GE107.out⟩⟩
  ·
   rw [if_neg c9] at H
   have c9b0 : ((Go.bits .and .i64 t108 8) == 0) = false := beq_eq_false_iff_ne.mpr c9
   have c9b1 : ((Go.bits .and .i64 t108 8) != 0) = true := bne_iff_ne.mpr c9
   (first | rw [c9b0] | (simp only [i64_w, i32_w]; rw [c9b0]) | skip)
   by_cases c10 : (Go.bits .and .i64 t108 16) = 0
   ·
    rw [if_pos c10] at H
    have c10b0 : ((Go.bits .and .i64 t108 16) == 0) = true := beq_iff_eq.mpr c10
    have c10b1 : ((Go.bits .and .i64 t108 16) != 0) = false := bne_eq_false_iff_eq.mpr c10
    clear c10
    have H' := Aside0.mk H
    clear H
    have hnb11 := NB107_106.out
    have hnc11 := NB106_107.out
    obtain ⟨hcz12_0, hcz12_1, hcz12_2, hcz12_3, hcz12_4⟩ := bcQ5 BK107.out
    obtain ⟨hfz12_0, hfz12_1, hfz12_2, hfz12_3, hfz12_4⟩ := fzQ5 BK107.out
    go_wp2
    go_meet
    case rel => exact ⟨_, (decide ((wrap64 (Go.bits .and .u32 a0 32767)) ≥ 16384)), (by first | rfl | (simp; done) | (simp [*]; done)), H', ⟨by first | omega | exact Nat.le_refl _⟩, ⟨by exact BK106.out⟩, ⟨by exact BK107.out⟩, ⟨by repeat with_reducible first | exact HB.out | apply pw_below_drewN | apply below_drew1 | refine below_set ?_ GE106.out | refine below_set ?_ GE107.out⟩⟩
   ·
    rw [if_neg c10] at H
    have c10b0 : ((Go.bits .and .i64 t108 16) == 0) = false := beq_eq_false_iff_ne.mpr c10
    have c10b1 : ((Go.bits .and .i64 t108 16) != 0) = true := bne_iff_ne.mpr c10
    have H' := Aside0.mk H
    clear H
    go_wp2
    go_meet
    case rel => exact ⟨_, (false), (by first | rfl | (simp; done) | (simp [*]; done)), H', ⟨by first | omega | exact Nat.le_refl _⟩, ⟨by exact BK106.out⟩, ⟨by exact BK107.out⟩, ⟨by repeat with_reducible first | exact HB.out | apply pw_below_drewN | apply below_drew1 | refine below_set ?_ GE106.out | refine below_set ?_ GE107.out⟩⟩
 case rest =>
  clear HC3
  try clear c1
  try clear p2
  try clear c6
  try clear p6
  try clear c9
  try clear c9b0
  try clear c9b1
  try clear c10
  try clear c10b0
  try clear c10b1
  try clear c11
  try clear hcz12_0 hcz12_1 hcz12_2 hcz12_3 hcz12_4
  try clear hcz7_0 hcz7_1 hcz7_2 hcz7_3 hcz7_4
  try clear hfz12_0 hfz12_1 hfz12_2 hfz12_3 hfz12_4
  try clear hfz7_0 hfz7_1 hfz7_2 hfz7_3 hfz7_4
  obtain ⟨kq, x41_2, rfl, HA, HJ2, BK106, BK107, HB⟩ := hcut
  cases kq with
  | zero => exact absurd HA.out (by simp [isa_Decode.j0])
  | succ kj2 =>
   have H := HA.out
   clear HA
   simp only [isa_Decode.j0] at H
   by_cases c13 : x41_2 = true
   ·
    subst c13
    rw [if_pos rfl] at H
    replace H := Option.bind_eq_some_iff.mp H
    obtain ⟨⟨t109, t110⟩, A140, H⟩ := H
    try dsimp only at H
    have A14 := Aside0.mk A140
    clear A140
    by_cases c15 : t110 = 0
    ·
     rw [if_pos c15] at H
     have c15b0 : (t110 == 0) = true := beq_iff_eq.mpr c15
     have c15b1 : (t110 != 0) = false := bne_eq_false_iff_eq.mpr c15
     clear c15
     by_cases c16 : t109 = a0
     ·
      rw [if_pos c16] at H
      have c16b0 : (t109 == a0) = true := beq_iff_eq.mpr c16
      have c16b1 : (t109 != a0) = false := bne_eq_false_iff_eq.mpr c16
      clear c16
      simp only [Option.some.injEq, Prod.mk.injEq] at H
      obtain ⟨rfl, rfl, rfl, rfl, rfl⟩ := H
      have hnb17 := NB107_106.out
      have hnc17 := NB106_107.out
      obtain ⟨hcz18_0, hcz18_1, hcz18_2, hcz18_3, hcz18_4⟩ := bcQ5 BK107.out
      obtain ⟨hfz18_0, hfz18_1, hfz18_2, hfz18_3, hfz18_4⟩ := fzQ5 BK107.out
      go_wp2_with (first | ((with_reducible refine gate_callee (f := 120) rfl ?_); refine goesL_ (some 48) rfl rfl Tryz.func120 (by kernel_rfl) rfl #[.agg #[.int .i8 (IntKind.i8.wrap (a0 / 134217728)), .int .i8 (IntKind.i8.wrap (Go.bits .and .u32 (a0 / 8388608) 15)), .int .i8 (IntKind.i8.wrap (Go.bits .and .u32 (a0 / 524288) 15)), .int .i8 (IntKind.i8.wrap (Go.bits .and .u32 (a0 / 32768) 15)), .int .i64 (wrap64 ((wrap64 (Go.bits .and .u32 a0 32767)) - 32768))]] rfl (by (try simp only [List.map_toArray, List.map_cons, List.map_nil]); try rfl) ?_; (with_reducible refine (isa_Encode.calls (IntKind.i8.wrap (a0 / 134217728)) (IntKind.i8.wrap (Go.bits .and .u32 (a0 / 8388608) 15)) (IntKind.i8.wrap (Go.bits .and .u32 (a0 / 524288) 15)) (IntKind.i8.wrap (Go.bits .and .u32 (a0 / 32768) 15)) (wrap64 ((wrap64 (Go.bits .and .u32 a0 32767)) - 32768)) t109 t110 _ A14.out).mono ?_); rintro e w19 ⟨rfl, hb⟩; refine ⟨_, rfl, ?_⟩; have n0_ := Aside0.mk (blk_below (g := gb106) (o := .cells #[.int .i8 0, .int .i8 0, .int .i8 0, .int .i8 0, .int .i64 0] 140 (0, 0)) (by refine blk_far ?_ NB106_107.out _; exact BK106.out) hb); have n1_ := Aside0.mk (blk_below (g := gb107) (o := .cells #[.int .i8 (IntKind.i8.wrap (a0 / 134217728)), .int .i8 (IntKind.i8.wrap (Go.bits .and .u32 (a0 / 8388608) 15)), .int .i8 (IntKind.i8.wrap (Go.bits .and .u32 (a0 / 524288) 15)), .int .i8 (IntKind.i8.wrap (Go.bits .and .u32 (a0 / 32768) 15)), .int .i64 (wrap64 ((wrap64 (Go.bits .and .u32 a0 32767)) - 32768))] 140 (0, 0)) (by refine blk_put (cs := #[.int .i8 (IntKind.i8.wrap (a0 / 134217728)), .int .i8 (IntKind.i8.wrap (Go.bits .and .u32 (a0 / 8388608) 15)), .int .i8 (IntKind.i8.wrap (Go.bits .and .u32 (a0 / 524288) 15)), .int .i8 (IntKind.i8.wrap (Go.bits .and .u32 (a0 / 32768) 15)), .int .i64 (wrap64 (Go.bits .and .u32 a0 32767))]) ?_ 4 _ rfl; exact BK107.out) hb); have n2_ := Aside0.mk (bs1Q hb (by repeat with_reducible first | exact HB.out | apply pw_below_drewN | apply below_drew1 | refine below_set ?_ GE106.out | refine below_set ?_ GE107.out)); clear BK106; clear BK107; clear HB; have BK106 := n0_; have BK107 := n1_; have HB := n2_; clear n0_ n1_ n2_; (try clear hb); (try clear hb2); (try clear hk); (try clear hi); obtain ⟨hcz20_0, hcz20_1, hcz20_2, hcz20_3, hcz20_4⟩ := bcQ5 BK107.out; obtain ⟨hfz20_0, hfz20_1, hfz20_2, hfz20_3, hfz20_4⟩ := fzQ5 BK107.out; obtain ⟨hcz21_0, hcz21_1, hcz21_2, hcz21_3, hcz21_4⟩ := bcQ5 BK106.out; obtain ⟨hfz21_0, hfz21_1, hfz21_2, hfz21_3, hfz21_4⟩ := fzQ5 BK106.out))
      refine bodyPost_ret (results_cell_row rfl _ _ gb106 140 #[.int .i8 (IntKind.i8.wrap (a0 / 134217728)), .int .i8 (IntKind.i8.wrap (Go.bits .and .u32 (a0 / 8388608) 15)), .int .i8 (IntKind.i8.wrap (Go.bits .and .u32 (a0 / 524288) 15)), .int .i8 (IntKind.i8.wrap (Go.bits .and .u32 (a0 / 32768) 15)), .int .i64 (wrap64 ((wrap64 (Go.bits .and .u32 a0 32767)) - 32768))] (0, 0) _ rfl (by refine blk_put (cs := #[.int .i8 (IntKind.i8.wrap (a0 / 134217728)), .int .i8 (IntKind.i8.wrap (Go.bits .and .u32 (a0 / 8388608) 15)), .int .i8 (IntKind.i8.wrap (Go.bits .and .u32 (a0 / 524288) 15)), .int .i8 (IntKind.i8.wrap (Go.bits .and .u32 (a0 / 32768) 15)), .int .i64 0]) ?_ 4 _ rfl; refine blk_put (cs := #[.int .i8 (IntKind.i8.wrap (a0 / 134217728)), .int .i8 (IntKind.i8.wrap (Go.bits .and .u32 (a0 / 8388608) 15)), .int .i8 (IntKind.i8.wrap (Go.bits .and .u32 (a0 / 524288) 15)), .int .i8 0, .int .i64 0]) ?_ 3 _ rfl; refine blk_put (cs := #[.int .i8 (IntKind.i8.wrap (a0 / 134217728)), .int .i8 (IntKind.i8.wrap (Go.bits .and .u32 (a0 / 8388608) 15)), .int .i8 0, .int .i8 0, .int .i64 0]) ?_ 2 _ rfl; refine blk_put (cs := #[.int .i8 (IntKind.i8.wrap (a0 / 134217728)), .int .i8 0, .int .i8 0, .int .i8 0, .int .i64 0]) ?_ 1 _ rfl; refine blk_put (cs := #[.int .i8 0, .int .i8 0, .int .i8 0, .int .i8 0, .int .i64 0]) ?_ 0 _ rfl; exact BK106.out) Tryz.underlying140 rfl (by kernel_rfl)) rfl ?_
      exact ⟨by first | rfl | (simp [errW_none, errW_some] <;> rfl) | (simp [*, errW_none, errW_some] <;> rfl), by repeat with_reducible first | exact HB.out | apply pw_below_drewN | apply below_drew1 | refine below_set ?_ GE106.out | refine below_set ?_ GE107.out⟩
     ·
      rw [if_neg c16] at H
      have c16b0 : (t109 == a0) = false := beq_eq_false_iff_ne.mpr c16
      have c16b1 : (t109 != a0) = true := bne_iff_ne.mpr c16
      simp only [Option.some.injEq, Prod.mk.injEq] at H
      obtain ⟨rfl, rfl, rfl, rfl, rfl⟩ := H
      have hnb22 := NB107_106.out
      have hnc22 := NB106_107.out
      obtain ⟨hcz23_0, hcz23_1, hcz23_2, hcz23_3, hcz23_4⟩ := bcQ5 BK107.out
      obtain ⟨hfz23_0, hfz23_1, hfz23_2, hfz23_3, hfz23_4⟩ := fzQ5 BK107.out
      go_wp2_with (first | ((with_reducible refine gate_callee (f := 120) rfl ?_); refine goesL_ (some 48) rfl rfl Tryz.func120 (by kernel_rfl) rfl #[.agg #[.int .i8 (IntKind.i8.wrap (a0 / 134217728)), .int .i8 (IntKind.i8.wrap (Go.bits .and .u32 (a0 / 8388608) 15)), .int .i8 (IntKind.i8.wrap (Go.bits .and .u32 (a0 / 524288) 15)), .int .i8 (IntKind.i8.wrap (Go.bits .and .u32 (a0 / 32768) 15)), .int .i64 (wrap64 ((wrap64 (Go.bits .and .u32 a0 32767)) - 32768))]] rfl (by (try simp only [List.map_toArray, List.map_cons, List.map_nil]); try rfl) ?_; (with_reducible refine (isa_Encode.calls (IntKind.i8.wrap (a0 / 134217728)) (IntKind.i8.wrap (Go.bits .and .u32 (a0 / 8388608) 15)) (IntKind.i8.wrap (Go.bits .and .u32 (a0 / 524288) 15)) (IntKind.i8.wrap (Go.bits .and .u32 (a0 / 32768) 15)) (wrap64 ((wrap64 (Go.bits .and .u32 a0 32767)) - 32768)) t109 t110 _ A14.out).mono ?_); rintro e w24 ⟨rfl, hb⟩; refine ⟨_, rfl, ?_⟩; have n0_ := Aside0.mk (blk_below (g := gb106) (o := .cells #[.int .i8 0, .int .i8 0, .int .i8 0, .int .i8 0, .int .i64 0] 140 (0, 0)) (by refine blk_far ?_ NB106_107.out _; exact BK106.out) hb); have n1_ := Aside0.mk (blk_below (g := gb107) (o := .cells #[.int .i8 (IntKind.i8.wrap (a0 / 134217728)), .int .i8 (IntKind.i8.wrap (Go.bits .and .u32 (a0 / 8388608) 15)), .int .i8 (IntKind.i8.wrap (Go.bits .and .u32 (a0 / 524288) 15)), .int .i8 (IntKind.i8.wrap (Go.bits .and .u32 (a0 / 32768) 15)), .int .i64 (wrap64 ((wrap64 (Go.bits .and .u32 a0 32767)) - 32768))] 140 (0, 0)) (by refine blk_put (cs := #[.int .i8 (IntKind.i8.wrap (a0 / 134217728)), .int .i8 (IntKind.i8.wrap (Go.bits .and .u32 (a0 / 8388608) 15)), .int .i8 (IntKind.i8.wrap (Go.bits .and .u32 (a0 / 524288) 15)), .int .i8 (IntKind.i8.wrap (Go.bits .and .u32 (a0 / 32768) 15)), .int .i64 (wrap64 (Go.bits .and .u32 a0 32767))]) ?_ 4 _ rfl; exact BK107.out) hb); have n2_ := Aside0.mk (bs1Q hb (by repeat with_reducible first | exact HB.out | apply pw_below_drewN | apply below_drew1 | refine below_set ?_ GE106.out | refine below_set ?_ GE107.out)); clear BK106; clear BK107; clear HB; have BK106 := n0_; have BK107 := n1_; have HB := n2_; clear n0_ n1_ n2_; (try clear hb); (try clear hb2); (try clear hk); (try clear hi); obtain ⟨hcz25_0, hcz25_1, hcz25_2, hcz25_3, hcz25_4⟩ := bcQ5 BK106.out; obtain ⟨hfz25_0, hfz25_1, hfz25_2, hfz25_3, hfz25_4⟩ := fzQ5 BK106.out))
      refine bodyPost_ret (results_cell_row rfl _ _ gb106 140 #[.int .i8 (-1), .int .i8 0, .int .i8 0, .int .i8 0, .int .i64 (wrap64 (a0))] (0, 0) _ rfl (by refine blk_put (cs := #[.int .i8 (-1), .int .i8 0, .int .i8 0, .int .i8 0, .int .i64 0]) ?_ 4 _ rfl; refine blk_put (cs := #[.int .i8 (-1), .int .i8 0, .int .i8 0, .int .i8 0, .int .i64 0]) ?_ 3 _ rfl; refine blk_put (cs := #[.int .i8 (-1), .int .i8 0, .int .i8 0, .int .i8 0, .int .i64 0]) ?_ 2 _ rfl; refine blk_put (cs := #[.int .i8 (-1), .int .i8 0, .int .i8 0, .int .i8 0, .int .i64 0]) ?_ 1 _ rfl; refine blk_put (cs := #[.int .i8 0, .int .i8 0, .int .i8 0, .int .i8 0, .int .i64 0]) ?_ 0 _ rfl; exact BK106.out) Tryz.underlying140 rfl (by kernel_rfl)) rfl ?_
      exact ⟨by first | rfl | (simp [errW_none, errW_some] <;> rfl) | (simp [*, errW_none, errW_some] <;> rfl), by repeat with_reducible first | exact HB.out | apply pw_below_drewN | apply below_drew1 | refine below_set ?_ GE106.out | refine below_set ?_ GE107.out⟩
    ·
     rw [if_neg c15] at H
     have c15b0 : (t110 == 0) = false := beq_eq_false_iff_ne.mpr c15
     have c15b1 : (t110 != 0) = true := bne_iff_ne.mpr c15
     simp only [Option.some.injEq, Prod.mk.injEq] at H
     obtain ⟨rfl, rfl, rfl, rfl, rfl⟩ := H
     have hnb26 := NB107_106.out
     have hnc26 := NB106_107.out
     obtain ⟨hcz27_0, hcz27_1, hcz27_2, hcz27_3, hcz27_4⟩ := bcQ5 BK107.out
     obtain ⟨hfz27_0, hfz27_1, hfz27_2, hfz27_3, hfz27_4⟩ := fzQ5 BK107.out
     go_wp2_with (first | ((with_reducible refine gate_callee (f := 120) rfl ?_); refine goesL_ (some 48) rfl rfl Tryz.func120 (by kernel_rfl) rfl #[.agg #[.int .i8 (IntKind.i8.wrap (a0 / 134217728)), .int .i8 (IntKind.i8.wrap (Go.bits .and .u32 (a0 / 8388608) 15)), .int .i8 (IntKind.i8.wrap (Go.bits .and .u32 (a0 / 524288) 15)), .int .i8 (IntKind.i8.wrap (Go.bits .and .u32 (a0 / 32768) 15)), .int .i64 (wrap64 ((wrap64 (Go.bits .and .u32 a0 32767)) - 32768))]] rfl (by (try simp only [List.map_toArray, List.map_cons, List.map_nil]); try rfl) ?_; (with_reducible refine (isa_Encode.calls (IntKind.i8.wrap (a0 / 134217728)) (IntKind.i8.wrap (Go.bits .and .u32 (a0 / 8388608) 15)) (IntKind.i8.wrap (Go.bits .and .u32 (a0 / 524288) 15)) (IntKind.i8.wrap (Go.bits .and .u32 (a0 / 32768) 15)) (wrap64 ((wrap64 (Go.bits .and .u32 a0 32767)) - 32768)) t109 t110 _ A14.out).mono ?_); rintro e w28 ⟨rfl, hb⟩; refine ⟨_, rfl, ?_⟩; have n0_ := Aside0.mk (blk_below (g := gb106) (o := .cells #[.int .i8 0, .int .i8 0, .int .i8 0, .int .i8 0, .int .i64 0] 140 (0, 0)) (by refine blk_far ?_ NB106_107.out _; exact BK106.out) hb); have n1_ := Aside0.mk (blk_below (g := gb107) (o := .cells #[.int .i8 (IntKind.i8.wrap (a0 / 134217728)), .int .i8 (IntKind.i8.wrap (Go.bits .and .u32 (a0 / 8388608) 15)), .int .i8 (IntKind.i8.wrap (Go.bits .and .u32 (a0 / 524288) 15)), .int .i8 (IntKind.i8.wrap (Go.bits .and .u32 (a0 / 32768) 15)), .int .i64 (wrap64 ((wrap64 (Go.bits .and .u32 a0 32767)) - 32768))] 140 (0, 0)) (by refine blk_put (cs := #[.int .i8 (IntKind.i8.wrap (a0 / 134217728)), .int .i8 (IntKind.i8.wrap (Go.bits .and .u32 (a0 / 8388608) 15)), .int .i8 (IntKind.i8.wrap (Go.bits .and .u32 (a0 / 524288) 15)), .int .i8 (IntKind.i8.wrap (Go.bits .and .u32 (a0 / 32768) 15)), .int .i64 (wrap64 (Go.bits .and .u32 a0 32767))]) ?_ 4 _ rfl; exact BK107.out) hb); have n2_ := Aside0.mk (bs1Q hb (by repeat with_reducible first | exact HB.out | apply pw_below_drewN | apply below_drew1 | refine below_set ?_ GE106.out | refine below_set ?_ GE107.out)); clear BK106; clear BK107; clear HB; have BK106 := n0_; have BK107 := n1_; have HB := n2_; clear n0_ n1_ n2_; (try clear hb); (try clear hb2); (try clear hk); (try clear hi); obtain ⟨hcz29_0, hcz29_1, hcz29_2, hcz29_3, hcz29_4⟩ := bcQ5 BK106.out; obtain ⟨hfz29_0, hfz29_1, hfz29_2, hfz29_3, hfz29_4⟩ := fzQ5 BK106.out))
     refine bodyPost_ret (results_cell_row rfl _ _ gb106 140 #[.int .i8 (-1), .int .i8 0, .int .i8 0, .int .i8 0, .int .i64 (wrap64 (a0))] (0, 0) _ rfl (by refine blk_put (cs := #[.int .i8 (-1), .int .i8 0, .int .i8 0, .int .i8 0, .int .i64 0]) ?_ 4 _ rfl; refine blk_put (cs := #[.int .i8 (-1), .int .i8 0, .int .i8 0, .int .i8 0, .int .i64 0]) ?_ 3 _ rfl; refine blk_put (cs := #[.int .i8 (-1), .int .i8 0, .int .i8 0, .int .i8 0, .int .i64 0]) ?_ 2 _ rfl; refine blk_put (cs := #[.int .i8 (-1), .int .i8 0, .int .i8 0, .int .i8 0, .int .i64 0]) ?_ 1 _ rfl; refine blk_put (cs := #[.int .i8 0, .int .i8 0, .int .i8 0, .int .i8 0, .int .i64 0]) ?_ 0 _ rfl; exact BK106.out) Tryz.underlying140 rfl (by kernel_rfl)) rfl ?_
     exact ⟨by first | rfl | (simp [errW_none, errW_some] <;> rfl) | (simp [*, errW_none, errW_some] <;> rfl), by repeat with_reducible first | exact HB.out | apply pw_below_drewN | apply below_drew1 | refine below_set ?_ GE106.out | refine below_set ?_ GE107.out⟩
   ·
    replace c13 := Bool.eq_false_iff.mpr c13
    subst c13
    rw [if_neg Bool.false_ne_true] at H
    replace H := Option.bind_eq_some_iff.mp H
    obtain ⟨⟨t111, t112⟩, A300, H⟩ := H
    try dsimp only at H
    have A30 := Aside0.mk A300
    clear A300
    by_cases c31 : t112 = 0
    ·
     rw [if_pos c31] at H
     have c31b0 : (t112 == 0) = true := beq_iff_eq.mpr c31
     have c31b1 : (t112 != 0) = false := bne_eq_false_iff_eq.mpr c31
     clear c31
     by_cases c32 : t111 = a0
     ·
      rw [if_pos c32] at H
      have c32b0 : (t111 == a0) = true := beq_iff_eq.mpr c32
      have c32b1 : (t111 != a0) = false := bne_eq_false_iff_eq.mpr c32
      clear c32
      simp only [Option.some.injEq, Prod.mk.injEq] at H
      obtain ⟨rfl, rfl, rfl, rfl, rfl⟩ := H
      have hnb33 := NB107_106.out
      have hnc33 := NB106_107.out
      obtain ⟨hcz34_0, hcz34_1, hcz34_2, hcz34_3, hcz34_4⟩ := bcQ5 BK107.out
      obtain ⟨hfz34_0, hfz34_1, hfz34_2, hfz34_3, hfz34_4⟩ := fzQ5 BK107.out
      go_wp2_with (first | ((with_reducible refine gate_callee (f := 120) rfl ?_); refine goesL_ (some 48) rfl rfl Tryz.func120 (by kernel_rfl) rfl #[.agg #[.int .i8 (IntKind.i8.wrap (a0 / 134217728)), .int .i8 (IntKind.i8.wrap (Go.bits .and .u32 (a0 / 8388608) 15)), .int .i8 (IntKind.i8.wrap (Go.bits .and .u32 (a0 / 524288) 15)), .int .i8 (IntKind.i8.wrap (Go.bits .and .u32 (a0 / 32768) 15)), .int .i64 (wrap64 (Go.bits .and .u32 a0 32767))]] rfl (by (try simp only [List.map_toArray, List.map_cons, List.map_nil]); try rfl) ?_; (with_reducible refine (isa_Encode.calls (IntKind.i8.wrap (a0 / 134217728)) (IntKind.i8.wrap (Go.bits .and .u32 (a0 / 8388608) 15)) (IntKind.i8.wrap (Go.bits .and .u32 (a0 / 524288) 15)) (IntKind.i8.wrap (Go.bits .and .u32 (a0 / 32768) 15)) (wrap64 (Go.bits .and .u32 a0 32767)) t111 t112 _ A30.out).mono ?_); rintro e w35 ⟨rfl, hb⟩; refine ⟨_, rfl, ?_⟩; replace BK106 := Aside0.mk (bbQ hb BK106.out); replace BK107 := Aside0.mk (bbQ hb BK107.out); replace HB := Aside0.mk (bs1Q hb (by repeat with_reducible first | exact HB.out | apply pw_below_drewN | apply below_drew1 | refine below_set ?_ GE106.out | refine below_set ?_ GE107.out)); (try clear hb); (try clear hb2); (try clear hk); (try clear hi); obtain ⟨hcz36_0, hcz36_1, hcz36_2, hcz36_3, hcz36_4⟩ := bcQ5 BK107.out; obtain ⟨hfz36_0, hfz36_1, hfz36_2, hfz36_3, hfz36_4⟩ := fzQ5 BK107.out; obtain ⟨hcz37_0, hcz37_1, hcz37_2, hcz37_3, hcz37_4⟩ := bcQ5 BK106.out; obtain ⟨hfz37_0, hfz37_1, hfz37_2, hfz37_3, hfz37_4⟩ := fzQ5 BK106.out))
      refine bodyPost_ret (results_cell_row rfl _ _ gb106 140 #[.int .i8 (IntKind.i8.wrap (a0 / 134217728)), .int .i8 (IntKind.i8.wrap (Go.bits .and .u32 (a0 / 8388608) 15)), .int .i8 (IntKind.i8.wrap (Go.bits .and .u32 (a0 / 524288) 15)), .int .i8 (IntKind.i8.wrap (Go.bits .and .u32 (a0 / 32768) 15)), .int .i64 (wrap64 (Go.bits .and .u32 a0 32767))] (0, 0) _ rfl (by refine blk_put (cs := #[.int .i8 (IntKind.i8.wrap (a0 / 134217728)), .int .i8 (IntKind.i8.wrap (Go.bits .and .u32 (a0 / 8388608) 15)), .int .i8 (IntKind.i8.wrap (Go.bits .and .u32 (a0 / 524288) 15)), .int .i8 (IntKind.i8.wrap (Go.bits .and .u32 (a0 / 32768) 15)), .int .i64 0]) ?_ 4 _ rfl; refine blk_put (cs := #[.int .i8 (IntKind.i8.wrap (a0 / 134217728)), .int .i8 (IntKind.i8.wrap (Go.bits .and .u32 (a0 / 8388608) 15)), .int .i8 (IntKind.i8.wrap (Go.bits .and .u32 (a0 / 524288) 15)), .int .i8 0, .int .i64 0]) ?_ 3 _ rfl; refine blk_put (cs := #[.int .i8 (IntKind.i8.wrap (a0 / 134217728)), .int .i8 (IntKind.i8.wrap (Go.bits .and .u32 (a0 / 8388608) 15)), .int .i8 0, .int .i8 0, .int .i64 0]) ?_ 2 _ rfl; refine blk_put (cs := #[.int .i8 (IntKind.i8.wrap (a0 / 134217728)), .int .i8 0, .int .i8 0, .int .i8 0, .int .i64 0]) ?_ 1 _ rfl; refine blk_put (cs := #[.int .i8 0, .int .i8 0, .int .i8 0, .int .i8 0, .int .i64 0]) ?_ 0 _ rfl; exact BK106.out) Tryz.underlying140 rfl (by kernel_rfl)) rfl ?_
      exact ⟨by first | rfl | (simp [errW_none, errW_some] <;> rfl) | (simp [*, errW_none, errW_some] <;> rfl), by repeat with_reducible first | exact HB.out | apply pw_below_drewN | apply below_drew1 | refine below_set ?_ GE106.out | refine below_set ?_ GE107.out⟩
     ·
      rw [if_neg c32] at H
      have c32b0 : (t111 == a0) = false := beq_eq_false_iff_ne.mpr c32
      have c32b1 : (t111 != a0) = true := bne_iff_ne.mpr c32
      simp only [Option.some.injEq, Prod.mk.injEq] at H
      obtain ⟨rfl, rfl, rfl, rfl, rfl⟩ := H
      have hnb38 := NB107_106.out
      have hnc38 := NB106_107.out
      obtain ⟨hcz39_0, hcz39_1, hcz39_2, hcz39_3, hcz39_4⟩ := bcQ5 BK107.out
      obtain ⟨hfz39_0, hfz39_1, hfz39_2, hfz39_3, hfz39_4⟩ := fzQ5 BK107.out
      go_wp2_with (first | ((with_reducible refine gate_callee (f := 120) rfl ?_); refine goesL_ (some 48) rfl rfl Tryz.func120 (by kernel_rfl) rfl #[.agg #[.int .i8 (IntKind.i8.wrap (a0 / 134217728)), .int .i8 (IntKind.i8.wrap (Go.bits .and .u32 (a0 / 8388608) 15)), .int .i8 (IntKind.i8.wrap (Go.bits .and .u32 (a0 / 524288) 15)), .int .i8 (IntKind.i8.wrap (Go.bits .and .u32 (a0 / 32768) 15)), .int .i64 (wrap64 (Go.bits .and .u32 a0 32767))]] rfl (by (try simp only [List.map_toArray, List.map_cons, List.map_nil]); try rfl) ?_; (with_reducible refine (isa_Encode.calls (IntKind.i8.wrap (a0 / 134217728)) (IntKind.i8.wrap (Go.bits .and .u32 (a0 / 8388608) 15)) (IntKind.i8.wrap (Go.bits .and .u32 (a0 / 524288) 15)) (IntKind.i8.wrap (Go.bits .and .u32 (a0 / 32768) 15)) (wrap64 (Go.bits .and .u32 a0 32767)) t111 t112 _ A30.out).mono ?_); rintro e w40 ⟨rfl, hb⟩; refine ⟨_, rfl, ?_⟩; replace BK106 := Aside0.mk (bbQ hb BK106.out); replace BK107 := Aside0.mk (bbQ hb BK107.out); replace HB := Aside0.mk (bs1Q hb (by repeat with_reducible first | exact HB.out | apply pw_below_drewN | apply below_drew1 | refine below_set ?_ GE106.out | refine below_set ?_ GE107.out)); (try clear hb); (try clear hb2); (try clear hk); (try clear hi); obtain ⟨hcz41_0, hcz41_1, hcz41_2, hcz41_3, hcz41_4⟩ := bcQ5 BK106.out; obtain ⟨hfz41_0, hfz41_1, hfz41_2, hfz41_3, hfz41_4⟩ := fzQ5 BK106.out))
      refine bodyPost_ret (results_cell_row rfl _ _ gb106 140 #[.int .i8 (-1), .int .i8 0, .int .i8 0, .int .i8 0, .int .i64 (wrap64 (a0))] (0, 0) _ rfl (by refine blk_put (cs := #[.int .i8 (-1), .int .i8 0, .int .i8 0, .int .i8 0, .int .i64 0]) ?_ 4 _ rfl; refine blk_put (cs := #[.int .i8 (-1), .int .i8 0, .int .i8 0, .int .i8 0, .int .i64 0]) ?_ 3 _ rfl; refine blk_put (cs := #[.int .i8 (-1), .int .i8 0, .int .i8 0, .int .i8 0, .int .i64 0]) ?_ 2 _ rfl; refine blk_put (cs := #[.int .i8 (-1), .int .i8 0, .int .i8 0, .int .i8 0, .int .i64 0]) ?_ 1 _ rfl; refine blk_put (cs := #[.int .i8 0, .int .i8 0, .int .i8 0, .int .i8 0, .int .i64 0]) ?_ 0 _ rfl; exact BK106.out) Tryz.underlying140 rfl (by kernel_rfl)) rfl ?_
      exact ⟨by first | rfl | (simp [errW_none, errW_some] <;> rfl) | (simp [*, errW_none, errW_some] <;> rfl), by repeat with_reducible first | exact HB.out | apply pw_below_drewN | apply below_drew1 | refine below_set ?_ GE106.out | refine below_set ?_ GE107.out⟩
    ·
     rw [if_neg c31] at H
     have c31b0 : (t112 == 0) = false := beq_eq_false_iff_ne.mpr c31
     have c31b1 : (t112 != 0) = true := bne_iff_ne.mpr c31
     simp only [Option.some.injEq, Prod.mk.injEq] at H
     obtain ⟨rfl, rfl, rfl, rfl, rfl⟩ := H
     have hnb42 := NB107_106.out
     have hnc42 := NB106_107.out
     obtain ⟨hcz43_0, hcz43_1, hcz43_2, hcz43_3, hcz43_4⟩ := bcQ5 BK107.out
     obtain ⟨hfz43_0, hfz43_1, hfz43_2, hfz43_3, hfz43_4⟩ := fzQ5 BK107.out
     go_wp2_with (first | ((with_reducible refine gate_callee (f := 120) rfl ?_); refine goesL_ (some 48) rfl rfl Tryz.func120 (by kernel_rfl) rfl #[.agg #[.int .i8 (IntKind.i8.wrap (a0 / 134217728)), .int .i8 (IntKind.i8.wrap (Go.bits .and .u32 (a0 / 8388608) 15)), .int .i8 (IntKind.i8.wrap (Go.bits .and .u32 (a0 / 524288) 15)), .int .i8 (IntKind.i8.wrap (Go.bits .and .u32 (a0 / 32768) 15)), .int .i64 (wrap64 (Go.bits .and .u32 a0 32767))]] rfl (by (try simp only [List.map_toArray, List.map_cons, List.map_nil]); try rfl) ?_; (with_reducible refine (isa_Encode.calls (IntKind.i8.wrap (a0 / 134217728)) (IntKind.i8.wrap (Go.bits .and .u32 (a0 / 8388608) 15)) (IntKind.i8.wrap (Go.bits .and .u32 (a0 / 524288) 15)) (IntKind.i8.wrap (Go.bits .and .u32 (a0 / 32768) 15)) (wrap64 (Go.bits .and .u32 a0 32767)) t111 t112 _ A30.out).mono ?_); rintro e w44 ⟨rfl, hb⟩; refine ⟨_, rfl, ?_⟩; replace BK106 := Aside0.mk (bbQ hb BK106.out); replace BK107 := Aside0.mk (bbQ hb BK107.out); replace HB := Aside0.mk (bs1Q hb (by repeat with_reducible first | exact HB.out | apply pw_below_drewN | apply below_drew1 | refine below_set ?_ GE106.out | refine below_set ?_ GE107.out)); (try clear hb); (try clear hb2); (try clear hk); (try clear hi); obtain ⟨hcz45_0, hcz45_1, hcz45_2, hcz45_3, hcz45_4⟩ := bcQ5 BK106.out; obtain ⟨hfz45_0, hfz45_1, hfz45_2, hfz45_3, hfz45_4⟩ := fzQ5 BK106.out))
     refine bodyPost_ret (results_cell_row rfl _ _ gb106 140 #[.int .i8 (-1), .int .i8 0, .int .i8 0, .int .i8 0, .int .i64 (wrap64 (a0))] (0, 0) _ rfl (by refine blk_put (cs := #[.int .i8 (-1), .int .i8 0, .int .i8 0, .int .i8 0, .int .i64 0]) ?_ 4 _ rfl; refine blk_put (cs := #[.int .i8 (-1), .int .i8 0, .int .i8 0, .int .i8 0, .int .i64 0]) ?_ 3 _ rfl; refine blk_put (cs := #[.int .i8 (-1), .int .i8 0, .int .i8 0, .int .i8 0, .int .i64 0]) ?_ 2 _ rfl; refine blk_put (cs := #[.int .i8 (-1), .int .i8 0, .int .i8 0, .int .i8 0, .int .i64 0]) ?_ 1 _ rfl; refine blk_put (cs := #[.int .i8 0, .int .i8 0, .int .i8 0, .int .i8 0, .int .i64 0]) ?_ 0 _ rfl; exact BK106.out) Tryz.underlying140 rfl (by kernel_rfl)) rfl ?_
     exact ⟨by first | rfl | (simp [errW_none, errW_some] <;> rfl) | (simp [*, errW_none, errW_some] <;> rfl), by repeat with_reducible first | exact HB.out | apply pw_below_drewN | apply below_drew1 | refine below_set ?_ GE106.out | refine below_set ?_ GE107.out⟩


def isa_Target.f (k : Nat) (a0 : Int) : Option (Int × Bool) := (isa_Decode.f k a0).bind fun bt113 => ((isa_has.f bt113.1).bind fun t119 => (if (Go.bits .and .i64 t119 16) = 0 then (some (0, false)) else (some (bt113.2.2.2.2, true))))
theorem isa_Target.mono : ∀ a0 k, LeO (isa_Target.f k a0) (isa_Target.f (k + 1) a0) := by
 intro a0 k
 unfold isa_Target.f
 repeat' first
   | (with_reducible first | exact isa_Decode.mono _ _ | exact LeO.refl _ | exact LeO.none _ | refine LeO.ite ?_ ?_ | refine LeO.bind ?_ (fun _ => ?_))
set_option maxHeartbeats 8000000 in
set_option maxRecDepth 100000 in
theorem isa_Target.calls (k : Nat) (a0 : Int) (r1 : Int) (r2 : Bool) (w : World) (h : isa_Target.f k a0 = some (r1, r2)) :
  Calls Tryz.prog 104 #[.int .u32 a0] w fun e w' => e = .returned (.tuple #[.int .i64 r1, .bool r2]) ∧ Below w.heap.size w w' := by
 have hu140 := Tryz.underlying140
 have HB := Aside0.mk (Below.refl w.heap.size w)
 have H : ((isa_Decode.f k a0).bind fun bt113 => ((isa_has.f bt113.1).bind fun t119 => (if (Go.bits .and .i64 t119 16) = 0 then (some (0, false)) else (some (bt113.2.2.2.2, true))))) = some (r1, r2) := h
 clear h
 replace H := Option.bind_eq_some_iff.mp H
 obtain ⟨⟨t113, t114, t115, t116, t117⟩, A20, H⟩ := H
 try dsimp only at H
 have A2 := Aside0.mk A20
 clear A20
 replace H := Option.bind_eq_some_iff.mp H
 obtain ⟨t119, A30, H⟩ := H
 try dsimp only at H
 have A3 := Aside0.mk A30
 clear A30
 by_cases c4 : (Go.bits .and .i64 t119 16) = 0
 ·
  rw [if_pos c4] at H
  have c4b0 : ((Go.bits .and .i64 t119 16) == 0) = true := beq_iff_eq.mpr c4
  have c4b1 : ((Go.bits .and .i64 t119 16) != 0) = false := bne_eq_false_iff_eq.mpr c4
  clear c4
  simp only [Option.some.injEq, Prod.mk.injEq] at H
  obtain ⟨rfl, rfl⟩ := H
  go_enter Tryz.func104, Tryz.ntmps104
  go_wp2_with (first | ((with_reducible refine gate_callee (f := 115) rfl ?_); refine goesL_ (some 6) rfl rfl Tryz.func115 (by kernel_rfl) rfl #[.int .u32 a0] rfl (by (try simp only [List.map_toArray, List.map_cons, List.map_nil]); try rfl) ?_; (with_reducible refine (isa_Decode.calls k a0 t113 t114 t115 t116 t117 _ A2.out).mono ?_); rintro e w5 ⟨rfl, hb⟩; refine ⟨_, rfl, ?_⟩; replace HB := Aside0.mk (bsQ hb HB.out); (try clear hb); (try clear hb2); (try clear hk); (try clear hi)) | ((with_reducible refine gate_dst (N := 4) rfl ?_); refine box_event ?hg (N := 4) ?hd (cs := #[.int .i8 0, .int .i8 0, .int .i8 0, .int .i8 0, .int .i64 0]) (t := 140) ?hr ?_; (case hd => rfl); (case hg => rfl); (case hr => go_simp; try rfl); intro gb118 hg w6 hbox hb; have BK118 := Aside0.mk (hbox); have GW118 := Aside0.mk (gwQ hg HB.out); have GE118 := Aside0.mk (gwQ hg HB.out); replace HB := Aside0.mk (bsQ hb HB.out); clear hb hbox hg; obtain ⟨hcz7_0, hcz7_1, hcz7_2, hcz7_3, hcz7_4⟩ := bcQ5 BK118.out; obtain ⟨hfz7_0, hfz7_1, hfz7_2, hfz7_3, hfz7_4⟩ := fzQ5 BK118.out) | ((with_reducible refine gate_callee (f := 116) rfl ?_); refine goesL_ (some 9) rfl rfl Tryz.func116 (by kernel_rfl) rfl #[.int .i8 t113] rfl (by (try simp only [List.map_toArray, List.map_cons, List.map_nil]); try rfl) ?_; (with_reducible refine (isa_has.calls t113 t119 _ A3.out).mono ?_); rintro e w8 ⟨rfl, hb⟩; refine ⟨_, rfl, ?_⟩; have n0_ := Aside0.mk (blk_below (g := gb118) (o := .cells #[.int .i8 t113, .int .i8 t114, .int .i8 t115, .int .i8 t116, .int .i64 t117] 140 (0, 0)) (by refine blk_put (cs := #[.int .i8 t113, .int .i8 t114, .int .i8 t115, .int .i8 t116, .int .i64 0]) ?_ 4 _ rfl; refine blk_put (cs := #[.int .i8 t113, .int .i8 t114, .int .i8 t115, .int .i8 0, .int .i64 0]) ?_ 3 _ rfl; refine blk_put (cs := #[.int .i8 t113, .int .i8 t114, .int .i8 0, .int .i8 0, .int .i64 0]) ?_ 2 _ rfl; refine blk_put (cs := #[.int .i8 t113, .int .i8 0, .int .i8 0, .int .i8 0, .int .i64 0]) ?_ 1 _ rfl; refine blk_put (cs := #[.int .i8 0, .int .i8 0, .int .i8 0, .int .i8 0, .int .i64 0]) ?_ 0 _ rfl; exact BK118.out) hb); have n1_ := Aside0.mk (bs1Q hb (by repeat with_reducible first | exact HB.out | apply pw_below_drewN | apply below_drew1 | refine below_set ?_ GE118.out)); clear BK118; clear HB; have BK118 := n0_; have HB := n1_; clear n0_ n1_; (try clear hb); (try clear hb2); (try clear hk); (try clear hi)))
  go_ret2
  exact ⟨by first | rfl | (simp [errW_none, errW_some] <;> rfl) | (simp [*, errW_none, errW_some] <;> rfl), by repeat with_reducible first | exact HB.out | apply pw_below_drewN | apply below_drew1 | refine below_set ?_ GE118.out⟩
 ·
  rw [if_neg c4] at H
  have c4b0 : ((Go.bits .and .i64 t119 16) == 0) = false := beq_eq_false_iff_ne.mpr c4
  have c4b1 : ((Go.bits .and .i64 t119 16) != 0) = true := bne_iff_ne.mpr c4
  simp only [Option.some.injEq, Prod.mk.injEq] at H
  obtain ⟨rfl, rfl⟩ := H
  go_enter Tryz.func104, Tryz.ntmps104
  go_wp2_with (first | ((with_reducible refine gate_callee (f := 115) rfl ?_); refine goesL_ (some 6) rfl rfl Tryz.func115 (by kernel_rfl) rfl #[.int .u32 a0] rfl (by (try simp only [List.map_toArray, List.map_cons, List.map_nil]); try rfl) ?_; (with_reducible refine (isa_Decode.calls k a0 t113 t114 t115 t116 t117 _ A2.out).mono ?_); rintro e w9 ⟨rfl, hb⟩; refine ⟨_, rfl, ?_⟩; replace HB := Aside0.mk (bsQ hb HB.out); (try clear hb); (try clear hb2); (try clear hk); (try clear hi)) | ((with_reducible refine gate_dst (N := 4) rfl ?_); refine box_event ?hg (N := 4) ?hd (cs := #[.int .i8 0, .int .i8 0, .int .i8 0, .int .i8 0, .int .i64 0]) (t := 140) ?hr ?_; (case hd => rfl); (case hg => rfl); (case hr => go_simp; try rfl); intro gb118 hg w10 hbox hb; have BK118 := Aside0.mk (hbox); have GW118 := Aside0.mk (gwQ hg HB.out); have GE118 := Aside0.mk (gwQ hg HB.out); replace HB := Aside0.mk (bsQ hb HB.out); clear hb hbox hg; obtain ⟨hcz11_0, hcz11_1, hcz11_2, hcz11_3, hcz11_4⟩ := bcQ5 BK118.out; obtain ⟨hfz11_0, hfz11_1, hfz11_2, hfz11_3, hfz11_4⟩ := fzQ5 BK118.out) | ((with_reducible refine gate_callee (f := 116) rfl ?_); refine goesL_ (some 9) rfl rfl Tryz.func116 (by kernel_rfl) rfl #[.int .i8 t113] rfl (by (try simp only [List.map_toArray, List.map_cons, List.map_nil]); try rfl) ?_; (with_reducible refine (isa_has.calls t113 t119 _ A3.out).mono ?_); rintro e w12 ⟨rfl, hb⟩; refine ⟨_, rfl, ?_⟩; have n0_ := Aside0.mk (blk_below (g := gb118) (o := .cells #[.int .i8 t113, .int .i8 t114, .int .i8 t115, .int .i8 t116, .int .i64 t117] 140 (0, 0)) (by refine blk_put (cs := #[.int .i8 t113, .int .i8 t114, .int .i8 t115, .int .i8 t116, .int .i64 0]) ?_ 4 _ rfl; refine blk_put (cs := #[.int .i8 t113, .int .i8 t114, .int .i8 t115, .int .i8 0, .int .i64 0]) ?_ 3 _ rfl; refine blk_put (cs := #[.int .i8 t113, .int .i8 t114, .int .i8 0, .int .i8 0, .int .i64 0]) ?_ 2 _ rfl; refine blk_put (cs := #[.int .i8 t113, .int .i8 0, .int .i8 0, .int .i8 0, .int .i64 0]) ?_ 1 _ rfl; refine blk_put (cs := #[.int .i8 0, .int .i8 0, .int .i8 0, .int .i8 0, .int .i64 0]) ?_ 0 _ rfl; exact BK118.out) hb); have n1_ := Aside0.mk (bs1Q hb (by repeat with_reducible first | exact HB.out | apply pw_below_drewN | apply below_drew1 | refine below_set ?_ GE118.out)); clear BK118; clear HB; have BK118 := n0_; have HB := n1_; clear n0_ n1_; (try clear hb); (try clear hb2); (try clear hk); (try clear hi); obtain ⟨hcz13_0, hcz13_1, hcz13_2, hcz13_3, hcz13_4⟩ := bcQ5 BK118.out; obtain ⟨hfz13_0, hfz13_1, hfz13_2, hfz13_3, hfz13_4⟩ := fzQ5 BK118.out))
  go_ret2
  exact ⟨by first | rfl | (simp [errW_none, errW_some] <;> rfl) | (simp [*, errW_none, errW_some] <;> rfl), by repeat with_reducible first | exact HB.out | apply pw_below_drewN | apply below_drew1 | refine below_set ?_ GE118.out⟩
end Go.Proofs.YtiaohbbafaaibabGreatDoor.P
