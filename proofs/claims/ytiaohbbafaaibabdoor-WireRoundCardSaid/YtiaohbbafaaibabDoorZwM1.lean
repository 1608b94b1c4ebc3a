/- OWN TEXT and printed parts of this claim, laid together: HRe, HIsa, HIsaE. -/
import Derived.Test.YtiaohbbafaaibabDoorZwM0
import Derived.Laws.BytesArg
import Derived.Outline
import Derived.Handy
import Derived.Deep.DeepMust
/- OWN TEXT: wire's reader, walked: text, each. -/
namespace Go.Proofs.YtiaohbbafaaibabDoor.P
open Go.RowKit Go.Proofs.YtiaohbbafaaibabDoorW.PrintWords Go.Proofs.YtiaohbbafaaibabDoorW.PrintLast Go.Proofs.YtiaohbbafaaibabDoorW.PrintMore Go.Proofs.YtiaohbbafaaibabDoor.Arr
set_option linter.unusedVariables false
set_option linter.unusedSimpArgs false
theorem conv_str {w : World} {A : Option Addr} {xs : List Int} {n c : Nat} (hC : Kd.C (Kd.int .u8) w A n xs) (hn : xs.length = n) : (convert 28 9 (.slice A n c)).run Tryd.prog w = .ok (.string (strOfNums xs)) w := by
  subst hn
  cases A with
  | none =>
    have h0 : xs = [] := by
      cases xs with
      | nil => rfl
      | cons x xs =>
        obtain ⟨ad, e, _⟩ := Kd.at_int hC 0 (by omega) (show (0 : Int) < ((x :: xs).length : Int) by simp only [List.length_cons]; omega)
        cases e
    subst h0
    exact run_convert_bytes_nil w 28 5 Tryd.underlying28 Tryd.underlying5 _ c 9 Tryd.underlying9
  | some ad =>
    rw [run_convert_bytes_string w 28 9 5 (some ad) xs.length c Tryd.underlying28 Tryd.underlying5 Tryd.underlying9]
    have hl : (loadCells ad xs.length).run Tryd.prog w = .ok (xs.map (Value.int .u8)).toArray w := by
      have := run_loadCells_list (P := Tryd.prog) w ad (xs.map (Value.int .u8)) (fun j v hj => by
        have hjl : j < xs.length := by
          have := (List.getElem?_eq_some_iff.1 hj).1
          simpa using this
        obtain ⟨ad', e, hx⟩ := Kd.at_int hC (j : Int) (by omega) (by omega)
        obtain rfl := Option.some.inj e
        rw [Int.toNat_natCast, rd_getR hjl] at hx
        rw [hx]
        simp [List.getElem?_eq_getElem hjl] at hj
        rw [hj])
      simpa using this
    rw [run_bytesToString w ad xs.length c xs hl, foldl_push_bytes]
    simp [strOfNums, ByteArray.empty, ByteArray.emptyWithCapacity]
    rfl
theorem countR_range (l : List Int) (lim : Int) (s : RS) (hby : ∀ x ∈ l, 0 ≤ x ∧ x < 256) (h0 : 0 ≤ lim) : 0 ≤ (countR l lim s).1 ∧ (countR l lim s).1 ≤ lim := by
  unfold countR
  by_cases hgt : (numR l 4 s).1 > lim
  · rw [if_pos hgt]
    exact ⟨Int.le_refl _, h0⟩
  · rw [if_neg hgt]
    cases (numR l 4 s).2.er with
    | none => exact ⟨(numR_range l 4 s hby).1, by show (numR l 4 s).1 ≤ lim; omega⟩
    | some q => exact ⟨Int.le_refl _, h0⟩
/-- a text read: its length, then its bytes. -/
def textR (l : List Int) (s : RS) : ByteArray × RS :=
  match (hasR l.length (countR l 24 s).1 (countR l 24 s).2).er with
  | some _ => (⟨#[]⟩, hasR l.length (countR l 24 s).1 (countR l 24 s).2)
  | none => (strOfNums ((l.take ((countR l 24 s).2.at_.toNat + (countR l 24 s).1.toNat)).drop (countR l 24 s).2.at_.toNat), ⟨(countR l 24 s).2.at_ + (countR l 24 s).1, none⟩)
set_option maxHeartbeats 8000000 in
set_option maxRecDepth 100000 in
theorem rtext.calls (w0 W : World) (r : Nat) (A : Option Addr) (c : Nat) (l : List Int) (s : RS) (h : Rd w0 W r A c l s) (hC : Kd.C (Kd.int .u8) w0 A l.length l) (hcc : l.length ≤ c) (hl : l.length ≤ 1099511627776) (hby : ∀ x ∈ l, 0 ≤ x ∧ x < 256) :
    Calls Tryd.prog 29 #[.pointer (some ⟨r, 0, none⟩)] W fun e w' => e = .returned (.string (textR l s).1) ∧ Rd w0 w' r A c l (textR l s).2 ∧ W.grownBy w' (some r) := by
  have hu1 := Tryd.underlying81
  have hu2 := Tryd.underlying28
  have hu3 := Tryd.underlying5
  have hu4 := Tryd.underlying9
  have H := Aside0.mk h
  have HH := Aside0.mk (And.intro hC (And.intro hcc (And.intro hl hby)))
  obtain ⟨v, hb, he⟩ := h.blk
  have hrg := countR_range l 24 s hby (by decide)
  clear h hb he hC hcc hl hby
  obtain ⟨nv, hnv⟩ : ∃ nv, nv = (countR l 24 s).1 := ⟨_, rfl⟩
  obtain ⟨s1, hs1⟩ : ∃ s1, s1 = (countR l 24 s).2 := ⟨_, rfl⟩
  have HN := Aside0.mk hnv
  have HS := Aside0.mk hs1
  rw [← hnv] at hrg
  have HRG := Aside0.mk hrg
  clear hrg
  cases hh : (hasR l.length nv s1).er with
  | some q =>
    have HF := Aside0.mk (show textR l s = (⟨#[]⟩, hasR l.length nv s1) by unfold textR; rw [← hnv, ← hs1, hh])
    have HB := Aside0.mk (show (hasR l.length nv s1).er.isNone = false by rw [hh]; rfl)
    clear hnv hs1 hh
    go_enter Tryd.func29, Tryd.ntmps29
    go_wp2_with (first | (go_at_call 31; refine (count.calls w0 _ r A c l s H.out HH.out.1 HH.out.2.1 HH.out.2.2.1 HH.out.2.2.2 24).mono ?_; rw [← HN.out, ← HS.out]; rintro e_ w1 ⟨rfl, hr_, hg_⟩; have HR := Aside0.mk hr_; have HG := Aside0.mk hg_; clear hr_ hg_) | (go_at_call 71; refine (has.calls w0 _ r A c l s1 HR.out nv HH.out.2.2.1).mono ?_; rw [HB.out]; rintro e_ w2 ⟨rfl, hr_, hg_⟩; have HR2 := Aside0.mk hr_; have HG2 := Aside0.mk (grown_trans HG.out hg_); clear hr_ hg_))
    go_ret
    rw [HF.out]
    exact ⟨rfl, HR2.out, HG2.out⟩
  | none =>
    have hge : ¬ ((l.length : Int) - s1.at_ < nv) := fun h => by
      unfold hasR at hh
      rw [if_pos h] at hh
      obtain ⟨q, hq⟩ := failsR_er (l.length : Int) s1
      rw [hq] at hh
      cases hh
    have hhs : hasR l.length nv s1 = s1 := if_neg hge
    have HF := Aside0.mk (show textR l s = (strOfNums ((l.take (s1.at_.toNat + nv.toNat)).drop s1.at_.toNat), ⟨s1.at_ + nv, none⟩) by unfold textR; rw [← hnv, ← hs1, hh])
    have HB := Aside0.mk (show (hasR l.length nv s1).er.isNone = true by rw [hh]; rfl)
    rw [hhs] at hh
    have HE := Aside0.mk hh
    have HHS := Aside0.mk hhs
    have HGE := Aside0.mk hge
    clear hnv hs1 hh hge hhs
    obtain ⟨kn, rfl⟩ : ∃ kn : Nat, nv = (kn : Int) := ⟨nv.toNat, by have := HRG.out; omega⟩
    go_enter Tryd.func29, Tryd.ntmps29
    go_upto_region 5 with (first | (go_at_call 31; refine (count.calls w0 _ r A c l s H.out HH.out.1 HH.out.2.1 HH.out.2.2.1 HH.out.2.2.2 24).mono ?_; rw [← HN.out, ← HS.out]; rintro e_ w1 ⟨rfl, hr_, hg_⟩; have HR := Aside0.mk hr_; have HG := Aside0.mk hg_; clear hr_ hg_) | (go_at_call 71; refine (has.calls w0 _ r A c l s1 HR.out (kn : Int) HH.out.2.2.1).mono ?_; rw [HB.out]; rintro e_ w2 ⟨rfl, hr_, hg_⟩; have HR2 := Aside0.mk hr_; have HG2 := Aside0.mk (grown_trans HG.out hg_); rw [HHS.out] at hr_; clear HR2; have HR2 := Aside0.mk hr_; obtain ⟨v1, hb1, he1⟩ := hr_.blk; rw [HE.out] at he1; obtain rfl : v1 = .nilIface := he1; obtain ⟨m, hm⟩ : ∃ m : Nat, s1.at_ = (m : Int) := ⟨s1.at_.toNat, by have := hr_.at0; omega⟩; rw [hm] at hb1; have HM := Aside0.mk hm; have HB1 := Aside0.mk hb1; have hd0 := (blk_cell hb1 0).trans rfl; have hd1 := (blk_cell hb1 1).trans rfl; have hg1 := blk_frozen hb1 1; clear hb1 hm; clear hr_ hg_))
    have HMX := Aside0.mk (show m + kn ≤ l.length by have := HGE.out; have := HM.out; omega)
    have HWV := Aside0.mk (show wrap64 ((m : Int) + (kn : Int)) = ((m + kn : Nat) : Int) by rw [wrap64_id (by have := HMX.out; have := HH.out.2.2.1; omega) (by have := HMX.out; have := HH.out.2.2.1; omega)]; omega)
    have HWL := Aside0.mk (show wrap64 (((m + kn : Nat) : Int) - (kn : Int)) = (m : Int) by rw [wrap64_id (by omega) (by have := HMX.out; have := HH.out.2.2.1; omega)]; omega)
    have hx := HR2.out.put (v := .nilIface) (y := 0) (x := .nilIface) _ (put_set (j := 1) (x := .int .i64 (wrap64 ((m : Int) + (kn : Int)))) HB1.out) ⟨s1.at_ + kn, none⟩ (by rw [HWV.out, HM.out]; rfl) rfl (by have := HR2.out.at0; show 0 ≤ s1.at_ + kn; omega) (by have := HMX.out; have := HM.out; show s1.at_ + kn ≤ _; omega) (fun _ => by have := HMX.out; have := HM.out; show s1.at_ + kn ≤ _; omega)
    generalize hws : w2.setCell ⟨r, 1, none⟩ (.int .i64 (wrap64 ((m : Int) + (kn : Int)))) = ws at hx ⊢
    clear hd0 hd1 hg1 hws
    have HX := Aside0.mk hx
    obtain ⟨v2, hb2, _⟩ := hx.1.blk
    have hz0 := (blk_cell hb2 0).trans rfl
    have hz1 : _ = some (Value.int .i64 ((m + kn : Nat) : Int)) := (blk_cell hb2 1).trans (by show some (Value.int .i64 (s1.at_ + kn)) = _; rw [HM.out]; rfl)
    clear hb2 hx
    obtain ⟨xs, hxs⟩ : ∃ xs, xs = (l.take (m + kn)).drop m := ⟨_, rfl⟩
    have hxl : xs.length = kn := by have := HMX.out; rw [hxs, List.length_drop, List.length_take]; omega
    have hcz : Kd.C (Kd.int .u8) w0 (if c = m then A else Option.map (fun x : Addr => x.add m) A) kn xs := by
      have hz := Kd.C_mid HH.out.1 (show m ≤ m + kn by omega) HMX.out HH.out.2.1
      rw [← hxs, hxl, show m * (Kd.int IntKind.u8).sz = m from Nat.mul_one m] at hz
      exact hz
    have hcv : ∀ q, (convert 28 9 (.slice (if c = m then A else Option.map (fun x : Addr => x.add m) A) kn (c - m))).run Tryd.prog (ws.drewN q) = .ok (.string (strOfNums xs)) (ws.drewN q) := fun q => conv_str (Kd.C_below hcz (pw_below_drewN HX.out.1.low q)) hxl
    have HXS := Aside0.mk hxs
    have hwm : IntKind.i64.wrap (m : Int) = (m : Int) := by have := HMX.out; have := HH.out.2.2.1; rw [i64_w, wrap64_id (by omega) (by omega)]
    have p1 : (m : Int) ≤ (m : Int) + (kn : Int) := by omega
    have p2 : (m : Int) + (kn : Int) ≤ (c : Int) := by have := HMX.out; have := HH.out.2.1; omega
    have p3 : (0 : Int) ≤ (m : Int) + (kn : Int) := by omega
    have p4 : ((m : Int) + (kn : Int)).toNat - m = kn := by omega
    clear hcz hxs hxl
    go_quiet (fail)
    clear hcv hwm p1 p2 p3 p4
    generalize (if c = m then A else Option.map (fun x : Addr => x.add m) A) = Az
    go_wp2
    go_ret
    rw [HF.out]
    refine ⟨?_, HX.out.1.below (pw_below_drewN (Below.refl _ _) _), grown_trans HG2.out (grown_trans HX.out.2 (grown_below (pw_below_drewN (Below.refl _ _) _)))⟩
    show Ending.returned (Value.string (strOfNums xs)) = _
    rw [HXS.out, HM.out, Int.toNat_natCast, Int.toNat_natCast]
/-- f is done n times, while nothing is wrong. -/
def eachR {α : Type} (f : α → α) (rs : α → RS) : Nat → α → α
  | 0, a => a
  | n + 1, a => if (rs a).er.isNone = true then eachR f rs n (f a) else a
theorem eachR_go {α : Type} (f : α → α) (rs : α → RS) (n : Nat) {a : α} (h : (rs a).er = none) : eachR f rs (n + 1) a = eachR f rs n (f a) := by
  show (if (rs a).er.isNone = true then eachR f rs n (f a) else a) = _
  rw [h]
  rfl
theorem eachR_stop {α : Type} (f : α → α) (rs : α → RS) (n : Nat) {a : α} {q : Int} (h : (rs a).er = some q) : eachR f rs n a = a := by
  cases n with
  | zero => rfl
  | succ n =>
    show (if (rs a).er.isNone = true then eachR f rs n (f a) else a) = _
    rw [h]
    rfl
set_option maxHeartbeats 8000000 in
set_option maxRecDepth 100000 in
theorem each1.calls {α : Type} (I : Nat → α → World → Prop) (rs : α → RS) (f : α → α) (w0 : World) (r : Nat) (A : Option Addr) (c : Nat) (l : List Int) (hI : ∀ j a W, I j a W → Rd w0 W r A c l (rs a)) (caps : Array Value)
    (hf : ∀ j a W, I (j + 1) a W → (rs a).er = none → Calls Tryd.prog 32 caps W fun e w' => e = .returned (.tuple #[]) ∧ I j (f a) w') (a : α) (W : World) (n : Nat) (hW : I n a W) (hn : n ≤ 9223372036854775806) :
    Calls Tryd.prog 30 #[.pointer (some ⟨r, 0, none⟩), .int .i64 (n : Int), .func (.func 32) #[] caps] W fun e w' => e = .returned (.tuple #[]) ∧ ∃ j, I j (eachR f rs n a) w' := by
  have hu1 := Tryd.underlying81
  have HW := Aside0.mk hW
  have HI := Aside0.mk hI
  have HF := Aside0.mk hf
  have HN := Aside0.mk hn
  clear hW hI hf hn
  go_enter Tryd.func30, Tryd.ntmps30
  go_wp2
  go_loopw [1] (fun u1 wr => ∃ (m : Nat) (b : α), u1 = .int .i64 (m : Int) ∧ m ≤ n ∧ Aside0 (I m b wr) ∧ Aside0 (eachR f rs m b = eachR f rs n a)) (fun u1 _ => (intOf u1).toNat)
  case atStart => exact ⟨n, a, rfl, Nat.le_refl _, HW, ⟨rfl⟩⟩
  case round =>
    clear HW
    obtain ⟨m, b, rfl, hmn, HB, HE⟩ := hrel
    have HR := Aside0.mk (HI.out m b wr HB.out)
    obtain ⟨v, hb, he⟩ := HR.out.blk
    have hc2 := (blk_cell hb 2).trans rfl
    clear hb
    cases m with
    | zero =>
      have hm0 : decide (((0 : Nat) : Int) > 0) = false := by simp
      clear he hmn
      go_wp2
      refine Go.Great.bodyPost_end0 rfl rfl ?_
      have hE := HE.out
      exact ⟨rfl, 0, by rw [← hE]; exact HB.out⟩
    | succ m =>
      have hm0 : decide (((m + 1 : Nat) : Int) > 0) = true := decide_eq_true (by omega)
      have HMN := Aside0.mk hmn
      clear hmn
      cases hs : (rs b).er with
      | some q =>
        rw [hs] at he
        obtain ⟨ee, rfl, _, _⟩ := he
        have HEE := Aside0.mk (show eachR f rs n a = b by rw [← HE.out]; exact eachR_stop f rs _ hs)
        clear hs
        go_wp2
        refine Go.Great.bodyPost_end0 rfl rfl ?_
        exact ⟨rfl, m + 1, by rw [HEE.out]; exact HB.out⟩
      | none =>
        rw [hs] at he
        obtain rfl : v = .nilIface := he
        have HEE := Aside0.mk (show eachR f rs m (f b) = eachR f rs n a by rw [← HE.out]; exact (eachR_go f rs m hs).symm)
        have HS := Aside0.mk hs
        have HWR := Aside0.mk (show wrap64 (m : Int) = (m : Int) by rw [wrap64_id (by omega) (by have := HMN.out; have := HN.out; omega)])
        clear hs
        go_wp2_with (go_at_call 32; refine (HF.out m b _ HB.out HS.out).mono ?_; rintro e_ w1 ⟨rfl, hi_⟩; have HB1 := Aside0.mk hi_; clear hi_ hc2)
        go_roundw
        case measure => (try rw [HWR.out]); simp only [intOf]; omega
        case rel => exact ⟨m, f b, by first | rfl | (rw [HWR.out]; done), by have := HMN.out; omega, HB1, HEE⟩
set_option maxHeartbeats 8000000 in
set_option maxRecDepth 100000 in
theorem each2.calls {α : Type} (I : Nat → α → World → Prop) (rs : α → RS) (f : α → α) (w0 : World) (r : Nat) (A : Option Addr) (c : Nat) (l : List Int) (hI : ∀ j a W, I j a W → Rd w0 W r A c l (rs a)) (caps : Array Value)
    (hf : ∀ j a W, I (j + 1) a W → (rs a).er = none → Calls Tryd.prog 34 caps W fun e w' => e = .returned (.tuple #[]) ∧ I j (f a) w') (a : α) (W : World) (n : Nat) (hW : I n a W) (hn : n ≤ 9223372036854775806) :
    Calls Tryd.prog 30 #[.pointer (some ⟨r, 0, none⟩), .int .i64 (n : Int), .func (.func 34) #[] caps] W fun e w' => e = .returned (.tuple #[]) ∧ ∃ j, I j (eachR f rs n a) w' := by
  have hu1 := Tryd.underlying81
  have HW := Aside0.mk hW
  have HI := Aside0.mk hI
  have HF := Aside0.mk hf
  have HN := Aside0.mk hn
  clear hW hI hf hn
  go_enter Tryd.func30, Tryd.ntmps30
  go_wp2
  go_loopw [1] (fun u1 wr => ∃ (m : Nat) (b : α), u1 = .int .i64 (m : Int) ∧ m ≤ n ∧ Aside0 (I m b wr) ∧ Aside0 (eachR f rs m b = eachR f rs n a)) (fun u1 _ => (intOf u1).toNat)
  case atStart => exact ⟨n, a, rfl, Nat.le_refl _, HW, ⟨rfl⟩⟩
  case round =>
    clear HW
    obtain ⟨m, b, rfl, hmn, HB, HE⟩ := hrel
    have HR := Aside0.mk (HI.out m b wr HB.out)
    obtain ⟨v, hb, he⟩ := HR.out.blk
    have hc2 := (blk_cell hb 2).trans rfl
    clear hb
    cases m with
    | zero =>
      have hm0 : decide (((0 : Nat) : Int) > 0) = false := by simp
      clear he hmn
      go_wp2
      refine Go.Great.bodyPost_end0 rfl rfl ?_
      have hE := HE.out
      exact ⟨rfl, 0, by rw [← hE]; exact HB.out⟩
    | succ m =>
      have hm0 : decide (((m + 1 : Nat) : Int) > 0) = true := decide_eq_true (by omega)
      have HMN := Aside0.mk hmn
      clear hmn
      cases hs : (rs b).er with
      | some q =>
        rw [hs] at he
        obtain ⟨ee, rfl, _, _⟩ := he
        have HEE := Aside0.mk (show eachR f rs n a = b by rw [← HE.out]; exact eachR_stop f rs _ hs)
        clear hs
        go_wp2
        refine Go.Great.bodyPost_end0 rfl rfl ?_
        exact ⟨rfl, m + 1, by rw [HEE.out]; exact HB.out⟩
      | none =>
        rw [hs] at he
        obtain rfl : v = .nilIface := he
        have HEE := Aside0.mk (show eachR f rs m (f b) = eachR f rs n a by rw [← HE.out]; exact (eachR_go f rs m hs).symm)
        have HS := Aside0.mk hs
        have HWR := Aside0.mk (show wrap64 (m : Int) = (m : Int) by rw [wrap64_id (by omega) (by have := HMN.out; have := HN.out; omega)])
        clear hs
        go_wp2_with (go_at_call 34; refine (HF.out m b _ HB.out HS.out).mono ?_; rintro e_ w1 ⟨rfl, hi_⟩; have HB1 := Aside0.mk hi_; clear hi_ hc2)
        go_roundw
        case measure => (try rw [HWR.out]); simp only [intOf]; omega
        case rel => exact ⟨m, f b, by first | rfl | (rw [HWR.out]; done), by have := HMN.out; omega, HB1, HEE⟩
set_option maxHeartbeats 8000000 in
set_option maxRecDepth 100000 in
theorem each3.calls {α : Type} (I : Nat → α → World → Prop) (rs : α → RS) (f : α → α) (w0 : World) (r : Nat) (A : Option Addr) (c : Nat) (l : List Int) (hI : ∀ j a W, I j a W → Rd w0 W r A c l (rs a)) (caps : Array Value)
    (hf : ∀ j a W, I (j + 1) a W → (rs a).er = none → Calls Tryd.prog 36 caps W fun e w' => e = .returned (.tuple #[]) ∧ I j (f a) w') (a : α) (W : World) (n : Nat) (hW : I n a W) (hn : n ≤ 9223372036854775806) :
    Calls Tryd.prog 30 #[.pointer (some ⟨r, 0, none⟩), .int .i64 (n : Int), .func (.func 36) #[] caps] W fun e w' => e = .returned (.tuple #[]) ∧ ∃ j, I j (eachR f rs n a) w' := by
  have hu1 := Tryd.underlying81
  have HW := Aside0.mk hW
  have HI := Aside0.mk hI
  have HF := Aside0.mk hf
  have HN := Aside0.mk hn
  clear hW hI hf hn
  go_enter Tryd.func30, Tryd.ntmps30
  go_wp2
  go_loopw [1] (fun u1 wr => ∃ (m : Nat) (b : α), u1 = .int .i64 (m : Int) ∧ m ≤ n ∧ Aside0 (I m b wr) ∧ Aside0 (eachR f rs m b = eachR f rs n a)) (fun u1 _ => (intOf u1).toNat)
  case atStart => exact ⟨n, a, rfl, Nat.le_refl _, HW, ⟨rfl⟩⟩
  case round =>
    clear HW
    obtain ⟨m, b, rfl, hmn, HB, HE⟩ := hrel
    have HR := Aside0.mk (HI.out m b wr HB.out)
    obtain ⟨v, hb, he⟩ := HR.out.blk
    have hc2 := (blk_cell hb 2).trans rfl
    clear hb
    cases m with
    | zero =>
      have hm0 : decide (((0 : Nat) : Int) > 0) = false := by simp
      clear he hmn
      go_wp2
      refine Go.Great.bodyPost_end0 rfl rfl ?_
      have hE := HE.out
      exact ⟨rfl, 0, by rw [← hE]; exact HB.out⟩
    | succ m =>
      have hm0 : decide (((m + 1 : Nat) : Int) > 0) = true := decide_eq_true (by omega)
      have HMN := Aside0.mk hmn
      clear hmn
      cases hs : (rs b).er with
      | some q =>
        rw [hs] at he
        obtain ⟨ee, rfl, _, _⟩ := he
        have HEE := Aside0.mk (show eachR f rs n a = b by rw [← HE.out]; exact eachR_stop f rs _ hs)
        clear hs
        go_wp2
        refine Go.Great.bodyPost_end0 rfl rfl ?_
        exact ⟨rfl, m + 1, by rw [HEE.out]; exact HB.out⟩
      | none =>
        rw [hs] at he
        obtain rfl : v = .nilIface := he
        have HEE := Aside0.mk (show eachR f rs m (f b) = eachR f rs n a by rw [← HE.out]; exact (eachR_go f rs m hs).symm)
        have HS := Aside0.mk hs
        have HWR := Aside0.mk (show wrap64 (m : Int) = (m : Int) by rw [wrap64_id (by omega) (by have := HMN.out; have := HN.out; omega)])
        clear hs
        go_wp2_with (go_at_call 36; refine (HF.out m b _ HB.out HS.out).mono ?_; rintro e_ w1 ⟨rfl, hi_⟩; have HB1 := Aside0.mk hi_; clear hi_ hc2)
        go_roundw
        case measure => (try rw [HWR.out]); simp only [intOf]; omega
        case rel => exact ⟨m, f b, by first | rfl | (rw [HWR.out]; done), by have := HMN.out; omega, HB1, HEE⟩
set_option maxHeartbeats 8000000 in
set_option maxRecDepth 100000 in
theorem each4.calls {α : Type} (I : Nat → α → World → Prop) (rs : α → RS) (f : α → α) (w0 : World) (r : Nat) (A : Option Addr) (c : Nat) (l : List Int) (hI : ∀ j a W, I j a W → Rd w0 W r A c l (rs a)) (caps : Array Value)
    (hf : ∀ j a W, I (j + 1) a W → (rs a).er = none → Calls Tryd.prog 37 caps W fun e w' => e = .returned (.tuple #[]) ∧ I j (f a) w') (a : α) (W : World) (n : Nat) (hW : I n a W) (hn : n ≤ 9223372036854775806) :
    Calls Tryd.prog 30 #[.pointer (some ⟨r, 0, none⟩), .int .i64 (n : Int), .func (.func 37) #[] caps] W fun e w' => e = .returned (.tuple #[]) ∧ ∃ j, I j (eachR f rs n a) w' := by
  have hu1 := Tryd.underlying81
  have HW := Aside0.mk hW
  have HI := Aside0.mk hI
  have HF := Aside0.mk hf
  have HN := Aside0.mk hn
  clear hW hI hf hn
  go_enter Tryd.func30, Tryd.ntmps30
  go_wp2
  go_loopw [1] (fun u1 wr => ∃ (m : Nat) (b : α), u1 = .int .i64 (m : Int) ∧ m ≤ n ∧ Aside0 (I m b wr) ∧ Aside0 (eachR f rs m b = eachR f rs n a)) (fun u1 _ => (intOf u1).toNat)
  case atStart => exact ⟨n, a, rfl, Nat.le_refl _, HW, ⟨rfl⟩⟩
  case round =>
    clear HW
    obtain ⟨m, b, rfl, hmn, HB, HE⟩ := hrel
    have HR := Aside0.mk (HI.out m b wr HB.out)
    obtain ⟨v, hb, he⟩ := HR.out.blk
    have hc2 := (blk_cell hb 2).trans rfl
    clear hb
    cases m with
    | zero =>
      have hm0 : decide (((0 : Nat) : Int) > 0) = false := by simp
      clear he hmn
      go_wp2
      refine Go.Great.bodyPost_end0 rfl rfl ?_
      have hE := HE.out
      exact ⟨rfl, 0, by rw [← hE]; exact HB.out⟩
    | succ m =>
      have hm0 : decide (((m + 1 : Nat) : Int) > 0) = true := decide_eq_true (by omega)
      have HMN := Aside0.mk hmn
      clear hmn
      cases hs : (rs b).er with
      | some q =>
        rw [hs] at he
        obtain ⟨ee, rfl, _, _⟩ := he
        have HEE := Aside0.mk (show eachR f rs n a = b by rw [← HE.out]; exact eachR_stop f rs _ hs)
        clear hs
        go_wp2
        refine Go.Great.bodyPost_end0 rfl rfl ?_
        exact ⟨rfl, m + 1, by rw [HEE.out]; exact HB.out⟩
      | none =>
        rw [hs] at he
        obtain rfl : v = .nilIface := he
        have HEE := Aside0.mk (show eachR f rs m (f b) = eachR f rs n a by rw [← HE.out]; exact (eachR_go f rs m hs).symm)
        have HS := Aside0.mk hs
        have HWR := Aside0.mk (show wrap64 (m : Int) = (m : Int) by rw [wrap64_id (by omega) (by have := HMN.out; have := HN.out; omega)])
        clear hs
        go_wp2_with (go_at_call 37; refine (HF.out m b _ HB.out HS.out).mono ?_; rintro e_ w1 ⟨rfl, hi_⟩; have HB1 := Aside0.mk hi_; clear hi_ hc2)
        go_roundw
        case measure => (try rw [HWR.out]); simp only [intOf]; omega
        case rel => exact ⟨m, f b, by first | rfl | (rw [HWR.out]; done), by have := HMN.out; omega, HB1, HEE⟩
end Go.Proofs.YtiaohbbafaaibabDoor.P

/- OWN TEXT: what isa.has and isa.Encode come to (their tables are arrays, which the print does not take), in the print's own form. -/
namespace Go.Proofs.YtiaohbbafaaibabDoor.P
open Go.RowKit Go.Proofs.YtiaohbbafaaibabDoorW.PrintWords Go.Proofs.YtiaohbbafaaibabDoorW.PrintLast Go.Proofs.YtiaohbbafaaibabDoorW.PrintMore Go.Proofs.YtiaohbbafaaibabDoor.Arr
set_option linter.unusedVariables false
set_option linter.unusedSimpArgs false

/-- The fields of each op. -/
def fieldsA : Array Value := #[.int .i64 0, .int .i64 9, .int .i64 3, .int .i64 7, .int .i64 7, .int .i64 7, .int .i64 7, .int .i64 7, .int .i64 7, .int .i64 7, .int .i64 7, .int .i64 11, .int .i64 14, .int .i64 1, .int .i64 10, .int .i64 24, .int .i64 26, .int .i64 24, .int .i64 2, .int .i64 2, .int .i64 25, .int .i64 0]
theorem fieldsA_one : (fieldsA.all fun v => v.oneCell') = true := by kernel_rfl
/-- The same as numbers. -/
def fieldsL : List Int := [0, 9, 3, 7, 7, 7, 7, 7, 7, 7, 7, 11, 14, 1, 10, 24, 26, 24, 2, 2, 25, 0]
theorem fieldsA_eq : fieldsA = (fieldsL.map (Value.int .i64)).toArray := rfl
theorem isa_size3 (W : World) : (sizeOf 3).run Tryd.prog W = .ok 1 W := by kernel_rfl
set_option maxHeartbeats 4000000 in
set_option maxRecDepth 100000 in
theorem isa_fields.calls (w : World) :
    Calls Tryd.prog 79 #[] w fun e w' => e = .returned (.agg fieldsA) ∧ Below w.heap.size w w' := by
  have HB := Aside0.mk (Below.refl w.heap.size w)
  go_enter Tryd.func79, Tryd.ntmps79
  go_upto_region 2 with (first | ((with_reducible refine gate_dst (N := 0) rfl ?_); refine box_event ?hg (N := 0) ?hd (cs := #[.int .i64 0, .int .i64 0, .int .i64 0, .int .i64 0, .int .i64 0, .int .i64 0, .int .i64 0, .int .i64 0, .int .i64 0, .int .i64 0, .int .i64 0, .int .i64 0, .int .i64 0, .int .i64 0, .int .i64 0, .int .i64 0, .int .i64 0, .int .i64 0, .int .i64 0, .int .i64 0, .int .i64 0, .int .i64 0]) (t := 157) ?hr ?_; (case hd => rfl); (case hg => rfl); (case hr => first | (go_simp; done) | (go_simp; rfl)); intro g0 hge0 w1 BK0 hb0; have HB1 := Aside0.mk (below_then HB.out (Nat.le_refl _) hb0); have BGa := Aside0.mk BK0; have GE0 := Aside0.mk (show w.heap.size ≤ g0 by omega); have GL0 := Aside0.mk (show g0 < w1.heap.size from blk_lt BK0); clear BK0 hb0 hge0) | ((with_reducible refine gate_dst (N := 1) rfl ?_); refine box_event ?hg (N := 1) ?hd (cs := #[.int .i64 0, .int .i64 0, .int .i64 0, .int .i64 0, .int .i64 0, .int .i64 0, .int .i64 0, .int .i64 0, .int .i64 0, .int .i64 0, .int .i64 0, .int .i64 0, .int .i64 0, .int .i64 0, .int .i64 0, .int .i64 0, .int .i64 0, .int .i64 0, .int .i64 0, .int .i64 0, .int .i64 0, .int .i64 0]) (t := 157) ?hr ?_; (case hd => rfl); (case hg => rfl); (case hr => first | (go_simp; done) | (go_simp; rfl)); intro g1 hge1 w2 BK1 hb1; have HB2 := Aside0.mk (below_then HB1.out HB1.out.size hb1); have BG1 := Aside0.mk BK1; have BG0 := Aside0.mk (blk_below BGa.out hb1); have NE := Aside0.mk (show g0 ≠ g1 by have := GL0.out; omega); have GE1 := Aside0.mk (show w.heap.size ≤ g1 by have := HB1.out.size; omega); clear BK1 hb1 hge1 HB1 BGa GL0))
  go_wp2_with (first | ((with_reducible refine gate_store (t := 3) rfl ?_); refine wpList_store_arr_const rfl rfl rfl g1 _ _ _ _ rfl rfl rfl (isa_size3 _) BG1.out (by decide) (by simp only [List.setIfInBounds_toArray, List.set_cons_zero, List.set_cons_succ]; rfl) ?_; intro w3 hp; have HBn := Aside0.mk (hp.below HB2.out GE1.out); have BG1n := Aside0.mk hp.blk; have BG0n := Aside0.mk ((hp.far g0 NE.out).trans BG0.out); clear BG1 BG0 HB2 hp; have BG1 := BG1n; have BG0 := BG0n; have HB2 := HBn; clear BG1n BG0n HBn) | ((with_reducible refine gate_dst (N := 21) rfl ?_); (refine wpList_load_row rfl 157 _ rfl g1 rfl 157 _ (0, 0) _ BG1.out Tryd.underlying157 rfl (by kernel_rfl) ?_)) | ((with_reducible refine gate_store (t := 157) rfl ?_); refine wpList_store_whole rfl rfl rfl g0 _ fieldsA _ rfl (by rfl) BG0.out (by kernel_rfl) (by rfl) fieldsA_one ?_; intro w3 hp; have HBn := Aside0.mk (hp.below HB2.out GE0.out); have BG0n := Aside0.mk hp.blk; clear BG1 BG0 HB2 hp))
  refine wp_loop_rounds 9 ?_
  iterate 9 (rw [rounds_succ]; go_wp2_with (first | ((with_reducible refine gate_store (t := 3) rfl ?_); refine wpList_store_arr_const rfl rfl rfl g1 _ _ _ _ rfl rfl rfl (isa_size3 _) BG1.out (by decide) (by simp only [List.setIfInBounds_toArray, List.set_cons_zero, List.set_cons_succ]; rfl) ?_; intro w3 hp; have HBn := Aside0.mk (hp.below HB2.out GE1.out); have BG1n := Aside0.mk hp.blk; have BG0n := Aside0.mk ((hp.far g0 NE.out).trans BG0.out); clear BG1 BG0 HB2 hp; have BG1 := BG1n; have BG0 := BG0n; have HB2 := HBn; clear BG1n BG0n HBn) | ((with_reducible refine gate_dst (N := 21) rfl ?_); (refine wpList_load_row rfl 157 _ rfl g1 rfl 157 _ (0, 0) _ BG1.out Tryd.underlying157 rfl (by kernel_rfl) ?_)) | ((with_reducible refine gate_store (t := 157) rfl ?_); refine wpList_store_whole rfl rfl rfl g0 _ fieldsA _ rfl (by rfl) BG0.out (by kernel_rfl) (by rfl) fieldsA_one ?_; intro w3 hp; have HBn := Aside0.mk (hp.below HB2.out GE0.out); have BG0n := Aside0.mk hp.blk; clear BG1 BG0 HB2 hp)))
  exact bodyPost_ret (v := .agg fieldsA) (results_cell_row Tryd.results79 _ _ g0 157 fieldsA (0, 0) _ rfl BG0n.out Tryd.underlying157 rfl (by kernel_rfl)) rfl ⟨rfl, HBn.out⟩

def hasT (a0 : Int) : Int := fieldsL.getD a0.toNat 0
def isa_has.f (a0 : Int) : Option (Int) := if a0 < 0 then (some 0) else (if a0 ≥ 22 then (some 0) else (some (hasT a0)))
set_option maxHeartbeats 1000000 in
set_option maxRecDepth 100000 in
theorem isa_has.calls (a0 : Int) (r : Int) (w : World) (h : isa_has.f a0 = some r) :
    Calls Tryd.prog 69 #[.int .i8 a0] w fun e w' => e = .returned (.int .i64 r) ∧ Below w.heap.size w w' := by
  unfold isa_has.f at h
  by_cases c1 : a0 < 0
  · rw [if_pos c1] at h
    obtain rfl := Option.some.inj h
    go_enter Tryd.func69, Tryd.ntmps69
    go_wp2
    go_ret
    exact ⟨rfl, Below.refl _ _⟩
  rw [if_neg c1] at h
  by_cases c2 : a0 ≥ 22
  · rw [if_pos c2] at h
    obtain rfl := Option.some.inj h
    go_enter Tryd.func69, Tryd.ntmps69
    go_wp2
    go_ret
    exact ⟨rfl, Below.refl _ _⟩
  rw [if_neg c2] at h
  have hr := Option.some.inj h
  have hv : fieldsA[a0.toNat]? = some (.int .i64 r) := by
    rw [← hr, fieldsA_eq, List.getElem?_toArray, List.getElem?_map]
    have hl : a0.toNat < fieldsL.length := by
      have : fieldsL.length = 22 := rfl
      omega
    unfold hasT
    rw [List.getD_eq_getElem?_getD, List.getElem?_eq_getElem hl]
    rfl
  have hix := fun W => run_index_arr (P := Tryd.prog) (w := W) (cs := fieldsA) (k := .i8) (i := a0) Tryd.underlying157 (by kernel_rfl) (isa_size3 W) (by omega) (by omega) hv
  clear h hr hv
  go_enter Tryd.func69, Tryd.ntmps69
  go_wp2_with (go_at_call 79; refine (isa_fields.calls _).mono ?_; rintro e w1 ⟨rfl, hb⟩)
  go_ret
  exact ⟨rfl, hb⟩

end Go.Proofs.YtiaohbbafaaibabDoor.P

/- OWN TEXT: what isa.Encode comes to (it holds an array, which the print does not take), in the print's own form. -/
namespace Go.Proofs.YtiaohbbafaaibabDoor.P
open Go.RowKit Go.Proofs.YtiaohbbafaaibabDoorW.PrintWords Go.Proofs.YtiaohbbafaaibabDoorW.PrintLast Go.Proofs.YtiaohbbafaaibabDoorW.PrintMore Go.Proofs.YtiaohbbafaaibabDoor.Arr
set_option linter.unusedVariables false
set_option linter.unusedSimpArgs false

theorem cells5 {W : World} {g t : Nat} {v0 v1 v2 v3 v4 : Value} (h : W.heap[g]? = some (.cells #[v0, v1, v2, v3, v4] t (0, 0))) :
    W.cell? ⟨g, 0, none⟩ = some v0 ∧ W.cell? ⟨g, 1, none⟩ = some v1 ∧ W.cell? ⟨g, 2, none⟩ = some v2 ∧ W.cell? ⟨g, 3, none⟩ = some v3 ∧ W.cell? ⟨g, 4, none⟩ = some v4 :=
  ⟨blk_cell h 0, blk_cell h 1, blk_cell h 2, blk_cell h 3, blk_cell h 4⟩
theorem arr3_one (a b c : Int) : ((#[.int .i8 a, .int .i8 b, .int .i8 c] : Array Value).all fun v => v.oneCell') = true := by kernel_rfl
/-- May register r not be, f the op's fields, m its own bit? -/
def badReg (f r m : Int) : Prop := r < 0 ∨ 16 ≤ r ∨ (r ≠ 0 ∧ Go.bits .and .i64 f m = 0)
def lowT (f : Int) : Int := if Go.bits .and .i64 f 16 = 0 then (if Go.bits .and .i64 f 8 = 0 then 0 else -16384) else 0
def highT (f : Int) : Int := if Go.bits .and .i64 f 16 = 0 then (if Go.bits .and .i64 f 8 = 0 then 0 else 16383) else 16383
/-- The word, as the walk tells it. -/
def encW (a0 a1 a2 a3 a4 : Int) : Int := Go.bits .or .u32 (Go.bits .or .u32 (Go.bits .or .u32 (Go.bits .or .u32 (a0 * 134217728) (a1 * 8388608)) (a2 * 524288)) (a3 * 32768)) (Go.bits .and .u32 (a4 % 4294967296) 32767)
def RegRel (fv a1 a2 a3 : Int) (i : Value) : Prop :=
  i = .int .i64 0 ∨ (i = .int .i64 1 ∧ ¬ badReg fv a1 1) ∨ (i = .int .i64 2 ∧ ¬ badReg fv a1 1 ∧ ¬ badReg fv a2 2) ∨ (i = .int .i64 3 ∧ ¬ badReg fv a1 1 ∧ ¬ badReg fv a2 2 ∧ ¬ badReg fv a3 4)
def BadIns (fv a1 a2 a3 a4 : Int) : Prop := badReg fv a1 1 ∨ badReg fv a2 2 ∨ badReg fv a3 4 ∨ a4 < lowT fv ∨ a4 > highT fv
set_option maxHeartbeats 8000000 in
set_option maxRecDepth 100000 in
theorem isa_Encode.calls_in (a0 a1 a2 a3 a4 fv : Int) (r1 r2 : Int) (w : World) (h0 : 0 ≤ a0) (h22 : a0 < 22) (Hhas : Aside0 (isa_has.f a0 = some fv))
    (Hbad : Aside0 (BadIns fv a1 a2 a3 a4 → r1 = 0 ∧ r2 = 11)) (Hgood : Aside0 (¬ BadIns fv a1 a2 a3 a4 → r1 = encW a0 a1 a2 a3 a4 ∧ r2 = 0)) :
    Calls Tryd.prog 70 #[.agg #[.int .i8 a0, .int .i8 a1, .int .i8 a2, .int .i8 a3, .int .i64 a4]] w fun e w' => e = .returned (.tuple #[.int .u32 r1, .int .i64 r2]) ∧ Below w.heap.size w w' := by
  have i0 : ∀ W, (Instr.index 159 (.agg #[.int .i8 a1, .int .i8 a2, .int .i8 a3]) (.int .i64 0)).run Tryd.prog W = .ok (.int .i8 a1) W := fun _ => by kernel_rfl
  have i1 : ∀ W, (Instr.index 159 (.agg #[.int .i8 a1, .int .i8 a2, .int .i8 a3]) (.int .i64 1)).run Tryd.prog W = .ok (.int .i8 a2) W := fun _ => by kernel_rfl
  have i2 : ∀ W, (Instr.index 159 (.agg #[.int .i8 a1, .int .i8 a2, .int .i8 a3]) (.int .i64 2)).run Tryd.prog W = .ok (.int .i8 a3) W := fun _ => by kernel_rfl
  go_enter Tryd.func70, Tryd.ntmps70
  go_wp2_with (first | ((with_reducible refine gate_dst (N := 1) rfl ?_); refine box_event ?hg (N := 1) ?hd (cs := #[.int .i8 a0, .int .i8 a1, .int .i8 a2, .int .i8 a3, .int .i64 a4]) (t := 127) ?hr ?_; (case hd => rfl); (case hg => rfl); (case hr => first | (go_simp; done) | (go_simp; rfl)); intro g0 hge0 w1 BK1 hb1; have HB := Aside0.mk (below_then (Below.refl w.heap.size w) (Nat.le_refl _) hb1); have BK := Aside0.mk BK1; have GE0 := Aside0.mk (show w.heap.size ≤ g0 by omega); clear BK1 hb1 hge0; obtain ⟨q0, q1, q2, q3, q4⟩ := cells5 BK.out) | (go_at_call 69; refine (isa_has.calls a0 fv _ Hhas.out).mono ?_; rintro e w2 ⟨rfl, hb⟩; have HBn := Aside0.mk (below_then HB.out HB.out.size hb); have BKn := Aside0.mk (blk_below BK.out hb); clear HB BK hb q0 q1 q2 q3 q4; have HB := HBn; have BK := BKn; clear HBn BKn; obtain ⟨q0, q1, q2, q3, q4⟩ := cells5 BK.out) | ((with_reducible refine gate_dst (N := 5) rfl ?_); refine box_event ?hg (N := 5) ?hd (cs := #[.int .i8 0, .int .i8 0, .int .i8 0]) (t := 159) ?hr ?_; (case hd => rfl); (case hg => rfl); (case hr => first | (go_simp; done) | (go_simp; rfl)); intro g1 hge1 w3 BR1 hb; have HBn := Aside0.mk (below_then HB.out HB.out.size hb); have BKn := Aside0.mk (blk_below BK.out hb); have BR := Aside0.mk BR1; have NE := Aside0.mk (show g0 ≠ g1 by have := blk_lt BK.out; omega); have GE1 := Aside0.mk (show w.heap.size ≤ g1 by have := HB.out.size; omega); clear HB BK hb q0 q1 q2 q3 q4 BR1 hge1; have HB := HBn; have BK := BKn; clear HBn BKn; obtain ⟨q0, q1, q2, q3, q4⟩ := cells5 BK.out) | ((with_reducible refine gate_store (t := 159) rfl ?_); refine wpList_store_whole rfl rfl rfl g1 _ #[.int .i8 a1, .int .i8 a2, .int .i8 a3] _ rfl (by rfl) BR.out (by kernel_rfl) (by rfl) (arr3_one _ _ _) ?_; intro w4 hp; have HBn := Aside0.mk (hp.below HB.out GE1.out); have BKn := Aside0.mk ((hp.far g0 NE.out).trans BK.out); have BRn := Aside0.mk hp.blk; clear HB BK BR hp q0 q1 q2 q3 q4; have HB := HBn; have BK := BKn; have BR := BRn; clear HBn BKn BRn; obtain ⟨q0, q1, q2, q3, q4⟩ := cells5 BK.out) | ((with_reducible refine gate_dst (N := 28) rfl ?_); refine wpList_load_row rfl 159 _ rfl g1 rfl 159 _ (0, 0) _ BR.out Tryd.underlying159 rfl (by kernel_rfl) ?_))
  go_loop [29] (fun i => RegRel fv a1 a2 a3 i) (fun i => 3 - (intOf i).toNat)
  case atStart => exact .inl rfl
  case round =>
    rcases hrel with rfl | ⟨rfl, hg1⟩ | ⟨rfl, hg1, hg2⟩ | ⟨rfl, hg1, hg2, hg3⟩
    · -- register 0
      by_cases c1 : a1 < 0
      · have hbd : badReg fv a1 1 := .inl c1
        have Hbd := Aside0.mk (show BadIns fv a1 a2 a3 a4 from .inl hbd)
        clear hbd
        go_wp2
        go_ret2
        exact ⟨by obtain ⟨rfl, rfl⟩ := Hbad.out Hbd.out; rfl, HB.out⟩
      by_cases c2 : 16 ≤ a1
      · have hbd : badReg fv a1 1 := .inr (.inl c2)
        have Hbd := Aside0.mk (show BadIns fv a1 a2 a3 a4 from .inl hbd)
        clear hbd
        go_wp2
        go_ret2
        exact ⟨by obtain ⟨rfl, rfl⟩ := Hbad.out Hbd.out; rfl, HB.out⟩
      by_cases c3 : a1 = 0
      · have HG := Aside0.mk (show ¬ badReg fv a1 1 from fun h => by rcases h with h | h | h <;> omega)
        have e1 : (a1 != 0) = false := by simp [c3]
        clear c3
        go_wp2
        go_round
        case rel => exact .inr (.inl ⟨rfl, HG.out⟩)
        case measure => simp [intOf]
      have e1 : (a1 != 0) = true := by simp [c3]
      by_cases c4 : Go.bits .and .i64 fv 1 = 0
      · have hbd : badReg fv a1 1 := .inr (.inr ⟨c3, c4⟩)
        have Hbd := Aside0.mk (show BadIns fv a1 a2 a3 a4 from .inl hbd)
        have e2 : (Go.bits .and .i64 fv 1 == 0) = true := by simp [c4]
        clear hbd c3 c4
        go_wp2
        go_ret2
        exact ⟨by obtain ⟨rfl, rfl⟩ := Hbad.out Hbd.out; rfl, HB.out⟩
      have HG := Aside0.mk (show ¬ badReg fv a1 1 from fun h => by rcases h with h | h | h <;> first | omega | exact c4 h.2)
      have e2 : (Go.bits .and .i64 fv 1 == 0) = false := by simp [c4]
      clear c3 c4
      go_wp2
      go_round
      case rel => exact .inr (.inl ⟨rfl, HG.out⟩)
      case measure => simp [intOf]
    · -- register 1
      have H1 := Aside0.mk hg1
      clear hg1
      by_cases c1 : a2 < 0
      · have hbd : badReg fv a2 2 := .inl c1
        have Hbd := Aside0.mk (show BadIns fv a1 a2 a3 a4 from .inr (.inl hbd))
        clear hbd
        go_wp2
        go_ret2
        exact ⟨by obtain ⟨rfl, rfl⟩ := Hbad.out Hbd.out; rfl, HB.out⟩
      by_cases c2 : 16 ≤ a2
      · have hbd : badReg fv a2 2 := .inr (.inl c2)
        have Hbd := Aside0.mk (show BadIns fv a1 a2 a3 a4 from .inr (.inl hbd))
        clear hbd
        go_wp2
        go_ret2
        exact ⟨by obtain ⟨rfl, rfl⟩ := Hbad.out Hbd.out; rfl, HB.out⟩
      by_cases c3 : a2 = 0
      · have HG := Aside0.mk (show ¬ badReg fv a2 2 from fun h => by rcases h with h | h | h <;> omega)
        have e1 : (a2 != 0) = false := by simp [c3]
        clear c3
        go_wp2
        go_round
        case rel => exact .inr (.inr (.inl ⟨rfl, H1.out, HG.out⟩))
        case measure => simp [intOf]
      have e1 : (a2 != 0) = true := by simp [c3]
      by_cases c4 : Go.bits .and .i64 fv 2 = 0
      · have hbd : badReg fv a2 2 := .inr (.inr ⟨c3, c4⟩)
        have Hbd := Aside0.mk (show BadIns fv a1 a2 a3 a4 from .inr (.inl hbd))
        have e2 : (Go.bits .and .i64 fv 2 == 0) = true := by simp [c4]
        clear hbd c3 c4
        go_wp2
        go_ret2
        exact ⟨by obtain ⟨rfl, rfl⟩ := Hbad.out Hbd.out; rfl, HB.out⟩
      have HG := Aside0.mk (show ¬ badReg fv a2 2 from fun h => by rcases h with h | h | h <;> first | omega | exact c4 h.2)
      have e2 : (Go.bits .and .i64 fv 2 == 0) = false := by simp [c4]
      clear c3 c4
      go_wp2
      go_round
      case rel => exact .inr (.inr (.inl ⟨rfl, H1.out, HG.out⟩))
      case measure => simp [intOf]
    · -- register 2
      have H1 := Aside0.mk hg1
      have H2 := Aside0.mk hg2
      clear hg1 hg2
      by_cases c1 : a3 < 0
      · have hbd : badReg fv a3 4 := .inl c1
        have Hbd := Aside0.mk (show BadIns fv a1 a2 a3 a4 from .inr (.inr (.inl hbd)))
        clear hbd
        go_wp2
        go_ret2
        exact ⟨by obtain ⟨rfl, rfl⟩ := Hbad.out Hbd.out; rfl, HB.out⟩
      by_cases c2 : 16 ≤ a3
      · have hbd : badReg fv a3 4 := .inr (.inl c2)
        have Hbd := Aside0.mk (show BadIns fv a1 a2 a3 a4 from .inr (.inr (.inl hbd)))
        clear hbd
        go_wp2
        go_ret2
        exact ⟨by obtain ⟨rfl, rfl⟩ := Hbad.out Hbd.out; rfl, HB.out⟩
      by_cases c3 : a3 = 0
      · have HG := Aside0.mk (show ¬ badReg fv a3 4 from fun h => by rcases h with h | h | h <;> omega)
        have e1 : (a3 != 0) = false := by simp [c3]
        clear c3
        go_wp2
        go_round
        case rel => exact .inr (.inr (.inr ⟨rfl, H1.out, H2.out, HG.out⟩))
        case measure => simp [intOf]
      have e1 : (a3 != 0) = true := by simp [c3]
      by_cases c4 : Go.bits .and .i64 fv 4 = 0
      · have hbd : badReg fv a3 4 := .inr (.inr ⟨c3, c4⟩)
        have Hbd := Aside0.mk (show BadIns fv a1 a2 a3 a4 from .inr (.inr (.inl hbd)))
        have e2 : (Go.bits .and .i64 fv 4 == 0) = true := by simp [c4]
        clear hbd c3 c4
        go_wp2
        go_ret2
        exact ⟨by obtain ⟨rfl, rfl⟩ := Hbad.out Hbd.out; rfl, HB.out⟩
      have HG := Aside0.mk (show ¬ badReg fv a3 4 from fun h => by rcases h with h | h | h <;> first | omega | exact c4 h.2)
      have e2 : (Go.bits .and .i64 fv 4 == 0) = false := by simp [c4]
      clear c3 c4
      go_wp2
      go_round
      case rel => exact .inr (.inr (.inr ⟨rfl, H1.out, H2.out, HG.out⟩))
      case measure => simp [intOf]
    · have b1 : 0 ≤ a1 ∧ a1 < 16 := by unfold badReg at hg1; omega
      have b2 : 0 ≤ a2 ∧ a2 < 16 := by unfold badReg at hg2; omega
      have b3 : 0 ≤ a3 ∧ a3 < 16 := by unfold badReg at hg3; omega
      obtain ⟨b1l, b1h⟩ := b1
      obtain ⟨b2l, b2h⟩ := b2
      obtain ⟨b3l, b3h⟩ := b3
      have H1 := Aside0.mk hg1
      have H2 := Aside0.mk hg2
      have H3 := Aside0.mk hg3
      clear hg1 hg2 hg3 i0 i1 i2
      by_cases c5 : Go.bits .and .i64 fv 16 = 0
      · have e5 : (Go.bits .and .i64 fv 16 != 0) = false := by simp [c5]
        by_cases c6 : Go.bits .and .i64 fv 8 = 0
        · have e6 : (Go.bits .and .i64 fv 8 != 0) = false := by simp [c6]
          have HL := Aside0.mk (show lowT fv = 0 from by simp [lowT, *])
          have HH := Aside0.mk (show highT fv = 0 from by simp [highT, *])
          clear c5 c6
          by_cases c7 : a4 < 0
          · have Hbd := Aside0.mk (show BadIns fv a1 a2 a3 a4 from .inr (.inr (.inr (.inl (by rw [HL.out]; exact c7)))))
            go_wp2
            go_ret2
            exact ⟨by obtain ⟨rfl, rfl⟩ := Hbad.out Hbd.out; rfl, HB.out⟩
          by_cases c8 : a4 > 0
          · have Hbd := Aside0.mk (show BadIns fv a1 a2 a3 a4 from .inr (.inr (.inr (.inr (by rw [HH.out]; exact c8)))))
            go_wp2
            go_ret2
            exact ⟨by obtain ⟨rfl, rfl⟩ := Hbad.out Hbd.out; rfl, HB.out⟩
          have Hgd := Aside0.mk (show ¬ BadIns fv a1 a2 a3 a4 from fun h => by rcases h with h | h | h | h | h <;> first | exact H1.out h | exact H2.out h | exact H3.out h | (rw [HL.out] at h; omega) | (rw [HH.out] at h; omega))
          have c7' : 0 ≤ a4 := by omega
          have c8' : a4 ≤ 0 := by omega
          clear c7 c8
          go_wp2
          go_ret2
          obtain ⟨rfl, rfl⟩ := Hgood.out Hgd.out
          exact ⟨by unfold encW; first | rfl | (rw [show a4 % 4294967296 = a4 by omega]; rfl), HB.out⟩
        · have e6 : (Go.bits .and .i64 fv 8 != 0) = true := by simp [c6]
          have HL := Aside0.mk (show lowT fv = (-16384) from by simp [lowT, *])
          have HH := Aside0.mk (show highT fv = 16383 from by simp [highT, *])
          clear c5 c6
          by_cases c7 : a4 < (-16384)
          · have Hbd := Aside0.mk (show BadIns fv a1 a2 a3 a4 from .inr (.inr (.inr (.inl (by rw [HL.out]; exact c7)))))
            go_wp2
            go_ret2
            exact ⟨by obtain ⟨rfl, rfl⟩ := Hbad.out Hbd.out; rfl, HB.out⟩
          by_cases c8 : a4 > 16383
          · have Hbd := Aside0.mk (show BadIns fv a1 a2 a3 a4 from .inr (.inr (.inr (.inr (by rw [HH.out]; exact c8)))))
            go_wp2
            go_ret2
            exact ⟨by obtain ⟨rfl, rfl⟩ := Hbad.out Hbd.out; rfl, HB.out⟩
          have Hgd := Aside0.mk (show ¬ BadIns fv a1 a2 a3 a4 from fun h => by rcases h with h | h | h | h | h <;> first | exact H1.out h | exact H2.out h | exact H3.out h | (rw [HL.out] at h; omega) | (rw [HH.out] at h; omega))
          have c7' : (-16384) ≤ a4 := by omega
          have c8' : a4 ≤ 16383 := by omega
          clear c7 c8
          go_wp2
          go_ret2
          obtain ⟨rfl, rfl⟩ := Hgood.out Hgd.out
          exact ⟨by unfold encW; first | rfl | (rw [show a4 % 4294967296 = a4 by omega]; rfl), HB.out⟩
      · have e5 : (Go.bits .and .i64 fv 16 != 0) = true := by simp [c5]
        have HL := Aside0.mk (show lowT fv = 0 from by simp [lowT, *])
        have HH := Aside0.mk (show highT fv = 16383 from by simp [highT, *])
        clear c5
        by_cases c7 : a4 < 0
        · have Hbd := Aside0.mk (show BadIns fv a1 a2 a3 a4 from .inr (.inr (.inr (.inl (by rw [HL.out]; exact c7)))))
          go_wp2
          go_ret2
          exact ⟨by obtain ⟨rfl, rfl⟩ := Hbad.out Hbd.out; rfl, HB.out⟩
        by_cases c8 : a4 > 16383
        · have Hbd := Aside0.mk (show BadIns fv a1 a2 a3 a4 from .inr (.inr (.inr (.inr (by rw [HH.out]; exact c8)))))
          go_wp2
          go_ret2
          exact ⟨by obtain ⟨rfl, rfl⟩ := Hbad.out Hbd.out; rfl, HB.out⟩
        have Hgd := Aside0.mk (show ¬ BadIns fv a1 a2 a3 a4 from fun h => by rcases h with h | h | h | h | h <;> first | exact H1.out h | exact H2.out h | exact H3.out h | (rw [HL.out] at h; omega) | (rw [HH.out] at h; omega))
        have c7' : 0 ≤ a4 := by omega
        have c8' : a4 ≤ 16383 := by omega
        clear c7 c8
        go_wp2
        go_ret2
        obtain ⟨rfl, rfl⟩ := Hgood.out Hgd.out
        exact ⟨by unfold encW; first | rfl | (rw [show a4 % 4294967296 = a4 by omega]; rfl), HB.out⟩

instance (f r m : Int) : Decidable (badReg f r m) := by unfold badReg; infer_instance
instance (f a1 a2 a3 a4 : Int) : Decidable (BadIns f a1 a2 a3 a4) := by unfold BadIns; infer_instance
def isa_Encode.f (a0 a1 a2 a3 a4 : Int) : Option (Int × Int) :=
  if a0 < 0 then (some (0, 10)) else (if a0 ≥ 22 then (some (0, 10)) else (if BadIns (hasT a0) a1 a2 a3 a4 then (some (0, 11)) else (some (encW a0 a1 a2 a3 a4, 0))))
set_option maxHeartbeats 1000000 in
set_option maxRecDepth 100000 in
theorem isa_Encode.calls_out (a0 a1 a2 a3 a4 : Int) (w : World) (h : a0 < 0 ∨ 22 ≤ a0) :
    Calls Tryd.prog 70 #[.agg #[.int .i8 a0, .int .i8 a1, .int .i8 a2, .int .i8 a3, .int .i64 a4]] w fun e w' => e = .returned (.tuple #[.int .u32 0, .int .i64 10]) ∧ Below w.heap.size w w' := by
  rcases h with h | h
  · go_enter Tryd.func70, Tryd.ntmps70
    go_wp2
    go_ret2
    exact ⟨rfl, (Below.refl _ _).alloc (Nat.le_refl _) _⟩
  · have h2 : ¬ a0 < 0 := by omega
    go_enter Tryd.func70, Tryd.ntmps70
    go_wp2
    go_ret2
    exact ⟨rfl, (Below.refl _ _).alloc (Nat.le_refl _) _⟩
theorem isa_Encode.calls (a0 a1 a2 a3 a4 : Int) (r1 r2 : Int) (w : World) (h : isa_Encode.f a0 a1 a2 a3 a4 = some (r1, r2)) :
    Calls Tryd.prog 70 #[.agg #[.int .i8 a0, .int .i8 a1, .int .i8 a2, .int .i8 a3, .int .i64 a4]] w fun e w' => e = .returned (.tuple #[.int .u32 r1, .int .i64 r2]) ∧ Below w.heap.size w w' := by
  unfold isa_Encode.f at h
  by_cases c1 : a0 < 0
  · rw [if_pos c1] at h
    injection h with h
    injection h with h1 h2
    subst h1 h2
    exact isa_Encode.calls_out a0 a1 a2 a3 a4 w (.inl c1)
  rw [if_neg c1] at h
  by_cases c2 : a0 ≥ 22
  · rw [if_pos c2] at h
    injection h with h
    injection h with h1 h2
    subst h1 h2
    exact isa_Encode.calls_out a0 a1 a2 a3 a4 w (.inr c2)
  rw [if_neg c2] at h
  refine isa_Encode.calls_in a0 a1 a2 a3 a4 (hasT a0) r1 r2 w (by omega) (by omega) ⟨by unfold isa_has.f; rw [if_neg c1, if_neg c2]⟩ ⟨fun hb => ?_⟩ ⟨fun hb => ?_⟩
  · rw [if_pos hb] at h
    injection h with h
    injection h with h1 h2
    exact ⟨h1.symm, h2.symm⟩
  · rw [if_neg hb] at h
    injection h with h
    injection h with h1 h2
    exact ⟨h1.symm, h2.symm⟩

end Go.Proofs.YtiaohbbafaaibabDoor.P
