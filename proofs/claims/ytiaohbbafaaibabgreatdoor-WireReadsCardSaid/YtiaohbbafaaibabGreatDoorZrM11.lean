/- OWN TEXT and printed parts of this claim, laid together: HApKSymbols, HApKRelocs, HApE, HApG, HEqO. -/
import Derived.Test.YtiaohbbafaaibabGreatDoorZrM10
import Derived.StillTailTactics
import Derived.Test.YtiaohbbafaaibabGreatDoorZrM8
import Derived.Test.YtiaohbbafaaibabGreatDoorZrM3
import Derived.Test.YtiaohbbafaaibabGreatDoorZrM0
import Derived.Test.YtiaohbbafaaibabGreatDoorZrM9
/- OWN TEXT: Bag.apartSymbols, walked: lists that share no memory. -/
namespace Go.Proofs.YtiaohbbafaaibabGreatDoor.P
open Go.RowKit Go.Proofs.YtiaohbbafaaibabGreatDoorW.PrintWords Go.Proofs.YtiaohbbafaaibabGreatDoorW.PrintLast Go.Proofs.YtiaohbbafaaibabGreatDoorW.PrintMore Go.Proofs.YtiaohbbafaaibabGreatDoor.Arr
set_option linter.unusedVariables false
set_option linter.unusedSimpArgs false
theorem onemkSymbols (q i : Nat) : ((#[.string ⟨#[]⟩, .int .i8 0, .int .i64 (numI q i)] : Array Value).all fun v => v.oneCell') = true := by kernel_rfl
def mkSymbols (n i : Nat) : List Value := [.string ⟨#[]⟩, .int .i8 0, .int .i64 (numI n i)]
theorem mkSymbols_len (n i : Nat) : (mkSymbols n i).length = 3 := rfl
theorem mkSymbols_one (n i : Nat) : ∀ u ∈ mkSymbols n i, u.oneCell' = true := by
 intro u hu
 simp only [mkSymbols, List.mem_cons, List.not_mem_nil, or_false] at hu
 rcases hu with rfl | rfl | rfl <;> rfl
theorem info_ap24 : (Tryz.prog.info? 24).map (fun i => (i.zero, i.size, i.bytes)) = some (some (.slice none 0 0), 1, 24) := by kernel_rfl
set_option maxHeartbeats 60000000 in
set_option maxRecDepth 100000 in
theorem apSymbols.calls (w0 w : World) (g o_ : Nat) (cg co : Array Value) (M capO : Nat) (A : Nat → Option Addr) (L C : Nat → Nat) (own : Nat → Nat) (hbag : w.heap[g]? = some (.cells cg 56 (0, 0))) (hc : cg[8]? = some (.slice (some ⟨o_, 0, none⟩) M capO)) (ho : w.heap[o_]? = some (.cells co 24 (0, 0))) (hco : ∀ m, m < M → co[m]? = some (.slice (A m) (L m) (C m))) (hM : M ≤ 300) (hL : ∀ m, L m ≤ 1000000000) (low : Below w0.heap.size w0 w) (hrows : ∀ m, m < M → Fl w w0.heap.size 65 3 own mkSymbols m (A m) (L m) (C m) 0) :
  Calls Tryz.prog 48 #[.pointer (some ⟨g, 0, none⟩)] w fun e w' => e = .returned (.bool true) ∧ St w0 w w' 65 := by
 have hu1 := Tryz.underlying65
 have HBAG := Aside0.mk hbag
 have HC := Aside0.mk hc
 have HO := Aside0.mk ho
 have HCO := Aside0.mk hco
 have HM := Aside0.mk hM
 have HL := Aside0.mk hL
 have HP := Aside0.mk (P1.start (St.refl low) hrows)
 clear hbag hc ho hco hM hL low hrows
 go_enter Tryz.func48, Tryz.ntmps48
 go_wp2
 go_loopw [3] (fun u3 wr => ∃ n : Nat, u3 = .int .i64 (n : Int) ∧ n ≤ M ∧ Aside0 (P1 65 3 mkSymbols w0 w wr M A L C own n 0)) (fun u3 _ => M - (intOf u3).toNat)
 case atStart => exact ⟨0, rfl, Nat.zero_le _, HP⟩
 case round =>
  clear HP
  obtain ⟨n, rfl, hnle, HP⟩ := hrel
  have hb0 := (blk_cell (HP.out.1.blk HBAG.out (by decide)) 8).trans HC.out
  by_cases hlt : n < M
  ·
   have HN := Aside0.mk hlt
   have hltb : decide ((n : Int) < (M : Int)) = true := decide_eq_true (by omega)
   have p0t : ((0 : Int) ≤ (n : Int)) = True := eq_true (by omega)
   have q0t : ((n : Int) < (M : Int)) = True := eq_true (by omega)
   have bn : (n : Int) ≤ 300 := by have := HM.out; omega
   have hv0 := (blk_cell (HP.out.1.blk HO.out (by decide)) n).trans (HCO.out n HN.out)
   clear hlt hnle
   go_wp2
   go_loopw [4] (fun u4 wr => ∃ i : Nat, u4 = .int .i64 (i : Int) ∧ i ≤ L n ∧ Aside0 (P1 65 3 mkSymbols w0 w wr M A L C own n i)) (fun u4 _ => L n - (intOf u4).toNat)
   case atStart => exact ⟨0, rfl, Nat.zero_le _, HP⟩
   case round =>
    clear HP hb0 hv0
    obtain ⟨i, rfl, hile, HP⟩ := hrel
    have hb0 := (blk_cell (HP.out.1.blk HBAG.out (by decide)) 8).trans HC.out
    have hv0 := (blk_cell (HP.out.1.blk HO.out (by decide)) n).trans (HCO.out n HN.out)
    by_cases hli : i < L n
    ·
     have HI := Aside0.mk hli
     have hlib : decide ((i : Int) < (L n : Int)) = true := decide_eq_true (by omega)
     have p1t : ((0 : Int) ≤ (i : Int)) = True := eq_true (by omega)
     have q1t : ((i : Int) < (L n : Int)) = True := eq_true (by omega)
     have bi : (i : Int) ≤ 2000000000 := by have := HL.out n; omega
     obtain ⟨b, cs, hA, hblk, hown, hB, hcs, hlc⟩ := (HP.out.now HN.out).blk (by omega)
     have hsz : i * 3 + 3 ≤ cs.size := by rw [hcs]; have := Nat.mul_le_mul_right 3 (show i + 1 ≤ C n by omega); omega
     have HF := Aside0.mk (And.intro hA (And.intro hblk (And.intro hown (And.intro hB (And.intro hsz hlc)))))
     rw [hA] at hv0
     have bn2 : (n : Int) ≤ 300 := bn
     clear hA hown hB hcs hlc hli hile
     go_wp2
     go_still_tail 13, (by kernel_rfl)
     still_call (numS n i _ bn2 bi)
     repeat still_step
     refine wpStill_nil ?_
     change wpList _ _ _ _ _ wr.drew
     have HPd := Aside0.mk (HP.out.below (below_drew (Below.refl _ _)))
     have hblkd : wr.drew.heap[b]? = some (.cells cs 65 (0, 0)) := hblk
     obtain ⟨old0, hold0⟩ : ∃ old, cs[(i * 3)]? = some old := ⟨_, Array.getElem?_eq_getElem (by omega)⟩
     have hcl0 := (blk_cell hblkd (i * 3)).trans hold0
     have hfz0 := blk_frozen hblkd (i * 3)
     obtain ⟨old1, hold1⟩ : ∃ old, cs[(i * 3 + 1)]? = some old := ⟨_, Array.getElem?_eq_getElem (by omega)⟩
     have hcl1 := (blk_cell hblkd (i * 3 + 1)).trans hold1
     have hfz1 := blk_frozen hblkd (i * 3 + 1)
     obtain ⟨old2, hold2⟩ : ∃ old, cs[(i * 3 + 2)]? = some old := ⟨_, Array.getElem?_eq_getElem (by omega)⟩
     have hcl2 := (blk_cell hblkd (i * 3 + 2)).trans hold2
     have hfz2 := blk_frozen hblkd (i * 3 + 2)
     clear HP hblk hsz bn2 hold0 hold1 hold2 hb0 hv0
     generalize wr.drew = w2 at HPd hblkd hcl0 hfz0 hcl1 hfz1 hcl2 hfz2 ⊢
     have HBK := Aside0.mk hblkd
     clear hblkd
     go_wp2
     go_roundw
     case measure => have hq := HI.out; simp only [intOf]; omega
     case rel => exact ⟨i + 1, by first | rfl | go_num, by have := HI.out; omega, ⟨HPd.out.put HN.out mkSymbols_len HF.out.1 HF.out.2.2.1 HF.out.2.2.2.1 HI.out (set_cells_wrote HBK.out (mkSymbols_len n i) HF.out.2.2.2.2.1)⟩⟩
    ·
     have hie : i = L n := by omega
     subst hie
     have hlib : decide ((L n : Int) < (L n : Int)) = false := by simp
     clear hli hile
     go_wp2
     go_roundw
     case measure => have hq := HN.out; simp only [intOf]; omega
     case rel => exact ⟨n + 1, by first | rfl | go_num, by have := HN.out; omega, ⟨HP.out.next⟩⟩
  ·
   have hne : n = M := by omega
   subst hne
   have hltb : decide ((n : Int) < (n : Int)) = false := by simp
   have HP2 := Aside0.mk (show ∃ own, P2 65 24 3 mkSymbols w0 w _ n A L C own 0 0 (.slice none 0 0) (.slice none 0 0) from ⟨own, HP.out.1, HP.out.full, Col.nil, Col.nil, fun k hk => by simp [Value.ownBlock] at hk⟩)
   clear hlt hnle HP
   go_wp2
   go_loopw [5, 6, 7] (fun u5 u6 u7 wr => ∃ m : Nat, u7 = .int .i64 (m : Int) ∧ m ≤ n ∧ Aside0 (∃ own, P2 65 24 3 mkSymbols w0 w wr n A L C own m m u5 u6)) (fun _ _ u7 _ => n - (intOf u7).toNat)
   case atStart => exact ⟨0, rfl, Nat.zero_le _, HP2⟩
   case round =>
    clear HP2
    obtain ⟨m, rfl, hmle, HP⟩ := hrel
    obtain ⟨own1, hP⟩ := HP.out
    clear HP
    have HP := Aside0.mk hP
    clear hP
    have hb0 := (blk_cell (HP.out.st.blk HBAG.out (by decide)) 8).trans HC.out
    obtain ⟨A5, c5, e5⟩ := HP.out.one.form
    obtain ⟨A6, c6, e6⟩ := HP.out.more.form
    subst e5 e6
    by_cases hlt : m < n
    ·
     have HN := Aside0.mk hlt
     have hltb : decide ((m : Int) < (n : Int)) = true := decide_eq_true (by omega)
     have p0t : ((0 : Int) ≤ (m : Int)) = True := eq_true (by omega)
     have q0t : ((m : Int) < (n : Int)) = True := eq_true (by omega)
     have bn : (m : Int) ≤ 300 := by have := HM.out; omega
     have bl : ((L m : Nat) : Int) ≤ 1000000000 := by have := HL.out m; omega
     have hv0 := (blk_cell (HP.out.st.blk HO.out (by decide)) m).trans (HCO.out m HN.out)
     clear hlt hmle
     go_wp2
     go_loopw [5, 8, 9] (fun u5 u8 u9 wr => ∃ i : Nat, u9 = .int .i64 (i : Int) ∧ L m ≤ i ∧ i ≤ L m + 70 ∧ ∃ Al cap, u8 = .slice Al i cap ∧ Aside0 (∃ own, P2 65 24 3 mkSymbols w0 w wr n A L C own (if i = L m then m else m + 1) m u5 (.slice A6 m c6) ∧ Fl wr w0.heap.size 65 3 own mkSymbols m Al i cap i)) (fun _ _ u9 _ => L m + 70 - (intOf u9).toNat)
     case atStart => exact ⟨L m, rfl, Nat.le_refl _, by omega, A m, C m, rfl, ⟨own1, by rw [if_pos rfl]; exact HP.out, HP.out.rows m HN.out⟩⟩
     case round =>
      clear HP hb0 hv0
      obtain ⟨i, rfl, hlo, hile, Al, cap, rfl, HP⟩ := hrel
      obtain ⟨own2, hP, hF⟩ := HP.out
      clear HP
      have HP := Aside0.mk (And.intro hP hF)
      clear hP hF
      have hb0 := (blk_cell (HP.out.1.st.blk HBAG.out (by decide)) 8).trans HC.out
      have hv0 := (blk_cell (HP.out.1.st.blk HO.out (by decide)) m).trans (HCO.out m HN.out)
      obtain ⟨A5, c5, e5⟩ := HP.out.1.one.form
      subst e5
      have bi : (i : Int) ≤ 2000000000 := by have := HL.out m; omega
      have HILE := Aside0.mk hile
      have BB := Aside0.mk (And.intro bn bi)
      by_cases hli : i < L m + 70
      ·
       have HI := Aside0.mk hli
       have hlib : decide ((i : Int) < (L m : Int) + 70) = true := decide_eq_true (by omega)
       clear hli hile
       by_cases hie : i = L m
       ·
        subst_vars
        have heq : ((L m : Int) == (L m : Int)) = true := beq_self_eq_true _
        rw [if_pos rfl] at HP ⊢
        clear hlo
        go_wp2_with (first | (go_at_call 79; refine (numS m (L m) _ BB.out.1 BB.out.2).mono ?_; rintro e_ w_ ⟨rfl, rfl⟩) | ((with_reducible refine gate_builtin (b := .append) (xs := #[.tmp 79, .tmp 84]) rfl ?_); at_builtin; refine P2.app_l HP.out.1 (by decide) mkSymbols_len mkSymbols_one rfl (.tmp 79) (.tmp 84) 24 rfl (.agg #[.string ⟨#[]⟩, .int .i8 0, .int .i64 0]) 32 Tryz.underlying24 info65 rfl (by decide) HP.out.2 rfl rfl (by have := HILE.out; have := HL.out m; omega) (by decide) _ rfl ?_; intro A1 cap1 own3 w1 hP1 hF1; have HP1 := Aside0.mk (And.intro hP1 hF1); have hb1 := (blk_cell (hP1.st.blk HBAG.out (by decide)) 8).trans HC.out; have hv1 := (blk_cell (hP1.st.blk HO.out (by decide)) m).trans (HCO.out m HN.out); clear hP1 hF1 hb0 hv0 HP) | ((with_reducible refine gate_builtin (b := .append) (xs := #[.tmp 96, .tmp 98]) rfl ?_); at_builtin; refine P2.app_one HP1.out.1 (by decide) rfl (.tmp 96) (.tmp 98) 46 rfl Tryz.underlying46 info_ap24 rfl rfl (by have := HN.out; have := HM.out; omega) HP1.out.2 ?_; intro v1 w2 hP2 hmv; have HP2 := Aside0.mk (And.intro hP2 (hmv _ _ _ _ _ HP1.out.2)); clear hP2 hmv hb1 hv1 HP1))
        go_roundw
        case measure => simp only [intOf]; omega
        case rel => exact ⟨L m + 1, by first | rfl | go_num, by omega, by omega, _, _, rfl, ⟨_, by rw [if_neg (by omega)]; exact HP2.out.1, HP2.out.2⟩⟩
       ·
        have hieb : ((i : Int) == (L m : Int)) = false := beq_eq_false_iff_ne.mpr (by omega)
        have HNE := Aside0.mk hie
        rw [if_neg hie] at HP ⊢
        have HLO := Aside0.mk hlo
        clear hlo hie
        go_wp2_with (first | (go_at_call 79; refine (numS m i _ BB.out.1 BB.out.2).mono ?_; rintro e_ w_ ⟨rfl, rfl⟩) | ((with_reducible refine gate_builtin (b := .append) (xs := #[.tmp 79, .tmp 84]) rfl ?_); at_builtin; refine P2.app_l HP.out.1 (by decide) mkSymbols_len mkSymbols_one rfl (.tmp 79) (.tmp 84) 24 rfl (.agg #[.string ⟨#[]⟩, .int .i8 0, .int .i64 0]) 32 Tryz.underlying24 info65 rfl (by decide) HP.out.2 rfl rfl (by have := HILE.out; have := HL.out m; omega) (by decide) _ rfl ?_; intro A1 cap1 own3 w1 hP1 hF1; have HP1 := Aside0.mk (And.intro hP1 hF1); have hb1 := (blk_cell (hP1.st.blk HBAG.out (by decide)) 8).trans HC.out; have hv1 := (blk_cell (hP1.st.blk HO.out (by decide)) m).trans (HCO.out m HN.out); clear hP1 hF1 hb0 hv0 HP))
        go_roundw
        case measure => have hq := HI.out; simp only [intOf]; omega
        case rel => exact ⟨i + 1, by first | rfl | go_num, by have := HLO.out; omega, by have := HI.out; omega, _, _, rfl, ⟨_, by rw [if_neg (by have := HLO.out; omega)]; exact HP1.out.1, HP1.out.2⟩⟩
      ·
       have hie : i = L m + 70 := by omega
       subst hie
       have hlib : decide (((L m + 70 : Nat) : Int) < (L m : Int) + 70) = false := decide_eq_false (by omega)
       rw [if_neg (by omega)] at HP ⊢
       clear hlo hile hli
       go_wp2_with (first | ((with_reducible refine gate_builtin (b := .append) (xs := #[.tmp 100, .tmp 102]) rfl ?_); at_builtin; refine P2.app_more HP.out.1 (by decide) rfl (.tmp 100) (.tmp 102) 46 rfl Tryz.underlying46 info_ap24 rfl rfl (by have := HN.out; have := HM.out; omega) HP.out.2 ?_; intro v1 w1 hP1; have HP1 := Aside0.mk hP1; clear hP1 hb0 hv0 HP))
       go_roundw
       case measure => have hq := HN.out; simp only [intOf]; omega
       case rel => exact ⟨m + 1, by first | rfl | go_num, by have := HN.out; omega, ⟨_, HP1.out⟩⟩
    ·
     have hme : m = n := by omega
     subst hme
     have hltb : decide ((m : Int) < (m : Int)) = false := by simp
     clear hlt hmle
     go_wp2
     go_loopw [10] (fun u10 wr => ∃ q : Nat, u10 = .int .i64 (q : Int) ∧ q ≤ m ∧ Aside0 (P2 65 24 3 mkSymbols w0 w wr m A L C own1 m m (.slice A5 m c5) (.slice A6 m c6))) (fun u10 _ => m - (intOf u10).toNat)
     case atStart => exact ⟨0, rfl, Nat.zero_le _, HP⟩
     case round =>
      clear HP hb0
      obtain ⟨q, rfl, hqle, HP⟩ := hrel
      have hb0 := (blk_cell (HP.out.st.blk HBAG.out (by decide)) 8).trans HC.out
      by_cases hlt : q < m
      ·
       have HN := Aside0.mk hlt
       have hltb : decide ((q : Int) < (m : Int)) = true := decide_eq_true (by omega)
       have p0t : ((0 : Int) ≤ (q : Int)) = True := eq_true (by omega)
       have q0t : ((q : Int) < (m : Int)) = True := eq_true (by omega)
       have bn : (q : Int) ≤ 300 := by have := HM.out; omega
       have bl : ((L q : Nat) : Int) ≤ 1000000000 := by have := HL.out q; omega
       have hv0 := (blk_cell (HP.out.st.blk HO.out (by decide)) q).trans (HCO.out q HN.out)
       obtain ⟨g5, x5, B5, y5, e5, hc5, hf5⟩ := HP.out.one.at HN.out
       obtain ⟨g6, x6, B6, y6, e6, hc6, hf6⟩ := HP.out.more.at HN.out
       injection e5 with e51 e52 e53
       injection e6 with e61 e62 e63
       subst e51 e53 e61 e63
       obtain ⟨b5, _, rfl, _⟩ := hf5.blk (by omega)
       obtain ⟨b6, _, rfl, _⟩ := hf6.blk (by omega)
       have HF5 := Aside0.mk hf5
       have HF6 := Aside0.mk hf6
       clear e52 e62 hf5 hf6 hlt hqle
       go_wp2
       have HC5 := Aside0.mk (And.intro hc5 hc6)
       obtain ⟨wq, hwq⟩ : ∃ wq, wq = wr := ⟨_, rfl⟩
       subst hwq
       have HQ0 := Aside0.mk (Below.refl _ _ : Below wq.heap.size wq wq)
       go_loopw [11] (fun u11 wr => ∃ i : Nat, u11 = .int .i64 (i : Int) ∧ i ≤ L q + 70 ∧ Aside0 (Below wq.heap.size wq wr)) (fun u11 _ => L q + 70 - (intOf u11).toNat)
       case atStart => exact ⟨0, rfl, Nat.zero_le _, HQ0⟩
       case round =>
        clear HQ0
        obtain ⟨i, rfl, hile, HQ⟩ := hrel
        have bi : (i : Int) ≤ 2000000000 := by have := HL.out q; omega
        have BB := Aside0.mk (And.intro bn bi)
        by_cases hli : i < L q + 70
        ·
         have HI := Aside0.mk hli
         have hlib : decide ((i : Int) < ((L q + 70 : Nat) : Int)) = true := decide_eq_true (by omega)
         have hlib2 : decide ((i : Int) < (L q : Int) + 70) = true := decide_eq_true (by omega)
         have p1t : ((0 : Int) ≤ (i : Int)) = True := eq_true (by omega)
         have q1t : ((i : Int) < ((L q + 70 : Nat) : Int)) = True := eq_true (by omega)
         have q1u : ((i : Int) < (L q : Int) + 70) = True := eq_true (by omega)
         have hm6_0 := HF6.out.cell hli (j := 0) (u := .string ⟨#[]⟩) rfl
         have hm6_1 := HF6.out.cell hli (j := 1) (u := .int .i8 0) rfl
         have hm6_2 := HF6.out.cell hli (j := 2) (u := .int .i64 (numI q i)) rfl
         by_cases h1 : i < L q
         ·
          have t1 : decide ((i : Int) < (L q : Int)) = true := decide_eq_true (by omega)
          have t2 : ((i : Int) == (L q : Int)) = false := beq_eq_false_iff_ne.mpr (by omega)
          have q2t : ((i : Int) < (L q : Int)) = True := eq_true (by omega)
          obtain ⟨b0, _, hA0, _⟩ := (HP.out.rows q HN.out).blk (by omega)
          have hf0 := HP.out.rows q HN.out
          rw [hA0] at hf0 hv0
          have hm0_0 := hf0.cell h1 (j := 0) (u := .string ⟨#[]⟩) rfl
          have hm0_1 := hf0.cell h1 (j := 1) (u := .int .i8 0) rfl
          have hm0_2 := hf0.cell h1 (j := 2) (u := .int .i64 (numI q i)) rfl
          clear hA0 hf0 h1 hli hile
          have ALL := Aside0.mk (show ∀ W : World, Below wq.heap.size wq W → W.cell? ⟨g, 8, none⟩ = some (.slice (some ⟨o_, 0, none⟩) m capO) ∧ W.cell? ⟨o_, q, none⟩ = some (.slice (some ⟨b0, 0, none⟩) (L q) (C q)) ∧ W.cell? ⟨g5, q, none⟩ = some (.slice (some ⟨b5, 0, none⟩) (L q + 1) y5) ∧ W.cell? ⟨g6, q, none⟩ = some (.slice (some ⟨b6, 0, none⟩) (L q + 70) y6) ∧ W.cell? ⟨b6, i * 3, none⟩ = some (.string ⟨#[]⟩) ∧ W.cell? ⟨b6, i * 3 + 1, none⟩ = some (.int .i8 0) ∧ W.cell? ⟨b6, i * 3 + 2, none⟩ = some (.int .i64 (numI q i)) ∧ W.cell? ⟨b0, i * 3, none⟩ = some (.string ⟨#[]⟩) ∧ W.cell? ⟨b0, i * 3 + 1, none⟩ = some (.int .i8 0) ∧ W.cell? ⟨b0, i * 3 + 2, none⟩ = some (.int .i64 (numI q i)) from fun W hb => ⟨pw_cell_below hb hb0, pw_cell_below hb hv0, pw_cell_below hb HC5.out.1, pw_cell_below hb HC5.out.2, pw_cell_below hb hm6_0, pw_cell_below hb hm6_1, pw_cell_below hb hm6_2, pw_cell_below hb hm0_0, pw_cell_below hb hm0_1, pw_cell_below hb hm0_2⟩)
          clear hb0 hv0 hm6_0 hm6_1 hm6_2 hm0_0 hm0_1 hm0_2
          obtain ⟨h0_, h1_, h2_, h3_, h4_, h5_, h6_, h7_, h8_, h9_⟩ := ALL.out wr HQ.out
          go_upto_region 27 with fail
          have BS := Aside0.mk (MapKept.heap_alloc wr (.cells #[.string ⟨#[]⟩, .int .i8 0, .int .i64 (numI q i)] 65)).1
          have HQ1 := Aside0.mk (below_then HQ.out HQ.out.size (below_alloc (Below.refl wr.heap.size wr) (.cells #[.string ⟨#[]⟩, .int .i8 0, .int .i64 (numI q i)] 65)))
          have HK := Aside0.mk (show wq.heap.size ≤ wr.heap.size from HQ.out.size)
          clear h0_ h1_ h2_ h3_ h4_ h5_ h6_ h7_ h8_ h9_ HQ
          generalize wr.alloc (.cells #[.string ⟨#[]⟩, .int .i8 0, .int .i64 (numI q i)] 65) = w1 at BS HQ1 ⊢
          generalize wr.heap.size = k at BS HK ⊢
          obtain ⟨h0_, h1_, h2_, h3_, h4_, h5_, h6_, h7_, h8_, h9_⟩ := ALL.out w1 HQ1.out
          go_upto_region 31 with (((with_reducible refine gate_store (t := 65) rfl ?_); refine wpList_store_whole rfl rfl rfl k _ #[.string ⟨#[]⟩, .int .i8 0, .int .i64 (numI q i)] _ rfl rfl BS.out (by kernel_rfl) rfl (onemkSymbols q i) ?_; intro w13 hp9; have BS1 := Aside0.mk hp9.blk; have HQ2 := Aside0.mk (hp9.below HQ1.out HK.out); clear hp9 BS HQ1 h0_ h1_ h2_ h3_ h4_ h5_ h6_ h7_ h8_ h9_; have BS := BS1; have HQ1 := HQ2; clear BS1 HQ2; obtain ⟨h0_, h1_, h2_, h3_, h4_, h5_, h6_, h7_, h8_, h9_⟩ := ALL.out _ HQ1.out))
          have hs0 := (blk_cell BS.out 0).trans rfl
          have hs1 := (blk_cell BS.out 1).trans rfl
          have hs2 := (blk_cell BS.out 2).trans rfl
          go_quiet ((go_at_call 79; (with_reducible refine (numS q i _ BB.out.1 BB.out.2).mono ?_); rintro e_ w_ ⟨rfl, rfl⟩; exact ⟨rfl, _, rfl⟩))
          clear hs0 hs1 hs2 h0_ h1_ h2_ h3_ h4_ h5_ h6_ h7_ h8_ h9_
          have HQ2 := Aside0.mk (below_then HQ1.out HQ1.out.size (pw_below_drewN (Below.refl _ _) nq))
          have BS1 := Aside0.mk (blk_below BS.out (pw_below_drewN (Below.refl _ _) nq))
          clear HQ1 BS
          have HQ1 := HQ2
          have BS := BS1
          clear HQ2 BS1
          generalize World.drewN _ nq = w3 at HQ1 BS ⊢
          obtain ⟨h0_, h1_, h2_, h3_, h4_, h5_, h6_, h7_, h8_, h9_⟩ := ALL.out w3 HQ1.out
          go_upto_region 33 with (((with_reducible refine gate_store (t := 65) rfl ?_); refine wpList_store_whole rfl rfl rfl k _ #[.string ⟨#[]⟩, .int .i8 0, .int .i64 (numI q i)] _ rfl rfl BS.out (by kernel_rfl) rfl (onemkSymbols q i) ?_; intro w13 hp9; have BS1 := Aside0.mk hp9.blk; have HQ2 := Aside0.mk (hp9.below HQ1.out HK.out); clear hp9 BS HQ1 h0_ h1_ h2_ h3_ h4_ h5_ h6_ h7_ h8_ h9_; have BS := BS1; have HQ1 := HQ2; clear BS1 HQ2; obtain ⟨h0_, h1_, h2_, h3_, h4_, h5_, h6_, h7_, h8_, h9_⟩ := ALL.out _ HQ1.out))
          have hs0 := (blk_cell BS.out 0).trans rfl
          have hs1 := (blk_cell BS.out 1).trans rfl
          have hs2 := (blk_cell BS.out 2).trans rfl
          go_quiet ((go_at_call 79; (with_reducible refine (numS q i _ BB.out.1 BB.out.2).mono ?_); rintro e_ w_ ⟨rfl, rfl⟩; exact ⟨rfl, _, rfl⟩))
          clear hs0 hs1 hs2 h0_ h1_ h2_ h3_ h4_ h5_ h6_ h7_ h8_ h9_
          have HQ2 := Aside0.mk (below_then HQ1.out HQ1.out.size (pw_below_drewN (Below.refl _ _) nq))
          have BS1 := Aside0.mk (blk_below BS.out (pw_below_drewN (Below.refl _ _) nq))
          clear HQ1 BS
          have HQ1 := HQ2
          have BS := BS1
          clear HQ2 BS1
          generalize World.drewN _ nq = w5 at HQ1 BS ⊢
          obtain ⟨h0_, h1_, h2_, h3_, h4_, h5_, h6_, h7_, h8_, h9_⟩ := ALL.out w5 HQ1.out
          go_wp2
          go_roundw
          case measure => have hq := HI.out; simp only [intOf]; omega
          case rel => exact ⟨i + 1, by first | rfl | go_num, by have := HI.out; omega, HQ1⟩
         ·
          have t1 : decide ((i : Int) < (L q : Int)) = false := decide_eq_false (by omega)
          have t1f : ((i : Int) < (L q : Int)) = False := eq_false (by omega)
          have t1n : (i < L q) = False := eq_false h1
          by_cases h2 : i = L q
          ·
           have t2 : ((i : Int) == (L q : Int)) = true := beq_iff_eq.mpr (by omega)
           have q3t : ((i : Int) < ((L q + 1 : Nat) : Int)) = True := eq_true (by omega)
           have q3u : ((i : Int) < (L q : Int) + 1) = True := eq_true (by omega)
           have hm5_0 := HF5.out.cell (show i < L q + 1 by omega) (j := 0) (u := .string ⟨#[]⟩) rfl
           have hm5_1 := HF5.out.cell (show i < L q + 1 by omega) (j := 1) (u := .int .i8 0) rfl
           have hm5_2 := HF5.out.cell (show i < L q + 1 by omega) (j := 2) (u := .int .i64 (numI q i)) rfl
           clear h1 h2 hli hile
           have ALL := Aside0.mk (show ∀ W : World, Below wq.heap.size wq W → W.cell? ⟨g, 8, none⟩ = some (.slice (some ⟨o_, 0, none⟩) m capO) ∧ W.cell? ⟨o_, q, none⟩ = some (.slice (A q) (L q) (C q)) ∧ W.cell? ⟨g5, q, none⟩ = some (.slice (some ⟨b5, 0, none⟩) (L q + 1) y5) ∧ W.cell? ⟨g6, q, none⟩ = some (.slice (some ⟨b6, 0, none⟩) (L q + 70) y6) ∧ W.cell? ⟨b6, i * 3, none⟩ = some (.string ⟨#[]⟩) ∧ W.cell? ⟨b6, i * 3 + 1, none⟩ = some (.int .i8 0) ∧ W.cell? ⟨b6, i * 3 + 2, none⟩ = some (.int .i64 (numI q i)) ∧ W.cell? ⟨b5, i * 3, none⟩ = some (.string ⟨#[]⟩) ∧ W.cell? ⟨b5, i * 3 + 1, none⟩ = some (.int .i8 0) ∧ W.cell? ⟨b5, i * 3 + 2, none⟩ = some (.int .i64 (numI q i)) from fun W hb => ⟨pw_cell_below hb hb0, pw_cell_below hb hv0, pw_cell_below hb HC5.out.1, pw_cell_below hb HC5.out.2, pw_cell_below hb hm6_0, pw_cell_below hb hm6_1, pw_cell_below hb hm6_2, pw_cell_below hb hm5_0, pw_cell_below hb hm5_1, pw_cell_below hb hm5_2⟩)
           clear hb0 hv0 hm6_0 hm6_1 hm6_2 hm5_0 hm5_1 hm5_2
           obtain ⟨h0_, h1_, h2_, h3_, h4_, h5_, h6_, h7_, h8_, h9_⟩ := ALL.out wr HQ.out
           go_upto_region 27 with fail
           have BS := Aside0.mk (MapKept.heap_alloc wr (.cells #[.string ⟨#[]⟩, .int .i8 0, .int .i64 (numI q i)] 65)).1
           have HQ1 := Aside0.mk (below_then HQ.out HQ.out.size (below_alloc (Below.refl wr.heap.size wr) (.cells #[.string ⟨#[]⟩, .int .i8 0, .int .i64 (numI q i)] 65)))
           have HK := Aside0.mk (show wq.heap.size ≤ wr.heap.size from HQ.out.size)
           clear h0_ h1_ h2_ h3_ h4_ h5_ h6_ h7_ h8_ h9_ HQ
           generalize wr.alloc (.cells #[.string ⟨#[]⟩, .int .i8 0, .int .i64 (numI q i)] 65) = w1 at BS HQ1 ⊢
           generalize wr.heap.size = k at BS HK ⊢
           obtain ⟨h0_, h1_, h2_, h3_, h4_, h5_, h6_, h7_, h8_, h9_⟩ := ALL.out w1 HQ1.out
           go_upto_region 31 with (((with_reducible refine gate_store (t := 65) rfl ?_); refine wpList_store_whole rfl rfl rfl k _ #[.string ⟨#[]⟩, .int .i8 0, .int .i64 (numI q i)] _ rfl rfl BS.out (by kernel_rfl) rfl (onemkSymbols q i) ?_; intro w13 hp9; have BS1 := Aside0.mk hp9.blk; have HQ2 := Aside0.mk (hp9.below HQ1.out HK.out); clear hp9 BS HQ1 h0_ h1_ h2_ h3_ h4_ h5_ h6_ h7_ h8_ h9_; have BS := BS1; have HQ1 := HQ2; clear BS1 HQ2; obtain ⟨h0_, h1_, h2_, h3_, h4_, h5_, h6_, h7_, h8_, h9_⟩ := ALL.out _ HQ1.out))
           have hs0 := (blk_cell BS.out 0).trans rfl
           have hs1 := (blk_cell BS.out 1).trans rfl
           have hs2 := (blk_cell BS.out 2).trans rfl
           go_quiet ((go_at_call 79; (with_reducible refine (numS q i _ BB.out.1 BB.out.2).mono ?_); rintro e_ w_ ⟨rfl, rfl⟩; exact ⟨rfl, _, rfl⟩))
           clear hs0 hs1 hs2 h0_ h1_ h2_ h3_ h4_ h5_ h6_ h7_ h8_ h9_
           have HQ2 := Aside0.mk (below_then HQ1.out HQ1.out.size (pw_below_drewN (Below.refl _ _) nq))
           have BS1 := Aside0.mk (blk_below BS.out (pw_below_drewN (Below.refl _ _) nq))
           clear HQ1 BS
           have HQ1 := HQ2
           have BS := BS1
           clear HQ2 BS1
           generalize World.drewN _ nq = w3 at HQ1 BS ⊢
           obtain ⟨h0_, h1_, h2_, h3_, h4_, h5_, h6_, h7_, h8_, h9_⟩ := ALL.out w3 HQ1.out
           go_upto_region 33 with (((with_reducible refine gate_store (t := 65) rfl ?_); refine wpList_store_whole rfl rfl rfl k _ #[.string ⟨#[]⟩, .int .i8 0, .int .i64 (numI q i)] _ rfl rfl BS.out (by kernel_rfl) rfl (onemkSymbols q i) ?_; intro w13 hp9; have BS1 := Aside0.mk hp9.blk; have HQ2 := Aside0.mk (hp9.below HQ1.out HK.out); clear hp9 BS HQ1 h0_ h1_ h2_ h3_ h4_ h5_ h6_ h7_ h8_ h9_; have BS := BS1; have HQ1 := HQ2; clear BS1 HQ2; obtain ⟨h0_, h1_, h2_, h3_, h4_, h5_, h6_, h7_, h8_, h9_⟩ := ALL.out _ HQ1.out))
           have hs0 := (blk_cell BS.out 0).trans rfl
           have hs1 := (blk_cell BS.out 1).trans rfl
           have hs2 := (blk_cell BS.out 2).trans rfl
           go_quiet ((go_at_call 79; (with_reducible refine (numS q i _ BB.out.1 BB.out.2).mono ?_); rintro e_ w_ ⟨rfl, rfl⟩; exact ⟨rfl, _, rfl⟩))
           clear hs0 hs1 hs2 h0_ h1_ h2_ h3_ h4_ h5_ h6_ h7_ h8_ h9_
           have HQ2 := Aside0.mk (below_then HQ1.out HQ1.out.size (pw_below_drewN (Below.refl _ _) nq))
           have BS1 := Aside0.mk (blk_below BS.out (pw_below_drewN (Below.refl _ _) nq))
           clear HQ1 BS
           have HQ1 := HQ2
           have BS := BS1
           clear HQ2 BS1
           generalize World.drewN _ nq = w5 at HQ1 BS ⊢
           obtain ⟨h0_, h1_, h2_, h3_, h4_, h5_, h6_, h7_, h8_, h9_⟩ := ALL.out w5 HQ1.out
           go_wp2
           go_roundw
           case measure => have hq := HI.out; simp only [intOf]; omega
           case rel => exact ⟨i + 1, by first | rfl | go_num, by have := HI.out; omega, HQ1⟩
          ·
           have t2 : ((i : Int) == (L q : Int)) = false := beq_eq_false_iff_ne.mpr (by omega)
           clear h1 h2 hli hile
           have ALL := Aside0.mk (show ∀ W : World, Below wq.heap.size wq W → W.cell? ⟨g, 8, none⟩ = some (.slice (some ⟨o_, 0, none⟩) m capO) ∧ W.cell? ⟨o_, q, none⟩ = some (.slice (A q) (L q) (C q)) ∧ W.cell? ⟨g5, q, none⟩ = some (.slice (some ⟨b5, 0, none⟩) (L q + 1) y5) ∧ W.cell? ⟨g6, q, none⟩ = some (.slice (some ⟨b6, 0, none⟩) (L q + 70) y6) ∧ W.cell? ⟨b6, i * 3, none⟩ = some (.string ⟨#[]⟩) ∧ W.cell? ⟨b6, i * 3 + 1, none⟩ = some (.int .i8 0) ∧ W.cell? ⟨b6, i * 3 + 2, none⟩ = some (.int .i64 (numI q i)) from fun W hb => ⟨pw_cell_below hb hb0, pw_cell_below hb hv0, pw_cell_below hb HC5.out.1, pw_cell_below hb HC5.out.2, pw_cell_below hb hm6_0, pw_cell_below hb hm6_1, pw_cell_below hb hm6_2⟩)
           clear hb0 hv0 hm6_0 hm6_1 hm6_2
           obtain ⟨h0_, h1_, h2_, h3_, h4_, h5_, h6_⟩ := ALL.out wr HQ.out
           go_upto_region 27 with fail
           have BS := Aside0.mk (MapKept.heap_alloc wr (.cells #[.string ⟨#[]⟩, .int .i8 0, .int .i64 (numI q i)] 65)).1
           have HQ1 := Aside0.mk (below_then HQ.out HQ.out.size (below_alloc (Below.refl wr.heap.size wr) (.cells #[.string ⟨#[]⟩, .int .i8 0, .int .i64 (numI q i)] 65)))
           have HK := Aside0.mk (show wq.heap.size ≤ wr.heap.size from HQ.out.size)
           clear h0_ h1_ h2_ h3_ h4_ h5_ h6_ HQ
           generalize wr.alloc (.cells #[.string ⟨#[]⟩, .int .i8 0, .int .i64 (numI q i)] 65) = w1 at BS HQ1 ⊢
           generalize wr.heap.size = k at BS HK ⊢
           obtain ⟨h0_, h1_, h2_, h3_, h4_, h5_, h6_⟩ := ALL.out w1 HQ1.out
           go_upto_region 31 with (fail)
           have hs0 := (blk_cell BS.out 0).trans rfl
           have hs1 := (blk_cell BS.out 1).trans rfl
           have hs2 := (blk_cell BS.out 2).trans rfl
           go_quiet ((go_at_call 79; (with_reducible refine (numS q i _ BB.out.1 BB.out.2).mono ?_); rintro e_ w_ ⟨rfl, rfl⟩; exact ⟨rfl, _, rfl⟩))
           clear hs0 hs1 hs2 h0_ h1_ h2_ h3_ h4_ h5_ h6_
           have HQ2 := Aside0.mk (below_then HQ1.out HQ1.out.size (pw_below_drewN (Below.refl _ _) nq))
           have BS1 := Aside0.mk (blk_below BS.out (pw_below_drewN (Below.refl _ _) nq))
           clear HQ1 BS
           have HQ1 := HQ2
           have BS := BS1
           clear HQ2 BS1
           generalize World.drewN _ nq = w3 at HQ1 BS ⊢
           obtain ⟨h0_, h1_, h2_, h3_, h4_, h5_, h6_⟩ := ALL.out w3 HQ1.out
           go_upto_region 33 with (((with_reducible refine gate_store (t := 65) rfl ?_); refine wpList_store_whole rfl rfl rfl k _ #[.string ⟨#[]⟩, .int .i8 0, .int .i64 (numI q i)] _ rfl rfl BS.out (by kernel_rfl) rfl (onemkSymbols q i) ?_; intro w13 hp9; have BS1 := Aside0.mk hp9.blk; have HQ2 := Aside0.mk (hp9.below HQ1.out HK.out); clear hp9 BS HQ1 h0_ h1_ h2_ h3_ h4_ h5_ h6_; have BS := BS1; have HQ1 := HQ2; clear BS1 HQ2; obtain ⟨h0_, h1_, h2_, h3_, h4_, h5_, h6_⟩ := ALL.out _ HQ1.out))
           have hs0 := (blk_cell BS.out 0).trans rfl
           have hs1 := (blk_cell BS.out 1).trans rfl
           have hs2 := (blk_cell BS.out 2).trans rfl
           go_quiet ((go_at_call 79; (with_reducible refine (numS q i _ BB.out.1 BB.out.2).mono ?_); rintro e_ w_ ⟨rfl, rfl⟩; exact ⟨rfl, _, rfl⟩))
           clear hs0 hs1 hs2 h0_ h1_ h2_ h3_ h4_ h5_ h6_
           have HQ2 := Aside0.mk (below_then HQ1.out HQ1.out.size (pw_below_drewN (Below.refl _ _) nq))
           have BS1 := Aside0.mk (blk_below BS.out (pw_below_drewN (Below.refl _ _) nq))
           clear HQ1 BS
           have HQ1 := HQ2
           have BS := BS1
           clear HQ2 BS1
           generalize World.drewN _ nq = w5 at HQ1 BS ⊢
           obtain ⟨h0_, h1_, h2_, h3_, h4_, h5_, h6_⟩ := ALL.out w5 HQ1.out
           go_wp2
           go_roundw
           case measure => have hq := HI.out; simp only [intOf]; omega
           case rel => exact ⟨i + 1, by first | rfl | go_num, by have := HI.out; omega, HQ1⟩
        ·
         have hie : i = L q + 70 := by omega
         subst hie
         have hlib : decide (((L q + 70 : Nat) : Int) < ((L q + 70 : Nat) : Int)) = false := by simp
         have hlib2 : decide (((L q + 70 : Nat) : Int) < (L q : Int) + 70) = false := decide_eq_false (by omega)
         have hc6 := pw_cell_below HQ.out HC5.out.2
         clear hli hile
         go_wp2
         go_roundw
         case measure => have hq := HN.out; simp only [intOf]; omega
         case rel => exact ⟨q + 1, by first | rfl | go_num, by have := HN.out; omega, ⟨HP.out.below HQ.out⟩⟩
      ·
       have hqe : q = m := by omega
       subst hqe
       have hltb : decide ((q : Int) < (q : Int)) = false := by simp
       clear hlt hqle
       go_wp2
       go_ret
       exact ⟨rfl, HP.out.st⟩
end Go.Proofs.YtiaohbbafaaibabGreatDoor.P

/- OWN TEXT: Bag.apartRelocs, walked: lists that share no memory. -/
namespace Go.Proofs.YtiaohbbafaaibabGreatDoor.P
open Go.RowKit Go.Proofs.YtiaohbbafaaibabGreatDoorW.PrintWords Go.Proofs.YtiaohbbafaaibabGreatDoorW.PrintLast Go.Proofs.YtiaohbbafaaibabGreatDoorW.PrintMore Go.Proofs.YtiaohbbafaaibabGreatDoor.Arr
set_option linter.unusedVariables false
set_option linter.unusedSimpArgs false
theorem onemkRelocs (q i : Nat) : ((#[.int .i64 (numI q i), .int .i64 0] : Array Value).all fun v => v.oneCell') = true := by kernel_rfl
def mkRelocs (n i : Nat) : List Value := [.int .i64 (numI n i), .int .i64 0]
theorem mkRelocs_len (n i : Nat) : (mkRelocs n i).length = 2 := rfl
theorem mkRelocs_one (n i : Nat) : ∀ u ∈ mkRelocs n i, u.oneCell' = true := by
 intro u hu
 simp only [mkRelocs, List.mem_cons, List.not_mem_nil, or_false] at hu
 rcases hu with rfl | rfl <;> rfl
theorem info_ap25 : (Tryz.prog.info? 25).map (fun i => (i.zero, i.size, i.bytes)) = some (some (.slice none 0 0), 1, 24) := by kernel_rfl
set_option maxHeartbeats 60000000 in
set_option maxRecDepth 100000 in
theorem apRelocs.calls (w0 w : World) (g o_ : Nat) (cg co : Array Value) (M capO : Nat) (A : Nat → Option Addr) (L C : Nat → Nat) (own : Nat → Nat) (hbag : w.heap[g]? = some (.cells cg 56 (0, 0))) (hc : cg[9]? = some (.slice (some ⟨o_, 0, none⟩) M capO)) (ho : w.heap[o_]? = some (.cells co 25 (0, 0))) (hco : ∀ m, m < M → co[m]? = some (.slice (A m) (L m) (C m))) (hM : M ≤ 300) (hL : ∀ m, L m ≤ 1000000000) (low : Below w0.heap.size w0 w) (hrows : ∀ m, m < M → Fl w w0.heap.size 82 2 own mkRelocs m (A m) (L m) (C m) 0) :
  Calls Tryz.prog 49 #[.pointer (some ⟨g, 0, none⟩)] w fun e w' => e = .returned (.bool true) ∧ St w0 w w' 82 := by
 have hu1 := Tryz.underlying82
 have HBAG := Aside0.mk hbag
 have HC := Aside0.mk hc
 have HO := Aside0.mk ho
 have HCO := Aside0.mk hco
 have HM := Aside0.mk hM
 have HL := Aside0.mk hL
 have HP := Aside0.mk (P1.start (St.refl low) hrows)
 clear hbag hc ho hco hM hL low hrows
 go_enter Tryz.func49, Tryz.ntmps49
 go_wp2
 go_loopw [3] (fun u3 wr => ∃ n : Nat, u3 = .int .i64 (n : Int) ∧ n ≤ M ∧ Aside0 (P1 82 2 mkRelocs w0 w wr M A L C own n 0)) (fun u3 _ => M - (intOf u3).toNat)
 case atStart => exact ⟨0, rfl, Nat.zero_le _, HP⟩
 case round =>
  clear HP
  obtain ⟨n, rfl, hnle, HP⟩ := hrel
  have hb0 := (blk_cell (HP.out.1.blk HBAG.out (by decide)) 9).trans HC.out
  by_cases hlt : n < M
  ·
   have HN := Aside0.mk hlt
   have hltb : decide ((n : Int) < (M : Int)) = true := decide_eq_true (by omega)
   have p0t : ((0 : Int) ≤ (n : Int)) = True := eq_true (by omega)
   have q0t : ((n : Int) < (M : Int)) = True := eq_true (by omega)
   have bn : (n : Int) ≤ 300 := by have := HM.out; omega
   have hv0 := (blk_cell (HP.out.1.blk HO.out (by decide)) n).trans (HCO.out n HN.out)
   clear hlt hnle
   go_wp2
   go_loopw [4] (fun u4 wr => ∃ i : Nat, u4 = .int .i64 (i : Int) ∧ i ≤ L n ∧ Aside0 (P1 82 2 mkRelocs w0 w wr M A L C own n i)) (fun u4 _ => L n - (intOf u4).toNat)
   case atStart => exact ⟨0, rfl, Nat.zero_le _, HP⟩
   case round =>
    clear HP hb0 hv0
    obtain ⟨i, rfl, hile, HP⟩ := hrel
    have hb0 := (blk_cell (HP.out.1.blk HBAG.out (by decide)) 9).trans HC.out
    have hv0 := (blk_cell (HP.out.1.blk HO.out (by decide)) n).trans (HCO.out n HN.out)
    by_cases hli : i < L n
    ·
     have HI := Aside0.mk hli
     have hlib : decide ((i : Int) < (L n : Int)) = true := decide_eq_true (by omega)
     have p1t : ((0 : Int) ≤ (i : Int)) = True := eq_true (by omega)
     have q1t : ((i : Int) < (L n : Int)) = True := eq_true (by omega)
     have bi : (i : Int) ≤ 2000000000 := by have := HL.out n; omega
     obtain ⟨b, cs, hA, hblk, hown, hB, hcs, hlc⟩ := (HP.out.now HN.out).blk (by omega)
     have hsz : i * 2 + 2 ≤ cs.size := by rw [hcs]; have := Nat.mul_le_mul_right 2 (show i + 1 ≤ C n by omega); omega
     have HF := Aside0.mk (And.intro hA (And.intro hblk (And.intro hown (And.intro hB (And.intro hsz hlc)))))
     rw [hA] at hv0
     have bn2 : (n : Int) ≤ 300 := bn
     clear hA hown hB hcs hlc hli hile
     go_wp2
     go_still_tail 13, (by kernel_rfl)
     still_call (numS n i _ bn2 bi)
     repeat still_step
     refine wpStill_nil ?_
     change wpList _ _ _ _ _ wr.drew
     have HPd := Aside0.mk (HP.out.below (below_drew (Below.refl _ _)))
     have hblkd : wr.drew.heap[b]? = some (.cells cs 82 (0, 0)) := hblk
     obtain ⟨old0, hold0⟩ : ∃ old, cs[(i * 2)]? = some old := ⟨_, Array.getElem?_eq_getElem (by omega)⟩
     have hcl0 := (blk_cell hblkd (i * 2)).trans hold0
     have hfz0 := blk_frozen hblkd (i * 2)
     obtain ⟨old1, hold1⟩ : ∃ old, cs[(i * 2 + 1)]? = some old := ⟨_, Array.getElem?_eq_getElem (by omega)⟩
     have hcl1 := (blk_cell hblkd (i * 2 + 1)).trans hold1
     have hfz1 := blk_frozen hblkd (i * 2 + 1)
     clear HP hblk hsz bn2 hold0 hold1 hb0 hv0
     generalize wr.drew = w2 at HPd hblkd hcl0 hfz0 hcl1 hfz1 ⊢
     have HBK := Aside0.mk hblkd
     clear hblkd
     go_wp2
     go_roundw
     case measure => have hq := HI.out; simp only [intOf]; omega
     case rel => exact ⟨i + 1, by first | rfl | go_num, by have := HI.out; omega, ⟨HPd.out.put HN.out mkRelocs_len HF.out.1 HF.out.2.2.1 HF.out.2.2.2.1 HI.out (set_cells_wrote HBK.out (mkRelocs_len n i) HF.out.2.2.2.2.1)⟩⟩
    ·
     have hie : i = L n := by omega
     subst hie
     have hlib : decide ((L n : Int) < (L n : Int)) = false := by simp
     clear hli hile
     go_wp2
     go_roundw
     case measure => have hq := HN.out; simp only [intOf]; omega
     case rel => exact ⟨n + 1, by first | rfl | go_num, by have := HN.out; omega, ⟨HP.out.next⟩⟩
  ·
   have hne : n = M := by omega
   subst hne
   have hltb : decide ((n : Int) < (n : Int)) = false := by simp
   have HP2 := Aside0.mk (show ∃ own, P2 82 25 2 mkRelocs w0 w _ n A L C own 0 0 (.slice none 0 0) (.slice none 0 0) from ⟨own, HP.out.1, HP.out.full, Col.nil, Col.nil, fun k hk => by simp [Value.ownBlock] at hk⟩)
   clear hlt hnle HP
   go_wp2
   go_loopw [5, 6, 7] (fun u5 u6 u7 wr => ∃ m : Nat, u7 = .int .i64 (m : Int) ∧ m ≤ n ∧ Aside0 (∃ own, P2 82 25 2 mkRelocs w0 w wr n A L C own m m u5 u6)) (fun _ _ u7 _ => n - (intOf u7).toNat)
   case atStart => exact ⟨0, rfl, Nat.zero_le _, HP2⟩
   case round =>
    clear HP2
    obtain ⟨m, rfl, hmle, HP⟩ := hrel
    obtain ⟨own1, hP⟩ := HP.out
    clear HP
    have HP := Aside0.mk hP
    clear hP
    have hb0 := (blk_cell (HP.out.st.blk HBAG.out (by decide)) 9).trans HC.out
    obtain ⟨A5, c5, e5⟩ := HP.out.one.form
    obtain ⟨A6, c6, e6⟩ := HP.out.more.form
    subst e5 e6
    by_cases hlt : m < n
    ·
     have HN := Aside0.mk hlt
     have hltb : decide ((m : Int) < (n : Int)) = true := decide_eq_true (by omega)
     have p0t : ((0 : Int) ≤ (m : Int)) = True := eq_true (by omega)
     have q0t : ((m : Int) < (n : Int)) = True := eq_true (by omega)
     have bn : (m : Int) ≤ 300 := by have := HM.out; omega
     have bl : ((L m : Nat) : Int) ≤ 1000000000 := by have := HL.out m; omega
     have hv0 := (blk_cell (HP.out.st.blk HO.out (by decide)) m).trans (HCO.out m HN.out)
     clear hlt hmle
     go_wp2
     go_loopw [5, 8, 9] (fun u5 u8 u9 wr => ∃ i : Nat, u9 = .int .i64 (i : Int) ∧ L m ≤ i ∧ i ≤ L m + 70 ∧ ∃ Al cap, u8 = .slice Al i cap ∧ Aside0 (∃ own, P2 82 25 2 mkRelocs w0 w wr n A L C own (if i = L m then m else m + 1) m u5 (.slice A6 m c6) ∧ Fl wr w0.heap.size 82 2 own mkRelocs m Al i cap i)) (fun _ _ u9 _ => L m + 70 - (intOf u9).toNat)
     case atStart => exact ⟨L m, rfl, Nat.le_refl _, by omega, A m, C m, rfl, ⟨own1, by rw [if_pos rfl]; exact HP.out, HP.out.rows m HN.out⟩⟩
     case round =>
      clear HP hb0 hv0
      obtain ⟨i, rfl, hlo, hile, Al, cap, rfl, HP⟩ := hrel
      obtain ⟨own2, hP, hF⟩ := HP.out
      clear HP
      have HP := Aside0.mk (And.intro hP hF)
      clear hP hF
      have hb0 := (blk_cell (HP.out.1.st.blk HBAG.out (by decide)) 9).trans HC.out
      have hv0 := (blk_cell (HP.out.1.st.blk HO.out (by decide)) m).trans (HCO.out m HN.out)
      obtain ⟨A5, c5, e5⟩ := HP.out.1.one.form
      subst e5
      have bi : (i : Int) ≤ 2000000000 := by have := HL.out m; omega
      have HILE := Aside0.mk hile
      have BB := Aside0.mk (And.intro bn bi)
      by_cases hli : i < L m + 70
      ·
       have HI := Aside0.mk hli
       have hlib : decide ((i : Int) < (L m : Int) + 70) = true := decide_eq_true (by omega)
       clear hli hile
       by_cases hie : i = L m
       ·
        subst_vars
        have heq : ((L m : Int) == (L m : Int)) = true := beq_self_eq_true _
        rw [if_pos rfl] at HP ⊢
        clear hlo
        go_wp2_with (first | (go_at_call 79; refine (numS m (L m) _ BB.out.1 BB.out.2).mono ?_; rintro e_ w_ ⟨rfl, rfl⟩) | ((with_reducible refine gate_builtin (b := .append) (xs := #[.tmp 79, .tmp 84]) rfl ?_); at_builtin; refine P2.app_l HP.out.1 (by decide) mkRelocs_len mkRelocs_one rfl (.tmp 79) (.tmp 84) 25 rfl (.agg #[.int .i64 0, .int .i64 0]) 16 Tryz.underlying25 info82 rfl (by decide) HP.out.2 rfl rfl (by have := HILE.out; have := HL.out m; omega) (by decide) _ rfl ?_; intro A1 cap1 own3 w1 hP1 hF1; have HP1 := Aside0.mk (And.intro hP1 hF1); have hb1 := (blk_cell (hP1.st.blk HBAG.out (by decide)) 9).trans HC.out; have hv1 := (blk_cell (hP1.st.blk HO.out (by decide)) m).trans (HCO.out m HN.out); clear hP1 hF1 hb0 hv0 HP) | ((with_reducible refine gate_builtin (b := .append) (xs := #[.tmp 96, .tmp 98]) rfl ?_); at_builtin; refine P2.app_one HP1.out.1 (by decide) rfl (.tmp 96) (.tmp 98) 47 rfl Tryz.underlying47 info_ap25 rfl rfl (by have := HN.out; have := HM.out; omega) HP1.out.2 ?_; intro v1 w2 hP2 hmv; have HP2 := Aside0.mk (And.intro hP2 (hmv _ _ _ _ _ HP1.out.2)); clear hP2 hmv hb1 hv1 HP1))
        go_roundw
        case measure => simp only [intOf]; omega
        case rel => exact ⟨L m + 1, by first | rfl | go_num, by omega, by omega, _, _, rfl, ⟨_, by rw [if_neg (by omega)]; exact HP2.out.1, HP2.out.2⟩⟩
       ·
        have hieb : ((i : Int) == (L m : Int)) = false := beq_eq_false_iff_ne.mpr (by omega)
        have HNE := Aside0.mk hie
        rw [if_neg hie] at HP ⊢
        have HLO := Aside0.mk hlo
        clear hlo hie
        go_wp2_with (first | (go_at_call 79; refine (numS m i _ BB.out.1 BB.out.2).mono ?_; rintro e_ w_ ⟨rfl, rfl⟩) | ((with_reducible refine gate_builtin (b := .append) (xs := #[.tmp 79, .tmp 84]) rfl ?_); at_builtin; refine P2.app_l HP.out.1 (by decide) mkRelocs_len mkRelocs_one rfl (.tmp 79) (.tmp 84) 25 rfl (.agg #[.int .i64 0, .int .i64 0]) 16 Tryz.underlying25 info82 rfl (by decide) HP.out.2 rfl rfl (by have := HILE.out; have := HL.out m; omega) (by decide) _ rfl ?_; intro A1 cap1 own3 w1 hP1 hF1; have HP1 := Aside0.mk (And.intro hP1 hF1); have hb1 := (blk_cell (hP1.st.blk HBAG.out (by decide)) 9).trans HC.out; have hv1 := (blk_cell (hP1.st.blk HO.out (by decide)) m).trans (HCO.out m HN.out); clear hP1 hF1 hb0 hv0 HP))
        go_roundw
        case measure => have hq := HI.out; simp only [intOf]; omega
        case rel => exact ⟨i + 1, by first | rfl | go_num, by have := HLO.out; omega, by have := HI.out; omega, _, _, rfl, ⟨_, by rw [if_neg (by have := HLO.out; omega)]; exact HP1.out.1, HP1.out.2⟩⟩
      ·
       have hie : i = L m + 70 := by omega
       subst hie
       have hlib : decide (((L m + 70 : Nat) : Int) < (L m : Int) + 70) = false := decide_eq_false (by omega)
       rw [if_neg (by omega)] at HP ⊢
       clear hlo hile hli
       go_wp2_with (first | ((with_reducible refine gate_builtin (b := .append) (xs := #[.tmp 100, .tmp 102]) rfl ?_); at_builtin; refine P2.app_more HP.out.1 (by decide) rfl (.tmp 100) (.tmp 102) 47 rfl Tryz.underlying47 info_ap25 rfl rfl (by have := HN.out; have := HM.out; omega) HP.out.2 ?_; intro v1 w1 hP1; have HP1 := Aside0.mk hP1; clear hP1 hb0 hv0 HP))
       go_roundw
       case measure => have hq := HN.out; simp only [intOf]; omega
       case rel => exact ⟨m + 1, by first | rfl | go_num, by have := HN.out; omega, ⟨_, HP1.out⟩⟩
    ·
     have hme : m = n := by omega
     subst hme
     have hltb : decide ((m : Int) < (m : Int)) = false := by simp
     clear hlt hmle
     go_wp2
     go_loopw [10] (fun u10 wr => ∃ q : Nat, u10 = .int .i64 (q : Int) ∧ q ≤ m ∧ Aside0 (P2 82 25 2 mkRelocs w0 w wr m A L C own1 m m (.slice A5 m c5) (.slice A6 m c6))) (fun u10 _ => m - (intOf u10).toNat)
     case atStart => exact ⟨0, rfl, Nat.zero_le _, HP⟩
     case round =>
      clear HP hb0
      obtain ⟨q, rfl, hqle, HP⟩ := hrel
      have hb0 := (blk_cell (HP.out.st.blk HBAG.out (by decide)) 9).trans HC.out
      by_cases hlt : q < m
      ·
       have HN := Aside0.mk hlt
       have hltb : decide ((q : Int) < (m : Int)) = true := decide_eq_true (by omega)
       have p0t : ((0 : Int) ≤ (q : Int)) = True := eq_true (by omega)
       have q0t : ((q : Int) < (m : Int)) = True := eq_true (by omega)
       have bn : (q : Int) ≤ 300 := by have := HM.out; omega
       have bl : ((L q : Nat) : Int) ≤ 1000000000 := by have := HL.out q; omega
       have hv0 := (blk_cell (HP.out.st.blk HO.out (by decide)) q).trans (HCO.out q HN.out)
       obtain ⟨g5, x5, B5, y5, e5, hc5, hf5⟩ := HP.out.one.at HN.out
       obtain ⟨g6, x6, B6, y6, e6, hc6, hf6⟩ := HP.out.more.at HN.out
       injection e5 with e51 e52 e53
       injection e6 with e61 e62 e63
       subst e51 e53 e61 e63
       obtain ⟨b5, _, rfl, _⟩ := hf5.blk (by omega)
       obtain ⟨b6, _, rfl, _⟩ := hf6.blk (by omega)
       have HF5 := Aside0.mk hf5
       have HF6 := Aside0.mk hf6
       clear e52 e62 hf5 hf6 hlt hqle
       go_wp2
       have HC5 := Aside0.mk (And.intro hc5 hc6)
       obtain ⟨wq, hwq⟩ : ∃ wq, wq = wr := ⟨_, rfl⟩
       subst hwq
       have HQ0 := Aside0.mk (Below.refl _ _ : Below wq.heap.size wq wq)
       go_loopw [11] (fun u11 wr => ∃ i : Nat, u11 = .int .i64 (i : Int) ∧ i ≤ L q + 70 ∧ Aside0 (Below wq.heap.size wq wr)) (fun u11 _ => L q + 70 - (intOf u11).toNat)
       case atStart => exact ⟨0, rfl, Nat.zero_le _, HQ0⟩
       case round =>
        clear HQ0
        obtain ⟨i, rfl, hile, HQ⟩ := hrel
        have bi : (i : Int) ≤ 2000000000 := by have := HL.out q; omega
        have BB := Aside0.mk (And.intro bn bi)
        by_cases hli : i < L q + 70
        ·
         have HI := Aside0.mk hli
         have hlib : decide ((i : Int) < ((L q + 70 : Nat) : Int)) = true := decide_eq_true (by omega)
         have hlib2 : decide ((i : Int) < (L q : Int) + 70) = true := decide_eq_true (by omega)
         have p1t : ((0 : Int) ≤ (i : Int)) = True := eq_true (by omega)
         have q1t : ((i : Int) < ((L q + 70 : Nat) : Int)) = True := eq_true (by omega)
         have q1u : ((i : Int) < (L q : Int) + 70) = True := eq_true (by omega)
         have hm6_0 := HF6.out.cell hli (j := 0) (u := .int .i64 (numI q i)) rfl
         have hm6_1 := HF6.out.cell hli (j := 1) (u := .int .i64 0) rfl
         by_cases h1 : i < L q
         ·
          have t1 : decide ((i : Int) < (L q : Int)) = true := decide_eq_true (by omega)
          have t2 : ((i : Int) == (L q : Int)) = false := beq_eq_false_iff_ne.mpr (by omega)
          have q2t : ((i : Int) < (L q : Int)) = True := eq_true (by omega)
          obtain ⟨b0, _, hA0, _⟩ := (HP.out.rows q HN.out).blk (by omega)
          have hf0 := HP.out.rows q HN.out
          rw [hA0] at hf0 hv0
          have hm0_0 := hf0.cell h1 (j := 0) (u := .int .i64 (numI q i)) rfl
          have hm0_1 := hf0.cell h1 (j := 1) (u := .int .i64 0) rfl
          clear hA0 hf0 h1 hli hile
          have ALL := Aside0.mk (show ∀ W : World, Below wq.heap.size wq W → W.cell? ⟨g, 9, none⟩ = some (.slice (some ⟨o_, 0, none⟩) m capO) ∧ W.cell? ⟨o_, q, none⟩ = some (.slice (some ⟨b0, 0, none⟩) (L q) (C q)) ∧ W.cell? ⟨g5, q, none⟩ = some (.slice (some ⟨b5, 0, none⟩) (L q + 1) y5) ∧ W.cell? ⟨g6, q, none⟩ = some (.slice (some ⟨b6, 0, none⟩) (L q + 70) y6) ∧ W.cell? ⟨b6, i * 2, none⟩ = some (.int .i64 (numI q i)) ∧ W.cell? ⟨b6, i * 2 + 1, none⟩ = some (.int .i64 0) ∧ W.cell? ⟨b0, i * 2, none⟩ = some (.int .i64 (numI q i)) ∧ W.cell? ⟨b0, i * 2 + 1, none⟩ = some (.int .i64 0) from fun W hb => ⟨pw_cell_below hb hb0, pw_cell_below hb hv0, pw_cell_below hb HC5.out.1, pw_cell_below hb HC5.out.2, pw_cell_below hb hm6_0, pw_cell_below hb hm6_1, pw_cell_below hb hm0_0, pw_cell_below hb hm0_1⟩)
          clear hb0 hv0 hm6_0 hm6_1 hm0_0 hm0_1
          obtain ⟨h0_, h1_, h2_, h3_, h4_, h5_, h6_, h7_⟩ := ALL.out wr HQ.out
          go_upto_region 27 with fail
          have BS := Aside0.mk (MapKept.heap_alloc wr (.cells #[.int .i64 (numI q i), .int .i64 0] 82)).1
          have HQ1 := Aside0.mk (below_then HQ.out HQ.out.size (below_alloc (Below.refl wr.heap.size wr) (.cells #[.int .i64 (numI q i), .int .i64 0] 82)))
          have HK := Aside0.mk (show wq.heap.size ≤ wr.heap.size from HQ.out.size)
          clear h0_ h1_ h2_ h3_ h4_ h5_ h6_ h7_ HQ
          generalize wr.alloc (.cells #[.int .i64 (numI q i), .int .i64 0] 82) = w1 at BS HQ1 ⊢
          generalize wr.heap.size = k at BS HK ⊢
          obtain ⟨h0_, h1_, h2_, h3_, h4_, h5_, h6_, h7_⟩ := ALL.out w1 HQ1.out
          go_upto_region 31 with (((with_reducible refine gate_store (t := 82) rfl ?_); refine wpList_store_whole rfl rfl rfl k _ #[.int .i64 (numI q i), .int .i64 0] _ rfl rfl BS.out (by kernel_rfl) rfl (onemkRelocs q i) ?_; intro w13 hp9; have BS1 := Aside0.mk hp9.blk; have HQ2 := Aside0.mk (hp9.below HQ1.out HK.out); clear hp9 BS HQ1 h0_ h1_ h2_ h3_ h4_ h5_ h6_ h7_; have BS := BS1; have HQ1 := HQ2; clear BS1 HQ2; obtain ⟨h0_, h1_, h2_, h3_, h4_, h5_, h6_, h7_⟩ := ALL.out _ HQ1.out))
          have hs0 := (blk_cell BS.out 0).trans rfl
          have hs1 := (blk_cell BS.out 1).trans rfl
          go_quiet ((go_at_call 79; (with_reducible refine (numS q i _ BB.out.1 BB.out.2).mono ?_); rintro e_ w_ ⟨rfl, rfl⟩; exact ⟨rfl, _, rfl⟩))
          clear hs0 hs1 h0_ h1_ h2_ h3_ h4_ h5_ h6_ h7_
          have HQ2 := Aside0.mk (below_then HQ1.out HQ1.out.size (pw_below_drewN (Below.refl _ _) nq))
          have BS1 := Aside0.mk (blk_below BS.out (pw_below_drewN (Below.refl _ _) nq))
          clear HQ1 BS
          have HQ1 := HQ2
          have BS := BS1
          clear HQ2 BS1
          generalize World.drewN _ nq = w3 at HQ1 BS ⊢
          obtain ⟨h0_, h1_, h2_, h3_, h4_, h5_, h6_, h7_⟩ := ALL.out w3 HQ1.out
          go_upto_region 33 with (((with_reducible refine gate_store (t := 82) rfl ?_); refine wpList_store_whole rfl rfl rfl k _ #[.int .i64 (numI q i), .int .i64 0] _ rfl rfl BS.out (by kernel_rfl) rfl (onemkRelocs q i) ?_; intro w13 hp9; have BS1 := Aside0.mk hp9.blk; have HQ2 := Aside0.mk (hp9.below HQ1.out HK.out); clear hp9 BS HQ1 h0_ h1_ h2_ h3_ h4_ h5_ h6_ h7_; have BS := BS1; have HQ1 := HQ2; clear BS1 HQ2; obtain ⟨h0_, h1_, h2_, h3_, h4_, h5_, h6_, h7_⟩ := ALL.out _ HQ1.out))
          have hs0 := (blk_cell BS.out 0).trans rfl
          have hs1 := (blk_cell BS.out 1).trans rfl
          go_quiet ((go_at_call 79; (with_reducible refine (numS q i _ BB.out.1 BB.out.2).mono ?_); rintro e_ w_ ⟨rfl, rfl⟩; exact ⟨rfl, _, rfl⟩))
          clear hs0 hs1 h0_ h1_ h2_ h3_ h4_ h5_ h6_ h7_
          have HQ2 := Aside0.mk (below_then HQ1.out HQ1.out.size (pw_below_drewN (Below.refl _ _) nq))
          have BS1 := Aside0.mk (blk_below BS.out (pw_below_drewN (Below.refl _ _) nq))
          clear HQ1 BS
          have HQ1 := HQ2
          have BS := BS1
          clear HQ2 BS1
          generalize World.drewN _ nq = w5 at HQ1 BS ⊢
          obtain ⟨h0_, h1_, h2_, h3_, h4_, h5_, h6_, h7_⟩ := ALL.out w5 HQ1.out
          go_wp2
          go_roundw
          case measure => have hq := HI.out; simp only [intOf]; omega
          case rel => exact ⟨i + 1, by first | rfl | go_num, by have := HI.out; omega, HQ1⟩
         ·
          have t1 : decide ((i : Int) < (L q : Int)) = false := decide_eq_false (by omega)
          have t1f : ((i : Int) < (L q : Int)) = False := eq_false (by omega)
          have t1n : (i < L q) = False := eq_false h1
          by_cases h2 : i = L q
          ·
           have t2 : ((i : Int) == (L q : Int)) = true := beq_iff_eq.mpr (by omega)
           have q3t : ((i : Int) < ((L q + 1 : Nat) : Int)) = True := eq_true (by omega)
           have q3u : ((i : Int) < (L q : Int) + 1) = True := eq_true (by omega)
           have hm5_0 := HF5.out.cell (show i < L q + 1 by omega) (j := 0) (u := .int .i64 (numI q i)) rfl
           have hm5_1 := HF5.out.cell (show i < L q + 1 by omega) (j := 1) (u := .int .i64 0) rfl
           clear h1 h2 hli hile
           have ALL := Aside0.mk (show ∀ W : World, Below wq.heap.size wq W → W.cell? ⟨g, 9, none⟩ = some (.slice (some ⟨o_, 0, none⟩) m capO) ∧ W.cell? ⟨o_, q, none⟩ = some (.slice (A q) (L q) (C q)) ∧ W.cell? ⟨g5, q, none⟩ = some (.slice (some ⟨b5, 0, none⟩) (L q + 1) y5) ∧ W.cell? ⟨g6, q, none⟩ = some (.slice (some ⟨b6, 0, none⟩) (L q + 70) y6) ∧ W.cell? ⟨b6, i * 2, none⟩ = some (.int .i64 (numI q i)) ∧ W.cell? ⟨b6, i * 2 + 1, none⟩ = some (.int .i64 0) ∧ W.cell? ⟨b5, i * 2, none⟩ = some (.int .i64 (numI q i)) ∧ W.cell? ⟨b5, i * 2 + 1, none⟩ = some (.int .i64 0) from fun W hb => ⟨pw_cell_below hb hb0, pw_cell_below hb hv0, pw_cell_below hb HC5.out.1, pw_cell_below hb HC5.out.2, pw_cell_below hb hm6_0, pw_cell_below hb hm6_1, pw_cell_below hb hm5_0, pw_cell_below hb hm5_1⟩)
           clear hb0 hv0 hm6_0 hm6_1 hm5_0 hm5_1
           obtain ⟨h0_, h1_, h2_, h3_, h4_, h5_, h6_, h7_⟩ := ALL.out wr HQ.out
           go_upto_region 27 with fail
           have BS := Aside0.mk (MapKept.heap_alloc wr (.cells #[.int .i64 (numI q i), .int .i64 0] 82)).1
           have HQ1 := Aside0.mk (below_then HQ.out HQ.out.size (below_alloc (Below.refl wr.heap.size wr) (.cells #[.int .i64 (numI q i), .int .i64 0] 82)))
           have HK := Aside0.mk (show wq.heap.size ≤ wr.heap.size from HQ.out.size)
           clear h0_ h1_ h2_ h3_ h4_ h5_ h6_ h7_ HQ
           generalize wr.alloc (.cells #[.int .i64 (numI q i), .int .i64 0] 82) = w1 at BS HQ1 ⊢
           generalize wr.heap.size = k at BS HK ⊢
           obtain ⟨h0_, h1_, h2_, h3_, h4_, h5_, h6_, h7_⟩ := ALL.out w1 HQ1.out
           go_upto_region 31 with (((with_reducible refine gate_store (t := 82) rfl ?_); refine wpList_store_whole rfl rfl rfl k _ #[.int .i64 (numI q i), .int .i64 0] _ rfl rfl BS.out (by kernel_rfl) rfl (onemkRelocs q i) ?_; intro w13 hp9; have BS1 := Aside0.mk hp9.blk; have HQ2 := Aside0.mk (hp9.below HQ1.out HK.out); clear hp9 BS HQ1 h0_ h1_ h2_ h3_ h4_ h5_ h6_ h7_; have BS := BS1; have HQ1 := HQ2; clear BS1 HQ2; obtain ⟨h0_, h1_, h2_, h3_, h4_, h5_, h6_, h7_⟩ := ALL.out _ HQ1.out))
           have hs0 := (blk_cell BS.out 0).trans rfl
           have hs1 := (blk_cell BS.out 1).trans rfl
           go_quiet ((go_at_call 79; (with_reducible refine (numS q i _ BB.out.1 BB.out.2).mono ?_); rintro e_ w_ ⟨rfl, rfl⟩; exact ⟨rfl, _, rfl⟩))
           clear hs0 hs1 h0_ h1_ h2_ h3_ h4_ h5_ h6_ h7_
           have HQ2 := Aside0.mk (below_then HQ1.out HQ1.out.size (pw_below_drewN (Below.refl _ _) nq))
           have BS1 := Aside0.mk (blk_below BS.out (pw_below_drewN (Below.refl _ _) nq))
           clear HQ1 BS
           have HQ1 := HQ2
           have BS := BS1
           clear HQ2 BS1
           generalize World.drewN _ nq = w3 at HQ1 BS ⊢
           obtain ⟨h0_, h1_, h2_, h3_, h4_, h5_, h6_, h7_⟩ := ALL.out w3 HQ1.out
           go_upto_region 33 with (((with_reducible refine gate_store (t := 82) rfl ?_); refine wpList_store_whole rfl rfl rfl k _ #[.int .i64 (numI q i), .int .i64 0] _ rfl rfl BS.out (by kernel_rfl) rfl (onemkRelocs q i) ?_; intro w13 hp9; have BS1 := Aside0.mk hp9.blk; have HQ2 := Aside0.mk (hp9.below HQ1.out HK.out); clear hp9 BS HQ1 h0_ h1_ h2_ h3_ h4_ h5_ h6_ h7_; have BS := BS1; have HQ1 := HQ2; clear BS1 HQ2; obtain ⟨h0_, h1_, h2_, h3_, h4_, h5_, h6_, h7_⟩ := ALL.out _ HQ1.out))
           have hs0 := (blk_cell BS.out 0).trans rfl
           have hs1 := (blk_cell BS.out 1).trans rfl
           go_quiet ((go_at_call 79; (with_reducible refine (numS q i _ BB.out.1 BB.out.2).mono ?_); rintro e_ w_ ⟨rfl, rfl⟩; exact ⟨rfl, _, rfl⟩))
           clear hs0 hs1 h0_ h1_ h2_ h3_ h4_ h5_ h6_ h7_
           have HQ2 := Aside0.mk (below_then HQ1.out HQ1.out.size (pw_below_drewN (Below.refl _ _) nq))
           have BS1 := Aside0.mk (blk_below BS.out (pw_below_drewN (Below.refl _ _) nq))
           clear HQ1 BS
           have HQ1 := HQ2
           have BS := BS1
           clear HQ2 BS1
           generalize World.drewN _ nq = w5 at HQ1 BS ⊢
           obtain ⟨h0_, h1_, h2_, h3_, h4_, h5_, h6_, h7_⟩ := ALL.out w5 HQ1.out
           go_wp2
           go_roundw
           case measure => have hq := HI.out; simp only [intOf]; omega
           case rel => exact ⟨i + 1, by first | rfl | go_num, by have := HI.out; omega, HQ1⟩
          ·
           have t2 : ((i : Int) == (L q : Int)) = false := beq_eq_false_iff_ne.mpr (by omega)
           clear h1 h2 hli hile
           have ALL := Aside0.mk (show ∀ W : World, Below wq.heap.size wq W → W.cell? ⟨g, 9, none⟩ = some (.slice (some ⟨o_, 0, none⟩) m capO) ∧ W.cell? ⟨o_, q, none⟩ = some (.slice (A q) (L q) (C q)) ∧ W.cell? ⟨g5, q, none⟩ = some (.slice (some ⟨b5, 0, none⟩) (L q + 1) y5) ∧ W.cell? ⟨g6, q, none⟩ = some (.slice (some ⟨b6, 0, none⟩) (L q + 70) y6) ∧ W.cell? ⟨b6, i * 2, none⟩ = some (.int .i64 (numI q i)) ∧ W.cell? ⟨b6, i * 2 + 1, none⟩ = some (.int .i64 0) from fun W hb => ⟨pw_cell_below hb hb0, pw_cell_below hb hv0, pw_cell_below hb HC5.out.1, pw_cell_below hb HC5.out.2, pw_cell_below hb hm6_0, pw_cell_below hb hm6_1⟩)
           clear hb0 hv0 hm6_0 hm6_1
           obtain ⟨h0_, h1_, h2_, h3_, h4_, h5_⟩ := ALL.out wr HQ.out
           go_upto_region 27 with fail
           have BS := Aside0.mk (MapKept.heap_alloc wr (.cells #[.int .i64 (numI q i), .int .i64 0] 82)).1
           have HQ1 := Aside0.mk (below_then HQ.out HQ.out.size (below_alloc (Below.refl wr.heap.size wr) (.cells #[.int .i64 (numI q i), .int .i64 0] 82)))
           have HK := Aside0.mk (show wq.heap.size ≤ wr.heap.size from HQ.out.size)
           clear h0_ h1_ h2_ h3_ h4_ h5_ HQ
           generalize wr.alloc (.cells #[.int .i64 (numI q i), .int .i64 0] 82) = w1 at BS HQ1 ⊢
           generalize wr.heap.size = k at BS HK ⊢
           obtain ⟨h0_, h1_, h2_, h3_, h4_, h5_⟩ := ALL.out w1 HQ1.out
           go_upto_region 31 with (fail)
           have hs0 := (blk_cell BS.out 0).trans rfl
           have hs1 := (blk_cell BS.out 1).trans rfl
           go_quiet ((go_at_call 79; (with_reducible refine (numS q i _ BB.out.1 BB.out.2).mono ?_); rintro e_ w_ ⟨rfl, rfl⟩; exact ⟨rfl, _, rfl⟩))
           clear hs0 hs1 h0_ h1_ h2_ h3_ h4_ h5_
           have HQ2 := Aside0.mk (below_then HQ1.out HQ1.out.size (pw_below_drewN (Below.refl _ _) nq))
           have BS1 := Aside0.mk (blk_below BS.out (pw_below_drewN (Below.refl _ _) nq))
           clear HQ1 BS
           have HQ1 := HQ2
           have BS := BS1
           clear HQ2 BS1
           generalize World.drewN _ nq = w3 at HQ1 BS ⊢
           obtain ⟨h0_, h1_, h2_, h3_, h4_, h5_⟩ := ALL.out w3 HQ1.out
           go_upto_region 33 with (((with_reducible refine gate_store (t := 82) rfl ?_); refine wpList_store_whole rfl rfl rfl k _ #[.int .i64 (numI q i), .int .i64 0] _ rfl rfl BS.out (by kernel_rfl) rfl (onemkRelocs q i) ?_; intro w13 hp9; have BS1 := Aside0.mk hp9.blk; have HQ2 := Aside0.mk (hp9.below HQ1.out HK.out); clear hp9 BS HQ1 h0_ h1_ h2_ h3_ h4_ h5_; have BS := BS1; have HQ1 := HQ2; clear BS1 HQ2; obtain ⟨h0_, h1_, h2_, h3_, h4_, h5_⟩ := ALL.out _ HQ1.out))
           have hs0 := (blk_cell BS.out 0).trans rfl
           have hs1 := (blk_cell BS.out 1).trans rfl
           go_quiet ((go_at_call 79; (with_reducible refine (numS q i _ BB.out.1 BB.out.2).mono ?_); rintro e_ w_ ⟨rfl, rfl⟩; exact ⟨rfl, _, rfl⟩))
           clear hs0 hs1 h0_ h1_ h2_ h3_ h4_ h5_
           have HQ2 := Aside0.mk (below_then HQ1.out HQ1.out.size (pw_below_drewN (Below.refl _ _) nq))
           have BS1 := Aside0.mk (blk_below BS.out (pw_below_drewN (Below.refl _ _) nq))
           clear HQ1 BS
           have HQ1 := HQ2
           have BS := BS1
           clear HQ2 BS1
           generalize World.drewN _ nq = w5 at HQ1 BS ⊢
           obtain ⟨h0_, h1_, h2_, h3_, h4_, h5_⟩ := ALL.out w5 HQ1.out
           go_wp2
           go_roundw
           case measure => have hq := HI.out; simp only [intOf]; omega
           case rel => exact ⟨i + 1, by first | rfl | go_num, by have := HI.out; omega, HQ1⟩
        ·
         have hie : i = L q + 70 := by omega
         subst hie
         have hlib : decide (((L q + 70 : Nat) : Int) < ((L q + 70 : Nat) : Int)) = false := by simp
         have hlib2 : decide (((L q + 70 : Nat) : Int) < (L q : Int) + 70) = false := decide_eq_false (by omega)
         have hc6 := pw_cell_below HQ.out HC5.out.2
         clear hli hile
         go_wp2
         go_roundw
         case measure => have hq := HN.out; simp only [intOf]; omega
         case rel => exact ⟨q + 1, by first | rfl | go_num, by have := HN.out; omega, ⟨HP.out.below HQ.out⟩⟩
      ·
       have hqe : q = m := by omega
       subst hqe
       have hltb : decide ((q : Int) < (q : Int)) = false := by simp
       clear hlt hqle
       go_wp2
       go_ret
       exact ⟨rfl, HP.out.st⟩
end Go.Proofs.YtiaohbbafaaibabGreatDoor.P

/- OWN TEXT: Bag.apart of each kind, where no list of it was gathered: true, and nothing is turned. -/
namespace Go.Proofs.YtiaohbbafaaibabGreatDoor.P
open Go.RowKit Go.Proofs.YtiaohbbafaaibabGreatDoorW.PrintWords Go.Proofs.YtiaohbbafaaibabGreatDoorW.PrintLast Go.Proofs.YtiaohbbafaaibabGreatDoorW.PrintMore Go.Proofs.YtiaohbbafaaibabGreatDoor.Arr
set_option linter.unusedVariables false
set_option linter.unusedSimpArgs false
set_option maxHeartbeats 8000000 in
set_option maxRecDepth 100000 in
theorem noBytes.calls (w : World) (g : Nat) (cg : Array Value) (hbag : w.heap[g]? = some (.cells cg 56 (0, 0))) (hc : cg[0]? = some (.slice none 0 0)) :
  Calls Tryz.prog 40 #[.pointer (some ⟨g, 0, none⟩)] w fun e w' => e = .returned (.bool true) ∧ w' = w := by
 have hb0 := (blk_cell hbag 0).trans hc
 clear hbag hc
 go_enter Tryz.func40, Tryz.ntmps40
 go_wp2
 go_loop [3] (fun u3 => u3 = .int .i64 0) (fun _ => 0)
 case atStart => rfl
 case round =>
  subst hrel
  go_wp2
  go_loop [6, 7] (fun u6 u7 => u6 = .slice none 0 0 ∧ u7 = .int .i64 0) (fun _ _ => 0)
  case atStart => exact ⟨rfl, rfl⟩
  case round =>
   obtain ⟨rfl, rfl⟩ := hrel
   go_wp2
   go_loop [10] (fun u10 => u10 = .int .i64 0) (fun _ => 0)
   case atStart => rfl
   case round =>
    subst hrel
    go_wp2
    go_ret
    exact ⟨rfl, rfl⟩
set_option maxHeartbeats 8000000 in
set_option maxRecDepth 100000 in
theorem noInts.calls (w : World) (g : Nat) (cg : Array Value) (hbag : w.heap[g]? = some (.cells cg 56 (0, 0))) (hc : cg[1]? = some (.slice none 0 0)) :
  Calls Tryz.prog 41 #[.pointer (some ⟨g, 0, none⟩)] w fun e w' => e = .returned (.bool true) ∧ w' = w := by
 have hb0 := (blk_cell hbag 1).trans hc
 clear hbag hc
 go_enter Tryz.func41, Tryz.ntmps41
 go_wp2
 go_loop [3] (fun u3 => u3 = .int .i64 0) (fun _ => 0)
 case atStart => rfl
 case round =>
  subst hrel
  go_wp2
  go_loop [6, 7] (fun u6 u7 => u6 = .slice none 0 0 ∧ u7 = .int .i64 0) (fun _ _ => 0)
  case atStart => exact ⟨rfl, rfl⟩
  case round =>
   obtain ⟨rfl, rfl⟩ := hrel
   go_wp2
   go_loop [10] (fun u10 => u10 = .int .i64 0) (fun _ => 0)
   case atStart => rfl
   case round =>
    subst hrel
    go_wp2
    go_ret
    exact ⟨rfl, rfl⟩
set_option maxHeartbeats 8000000 in
set_option maxRecDepth 100000 in
theorem noBools.calls (w : World) (g : Nat) (cg : Array Value) (hbag : w.heap[g]? = some (.cells cg 56 (0, 0))) (hc : cg[2]? = some (.slice none 0 0)) :
  Calls Tryz.prog 42 #[.pointer (some ⟨g, 0, none⟩)] w fun e w' => e = .returned (.bool true) ∧ w' = w := by
 have hb0 := (blk_cell hbag 2).trans hc
 clear hbag hc
 go_enter Tryz.func42, Tryz.ntmps42
 go_wp2
 go_loop [3] (fun u3 => u3 = .int .i64 0) (fun _ => 0)
 case atStart => rfl
 case round =>
  subst hrel
  go_wp2
  go_loop [6, 7] (fun u6 u7 => u6 = .slice none 0 0 ∧ u7 = .int .i64 0) (fun _ _ => 0)
  case atStart => exact ⟨rfl, rfl⟩
  case round =>
   obtain ⟨rfl, rfl⟩ := hrel
   go_wp2
   go_loop [10] (fun u10 => u10 = .int .i64 0) (fun _ => 0)
   case atStart => rfl
   case round =>
    subst hrel
    go_wp2
    go_ret
    exact ⟨rfl, rfl⟩
set_option maxHeartbeats 8000000 in
set_option maxRecDepth 100000 in
theorem noTexts.calls (w : World) (g : Nat) (cg : Array Value) (hbag : w.heap[g]? = some (.cells cg 56 (0, 0))) (hc : cg[3]? = some (.slice none 0 0)) :
  Calls Tryz.prog 43 #[.pointer (some ⟨g, 0, none⟩)] w fun e w' => e = .returned (.bool true) ∧ w' = w := by
 have hb0 := (blk_cell hbag 3).trans hc
 clear hbag hc
 go_enter Tryz.func43, Tryz.ntmps43
 go_wp2
 go_loop [3] (fun u3 => u3 = .int .i64 0) (fun _ => 0)
 case atStart => rfl
 case round =>
  subst hrel
  go_wp2
  go_loop [6, 7] (fun u6 u7 => u6 = .slice none 0 0 ∧ u7 = .int .i64 0) (fun _ _ => 0)
  case atStart => exact ⟨rfl, rfl⟩
  case round =>
   obtain ⟨rfl, rfl⟩ := hrel
   go_wp2
   go_loop [10] (fun u10 => u10 = .int .i64 0) (fun _ => 0)
   case atStart => rfl
   case round =>
    subst hrel
    go_wp2
    go_ret
    exact ⟨rfl, rfl⟩
set_option maxHeartbeats 8000000 in
set_option maxRecDepth 100000 in
theorem noLongs.calls (w : World) (g : Nat) (cg : Array Value) (hbag : w.heap[g]? = some (.cells cg 56 (0, 0))) (hc : cg[4]? = some (.slice none 0 0)) :
  Calls Tryz.prog 44 #[.pointer (some ⟨g, 0, none⟩)] w fun e w' => e = .returned (.bool true) ∧ w' = w := by
 have hb0 := (blk_cell hbag 4).trans hc
 clear hbag hc
 go_enter Tryz.func44, Tryz.ntmps44
 go_wp2
 go_loop [3] (fun u3 => u3 = .int .i64 0) (fun _ => 0)
 case atStart => rfl
 case round =>
  subst hrel
  go_wp2
  go_loop [6, 7] (fun u6 u7 => u6 = .slice none 0 0 ∧ u7 = .int .i64 0) (fun _ _ => 0)
  case atStart => exact ⟨rfl, rfl⟩
  case round =>
   obtain ⟨rfl, rfl⟩ := hrel
   go_wp2
   go_loop [10] (fun u10 => u10 = .int .i64 0) (fun _ => 0)
   case atStart => rfl
   case round =>
    subst hrel
    go_wp2
    go_ret
    exact ⟨rfl, rfl⟩
set_option maxHeartbeats 8000000 in
set_option maxRecDepth 100000 in
theorem noWords.calls (w : World) (g : Nat) (cg : Array Value) (hbag : w.heap[g]? = some (.cells cg 56 (0, 0))) (hc : cg[5]? = some (.slice none 0 0)) :
  Calls Tryz.prog 45 #[.pointer (some ⟨g, 0, none⟩)] w fun e w' => e = .returned (.bool true) ∧ w' = w := by
 have hb0 := (blk_cell hbag 5).trans hc
 clear hbag hc
 go_enter Tryz.func45, Tryz.ntmps45
 go_wp2
 go_loop [3] (fun u3 => u3 = .int .i64 0) (fun _ => 0)
 case atStart => rfl
 case round =>
  subst hrel
  go_wp2
  go_loop [6, 7] (fun u6 u7 => u6 = .slice none 0 0 ∧ u7 = .int .i64 0) (fun _ _ => 0)
  case atStart => exact ⟨rfl, rfl⟩
  case round =>
   obtain ⟨rfl, rfl⟩ := hrel
   go_wp2
   go_loop [10] (fun u10 => u10 = .int .i64 0) (fun _ => 0)
   case atStart => rfl
   case round =>
    subst hrel
    go_wp2
    go_ret
    exact ⟨rfl, rfl⟩
set_option maxHeartbeats 8000000 in
set_option maxRecDepth 100000 in
theorem noRow.calls (w : World) (g : Nat) (cg : Array Value) (hbag : w.heap[g]? = some (.cells cg 56 (0, 0))) (hc : cg[6]? = some (.slice none 0 0)) :
  Calls Tryz.prog 46 #[.pointer (some ⟨g, 0, none⟩)] w fun e w' => e = .returned (.bool true) ∧ w' = w := by
 have hb0 := (blk_cell hbag 6).trans hc
 clear hbag hc
 go_enter Tryz.func46, Tryz.ntmps46
 go_wp2
 go_loop [3] (fun u3 => u3 = .int .i64 0) (fun _ => 0)
 case atStart => rfl
 case round =>
  subst hrel
  go_wp2
  go_loop [6, 7] (fun u6 u7 => u6 = .slice none 0 0 ∧ u7 = .int .i64 0) (fun _ _ => 0)
  case atStart => exact ⟨rfl, rfl⟩
  case round =>
   obtain ⟨rfl, rfl⟩ := hrel
   go_wp2
   go_loop [10] (fun u10 => u10 = .int .i64 0) (fun _ => 0)
   case atStart => rfl
   case round =>
    subst hrel
    go_wp2
    go_ret
    exact ⟨rfl, rfl⟩
set_option maxHeartbeats 8000000 in
set_option maxRecDepth 100000 in
theorem noIns.calls (w : World) (g : Nat) (cg : Array Value) (hbag : w.heap[g]? = some (.cells cg 56 (0, 0))) (hc : cg[7]? = some (.slice none 0 0)) :
  Calls Tryz.prog 47 #[.pointer (some ⟨g, 0, none⟩)] w fun e w' => e = .returned (.bool true) ∧ w' = w := by
 have hb0 := (blk_cell hbag 7).trans hc
 clear hbag hc
 go_enter Tryz.func47, Tryz.ntmps47
 go_wp2
 go_loop [3] (fun u3 => u3 = .int .i64 0) (fun _ => 0)
 case atStart => rfl
 case round =>
  subst hrel
  go_wp2
  go_loop [6, 7] (fun u6 u7 => u6 = .slice none 0 0 ∧ u7 = .int .i64 0) (fun _ _ => 0)
  case atStart => exact ⟨rfl, rfl⟩
  case round =>
   obtain ⟨rfl, rfl⟩ := hrel
   go_wp2
   go_loop [10] (fun u10 => u10 = .int .i64 0) (fun _ => 0)
   case atStart => rfl
   case round =>
    subst hrel
    go_wp2
    go_ret
    exact ⟨rfl, rfl⟩
set_option maxHeartbeats 8000000 in
set_option maxRecDepth 100000 in
theorem noSymbols.calls (w : World) (g : Nat) (cg : Array Value) (hbag : w.heap[g]? = some (.cells cg 56 (0, 0))) (hc : cg[8]? = some (.slice none 0 0)) :
  Calls Tryz.prog 48 #[.pointer (some ⟨g, 0, none⟩)] w fun e w' => e = .returned (.bool true) ∧ w' = w := by
 have hb0 := (blk_cell hbag 8).trans hc
 clear hbag hc
 go_enter Tryz.func48, Tryz.ntmps48
 go_wp2
 go_loop [3] (fun u3 => u3 = .int .i64 0) (fun _ => 0)
 case atStart => rfl
 case round =>
  subst hrel
  go_wp2
  go_loop [6, 7] (fun u6 u7 => u6 = .slice none 0 0 ∧ u7 = .int .i64 0) (fun _ _ => 0)
  case atStart => exact ⟨rfl, rfl⟩
  case round =>
   obtain ⟨rfl, rfl⟩ := hrel
   go_wp2
   go_loop [10] (fun u10 => u10 = .int .i64 0) (fun _ => 0)
   case atStart => rfl
   case round =>
    subst hrel
    go_wp2
    go_ret
    exact ⟨rfl, rfl⟩
set_option maxHeartbeats 8000000 in
set_option maxRecDepth 100000 in
theorem noRelocs.calls (w : World) (g : Nat) (cg : Array Value) (hbag : w.heap[g]? = some (.cells cg 56 (0, 0))) (hc : cg[9]? = some (.slice none 0 0)) :
  Calls Tryz.prog 49 #[.pointer (some ⟨g, 0, none⟩)] w fun e w' => e = .returned (.bool true) ∧ w' = w := by
 have hb0 := (blk_cell hbag 9).trans hc
 clear hbag hc
 go_enter Tryz.func49, Tryz.ntmps49
 go_wp2
 go_loop [3] (fun u3 => u3 = .int .i64 0) (fun _ => 0)
 case atStart => rfl
 case round =>
  subst hrel
  go_wp2
  go_loop [6, 7] (fun u6 u7 => u6 = .slice none 0 0 ∧ u7 = .int .i64 0) (fun _ _ => 0)
  case atStart => exact ⟨rfl, rfl⟩
  case round =>
   obtain ⟨rfl, rfl⟩ := hrel
   go_wp2
   go_loop [10] (fun u10 => u10 = .int .i64 0) (fun _ => 0)
   case atStart => rfl
   case round =>
    subst hrel
    go_wp2
    go_ret
    exact ⟨rfl, rfl⟩
set_option maxHeartbeats 8000000 in
set_option maxRecDepth 100000 in
theorem noPorts.calls (w : World) (g : Nat) (cg : Array Value) (hbag : w.heap[g]? = some (.cells cg 56 (0, 0))) (hc : cg[10]? = some (.slice none 0 0)) :
  Calls Tryz.prog 50 #[.pointer (some ⟨g, 0, none⟩)] w fun e w' => e = .returned (.bool true) ∧ w' = w := by
 have hb0 := (blk_cell hbag 10).trans hc
 clear hbag hc
 go_enter Tryz.func50, Tryz.ntmps50
 go_wp2
 go_loop [3] (fun u3 => u3 = .int .i64 0) (fun _ => 0)
 case atStart => rfl
 case round =>
  subst hrel
  go_wp2
  go_loop [6, 7] (fun u6 u7 => u6 = .slice none 0 0 ∧ u7 = .int .i64 0) (fun _ _ => 0)
  case atStart => exact ⟨rfl, rfl⟩
  case round =>
   obtain ⟨rfl, rfl⟩ := hrel
   go_wp2
   go_loop [10] (fun u10 => u10 = .int .i64 0) (fun _ => 0)
   case atStart => rfl
   case round =>
    subst hrel
    go_wp2
    go_ret
    exact ⟨rfl, rfl⟩
set_option maxHeartbeats 8000000 in
set_option maxRecDepth 100000 in
theorem noBlocks.calls (w : World) (g : Nat) (cg : Array Value) (hbag : w.heap[g]? = some (.cells cg 56 (0, 0))) (hc : cg[11]? = some (.slice none 0 0)) :
  Calls Tryz.prog 51 #[.pointer (some ⟨g, 0, none⟩)] w fun e w' => e = .returned (.bool true) ∧ w' = w := by
 have hb0 := (blk_cell hbag 11).trans hc
 clear hbag hc
 go_enter Tryz.func51, Tryz.ntmps51
 go_wp2
 go_loop [3] (fun u3 => u3 = .int .i64 0) (fun _ => 0)
 case atStart => rfl
 case round =>
  subst hrel
  go_wp2
  go_loop [6, 7] (fun u6 u7 => u6 = .slice none 0 0 ∧ u7 = .int .i64 0) (fun _ _ => 0)
  case atStart => exact ⟨rfl, rfl⟩
  case round =>
   obtain ⟨rfl, rfl⟩ := hrel
   go_wp2
   go_loop [10] (fun u10 => u10 = .int .i64 0) (fun _ => 0)
   case atStart => rfl
   case round =>
    subst hrel
    go_wp2
    go_ret
    exact ⟨rfl, rfl⟩
set_option maxHeartbeats 8000000 in
set_option maxRecDepth 100000 in
theorem noSpots.calls (w : World) (g : Nat) (cg : Array Value) (hbag : w.heap[g]? = some (.cells cg 56 (0, 0))) (hc : cg[12]? = some (.slice none 0 0)) :
  Calls Tryz.prog 52 #[.pointer (some ⟨g, 0, none⟩)] w fun e w' => e = .returned (.bool true) ∧ w' = w := by
 have hb0 := (blk_cell hbag 12).trans hc
 clear hbag hc
 go_enter Tryz.func52, Tryz.ntmps52
 go_wp2
 go_loop [3] (fun u3 => u3 = .int .i64 0) (fun _ => 0)
 case atStart => rfl
 case round =>
  subst hrel
  go_wp2
  go_loop [6, 7] (fun u6 u7 => u6 = .slice none 0 0 ∧ u7 = .int .i64 0) (fun _ _ => 0)
  case atStart => exact ⟨rfl, rfl⟩
  case round =>
   obtain ⟨rfl, rfl⟩ := hrel
   go_wp2
   go_loop [10] (fun u10 => u10 = .int .i64 0) (fun _ => 0)
   case atStart => rfl
   case round =>
    subst hrel
    go_wp2
    go_ret
    exact ⟨rfl, rfl⟩
set_option maxHeartbeats 8000000 in
set_option maxRecDepth 100000 in
theorem noRows.calls (w : World) (g : Nat) (cg : Array Value) (hbag : w.heap[g]? = some (.cells cg 56 (0, 0))) (hc : cg[13]? = some (.slice none 0 0)) :
  Calls Tryz.prog 53 #[.pointer (some ⟨g, 0, none⟩)] w fun e w' => e = .returned (.bool true) ∧ w' = w := by
 have hb0 := (blk_cell hbag 13).trans hc
 clear hbag hc
 go_enter Tryz.func53, Tryz.ntmps53
 go_wp2
 go_loop [3] (fun u3 => u3 = .int .i64 0) (fun _ => 0)
 case atStart => rfl
 case round =>
  subst hrel
  go_wp2
  go_loop [6, 7] (fun u6 u7 => u6 = .slice none 0 0 ∧ u7 = .int .i64 0) (fun _ _ => 0)
  case atStart => exact ⟨rfl, rfl⟩
  case round =>
   obtain ⟨rfl, rfl⟩ := hrel
   go_wp2
   go_loop [10] (fun u10 => u10 = .int .i64 0) (fun _ => 0)
   case atStart => rfl
   case round =>
    subst hrel
    go_wp2
    go_ret
    exact ⟨rfl, rfl⟩
set_option maxHeartbeats 8000000 in
set_option maxRecDepth 100000 in
theorem noRepeats.calls (w : World) (g : Nat) (cg : Array Value) (hbag : w.heap[g]? = some (.cells cg 56 (0, 0))) (hc : cg[14]? = some (.slice none 0 0)) :
  Calls Tryz.prog 54 #[.pointer (some ⟨g, 0, none⟩)] w fun e w' => e = .returned (.bool true) ∧ w' = w := by
 have hb0 := (blk_cell hbag 14).trans hc
 clear hbag hc
 go_enter Tryz.func54, Tryz.ntmps54
 go_wp2
 go_loop [3] (fun u3 => u3 = .int .i64 0) (fun _ => 0)
 case atStart => rfl
 case round =>
  subst hrel
  go_wp2
  go_loop [6, 7] (fun u6 u7 => u6 = .slice none 0 0 ∧ u7 = .int .i64 0) (fun _ _ => 0)
  case atStart => exact ⟨rfl, rfl⟩
  case round =>
   obtain ⟨rfl, rfl⟩ := hrel
   go_wp2
   go_loop [10] (fun u10 => u10 = .int .i64 0) (fun _ => 0)
   case atStart => rfl
   case round =>
    subst hrel
    go_wp2
    go_ret
    exact ⟨rfl, rfl⟩
set_option maxHeartbeats 8000000 in
set_option maxRecDepth 100000 in
theorem noFolds.calls (w : World) (g : Nat) (cg : Array Value) (hbag : w.heap[g]? = some (.cells cg 56 (0, 0))) (hc : cg[15]? = some (.slice none 0 0)) :
  Calls Tryz.prog 55 #[.pointer (some ⟨g, 0, none⟩)] w fun e w' => e = .returned (.bool true) ∧ w' = w := by
 have hb0 := (blk_cell hbag 15).trans hc
 clear hbag hc
 go_enter Tryz.func55, Tryz.ntmps55
 go_wp2
 go_loop [3] (fun u3 => u3 = .int .i64 0) (fun _ => 0)
 case atStart => rfl
 case round =>
  subst hrel
  go_wp2
  go_loop [6, 7] (fun u6 u7 => u6 = .slice none 0 0 ∧ u7 = .int .i64 0) (fun _ _ => 0)
  case atStart => exact ⟨rfl, rfl⟩
  case round =>
   obtain ⟨rfl, rfl⟩ := hrel
   go_wp2
   go_loop [10] (fun u10 => u10 = .int .i64 0) (fun _ => 0)
   case atStart => rfl
   case round =>
    subst hrel
    go_wp2
    go_ret
    exact ⟨rfl, rfl⟩
set_option maxHeartbeats 8000000 in
set_option maxRecDepth 100000 in
theorem noObjects.calls (w : World) (g : Nat) (cg : Array Value) (hbag : w.heap[g]? = some (.cells cg 56 (0, 0))) (hc : cg[16]? = some (.slice none 0 0)) :
  Calls Tryz.prog 56 #[.pointer (some ⟨g, 0, none⟩)] w fun e w' => e = .returned (.bool true) ∧ w' = w := by
 have hb0 := (blk_cell hbag 16).trans hc
 clear hbag hc
 go_enter Tryz.func56, Tryz.ntmps56
 go_wp2
 go_loop [3] (fun u3 => u3 = .int .i64 0) (fun _ => 0)
 case atStart => rfl
 case round =>
  subst hrel
  go_wp2
  go_loop [6, 7] (fun u6 u7 => u6 = .slice none 0 0 ∧ u7 = .int .i64 0) (fun _ _ => 0)
  case atStart => exact ⟨rfl, rfl⟩
  case round =>
   obtain ⟨rfl, rfl⟩ := hrel
   go_wp2
   go_loop [10] (fun u10 => u10 = .int .i64 0) (fun _ => 0)
   case atStart => rfl
   case round =>
    subst hrel
    go_wp2
    go_ret
    exact ⟨rfl, rfl⟩
end Go.Proofs.YtiaohbbafaaibabGreatDoor.P

/- OWN TEXT: Bag.AddObject, and Bag.Apart over two objects' lists, walked. -/
namespace Go.Proofs.YtiaohbbafaaibabGreatDoor.P
open Go.RowKit Go.Maps Go.Proofs.YtiaohbbafaaibabGreatDoorW.PrintWords Go.Proofs.YtiaohbbafaaibabGreatDoorW.PrintLast Go.Proofs.YtiaohbbafaaibabGreatDoorW.PrintMore Go.Proofs.YtiaohbbafaaibabGreatDoor.Arr Go.Proofs.YtiaohbbafaaibabGreatDoor.MapB
set_option linter.unusedVariables false
set_option linter.unusedSimpArgs false
def Far (W W1 : World) (g : Nat) : Prop := ∀ k cs e, W.heap[k]? = some (.cells cs e (0, 0)) → k ≠ g → e ≠ 23 → e ≠ 22 → e ≠ 24 → e ≠ 25 → W1.heap[k]? = W.heap[k]?
theorem Far.trans {W W1 W2 : World} {g : Nat} (h : Far W W1 g) (k : Far W1 W2 g) : Far W W2 g := fun j cs e hj a1 a2 a3 a4 a5 => (k j cs e ((h j cs e hj a1 a2 a3 a4 a5).trans hj) a1 a2 a3 a4 a5).trans (h j cs e hj a1 a2 a3 a4 a5)
theorem far_of {W W1 : World} {g E1 : Nat} (hE : E1 = 23 ∨ E1 = 22 ∨ E1 = 24 ∨ E1 = 25) (h : ∀ k, k < W.heap.size → k ≠ g → (∀ cs, W.heap[k]? ≠ some (.cells cs E1 (0, 0))) → W1.heap[k]? = W.heap[k]?) : Far W W1 g := fun k cs e hk a1 a2 a3 a4 a5 => h k (blk_lt hk) a1 (fun cs' hc => by
  rw [hk] at hc
  injection hc with hc
  injection hc with _ hc _
  rcases hE with h | h | h | h
  · exact a2 (hc.trans h)
  · exact a3 (hc.trans h)
  · exact a4 (hc.trans h)
  · exact a5 (hc.trans h))
theorem kept_far {α : Type} {d : Kd α} (hE : d.E = []) {e base g : Nat} {cg : Array Value} {W W1 : World} {v : Value} {l : List α} (h : d.R e W base (fun _ => True) v l) (hb : W.heap[g]? = some (.cells cg 56 (0, 0))) (h0 : e ≠ 56) (h4 : e ≠ 23) (h5 : e ≠ 22) (h8 : e ≠ 24) (h9 : e ≠ 25) (hk : Far W W1 g) : d.R e W1 base (fun _ => True) v l := by
 refine Kd.R_mono (Kd.R_move (Kd.R_bound h) (fun k hk2 => ?_)) (fun _ _ => trivial)
 obtain ⟨_, _, _, q, hq, cells, hc⟩ := hk2
 rw [hE] at hq
 obtain rfl : q = e := by
  rcases List.mem_cons.1 hq with h | h
  ·
   exact h
  ·
   cases h
 refine hk k cells q hc (fun hkg => ?_) h4 h5 h8 h9
 subst hkg
 rw [hc] at hb
 injection hb with hb
 injection hb with _ hb
 exact h0 hb
theorem row_far {e E1 base g : Nat} {W W1 : World} {v : Value} {l : List Tri} {cg : Array Value} (h : KS.R e W base (fun _ => True) v l) (hb : W.heap[g]? = some (.cells cg 56 (0, 0))) (he : e ≠ 56) (he1 : e ≠ E1) (hk : ∀ k, k < W.heap.size → k ≠ g → (∀ cs, W.heap[k]? ≠ some (.cells cs E1 (0, 0))) → W1.heap[k]? = W.heap[k]?) : KS.R e W1 base (fun _ => True) v l := by
 refine Kd.R_mono (Kd.R_move (Kd.R_bound h) (fun k hk2 => ?_)) (fun _ _ => trivial)
 obtain ⟨_, _, h4, q, hq, cells, hc⟩ := hk2
 obtain rfl : q = e := by
  rcases List.mem_cons.1 hq with h | h
  ·
   exact h
  ·
   cases h
 refine hk k h4 (fun hkg => ?_) (fun cs hcs => ?_)
 ·
  subst hkg
  rw [hc] at hb
  injection hb with hb
  injection hb with _ hb
  exact he hb
 ·
  rw [hc] at hcs
  injection hcs with hcs
  injection hcs with _ hcs
  exact he1 hcs
structure BagO (w0 W : World) (g : Nat) (cg : Array Value) (u4 u5 u8 u9 : Value) (t4 t5 t8 t9 : List Tri) : Prop where
  low : Below w0.heap.size w0 W
  gb : w0.heap.size ≤ g
  blk : W.heap[g]? = some (.cells cg 56 (0, 0))
  sz : cg.size = 17
  nil : ∀ k, k < 17 → k ≠ 4 → k ≠ 5 → k ≠ 8 → k ≠ 9 → cg[k]? = some (.slice none 0 0)
  c4 : cg[4]? = some u4
  r4 : KS.R 23 W w0.heap.size (fun _ => True) u4 t4
  c5 : cg[5]? = some u5
  r5 : KS.R 22 W w0.heap.size (fun _ => True) u5 t5
  c8 : cg[8]? = some u8
  r8 : KS.R 24 W w0.heap.size (fun _ => True) u8 t8
  c9 : cg[9]? = some u9
  r9 : KS.R 25 W w0.heap.size (fun _ => True) u9 t9
theorem BagO.below {w0 W W1 : World} {g : Nat} {cg : Array Value} {u4 u5 u8 u9 : Value} {t4 t5 t8 t9 : List Tri} (h : BagO w0 W g cg u4 u5 u8 u9 t4 t5 t8 t9) (k : Below W.heap.size W W1) : BagO w0 W1 g cg u4 u5 u8 u9 t4 t5 t8 t9 :=
 ⟨below_then h.low h.low.size k, h.gb, blk_below h.blk k, h.sz, h.nil, h.c4, Kd.R_below h.r4 k, h.c5, Kd.R_below h.r5 k, h.c8, Kd.R_below h.r8 k, h.c9, Kd.R_below h.r9 k⟩
theorem bagLongs.calls {w0 W : World} {g : Nat} {cg : Array Value} {u4 u5 u8 u9 : Value} {t4 t5 t8 t9 : List Tri} (h : BagO w0 W g cg u4 u5 u8 u9 t4 t5 t8 t9) (hn : t4.length < 300) (p : Tri) :
  Calls Tryz.prog 76 #[.pointer (some ⟨g, 0, none⟩), .slice p.1 p.2.1 p.2.2] W fun e w' => e = .returned (.tuple #[]) ∧ (∃ cg v, BagO w0 w' g cg v u5 u8 u9 (t4 ++ [p]) t5 t8 t9) ∧ Far W w' g := by
 refine (addLongs.calls w0 W g cg t4 u4 h.blk h.c4 h.gb h.low h.r4 hn p).mono ?_
 rintro e w' ⟨rfl, v, hb_, hr_, hl_, hk_⟩
 exact ⟨rfl, ⟨_, v, hl_, h.gb, hb_, by rw [Array.size_setIfInBounds, h.sz], fun k a0 a4 a5 a8 a9 => by rw [Array.getElem?_setIfInBounds_ne (by omega)]; exact h.nil k a0 a4 a5 a8 a9, by rw [Array.getElem?_setIfInBounds_self_of_lt (by rw [h.sz]; decide)], hr_, by rw [Array.getElem?_setIfInBounds_ne (by decide)]; exact h.c5, row_far h.r5 h.blk (by decide) (by decide) hk_, by rw [Array.getElem?_setIfInBounds_ne (by decide)]; exact h.c8, row_far h.r8 h.blk (by decide) (by decide) hk_, by rw [Array.getElem?_setIfInBounds_ne (by decide)]; exact h.c9, row_far h.r9 h.blk (by decide) (by decide) hk_⟩, far_of (by decide) hk_⟩
theorem bagWords.calls {w0 W : World} {g : Nat} {cg : Array Value} {u4 u5 u8 u9 : Value} {t4 t5 t8 t9 : List Tri} (h : BagO w0 W g cg u4 u5 u8 u9 t4 t5 t8 t9) (hn : t5.length < 300) (p : Tri) :
  Calls Tryz.prog 75 #[.pointer (some ⟨g, 0, none⟩), .slice p.1 p.2.1 p.2.2] W fun e w' => e = .returned (.tuple #[]) ∧ (∃ cg v, BagO w0 w' g cg u4 v u8 u9 t4 (t5 ++ [p]) t8 t9) ∧ Far W w' g := by
 refine (addWords.calls w0 W g cg t5 u5 h.blk h.c5 h.gb h.low h.r5 hn p).mono ?_
 rintro e w' ⟨rfl, v, hb_, hr_, hl_, hk_⟩
 exact ⟨rfl, ⟨_, v, hl_, h.gb, hb_, by rw [Array.size_setIfInBounds, h.sz], fun k a0 a4 a5 a8 a9 => by rw [Array.getElem?_setIfInBounds_ne (by omega)]; exact h.nil k a0 a4 a5 a8 a9, by rw [Array.getElem?_setIfInBounds_ne (by decide)]; exact h.c4, row_far h.r4 h.blk (by decide) (by decide) hk_, by rw [Array.getElem?_setIfInBounds_self_of_lt (by rw [h.sz]; decide)], hr_, by rw [Array.getElem?_setIfInBounds_ne (by decide)]; exact h.c8, row_far h.r8 h.blk (by decide) (by decide) hk_, by rw [Array.getElem?_setIfInBounds_ne (by decide)]; exact h.c9, row_far h.r9 h.blk (by decide) (by decide) hk_⟩, far_of (by decide) hk_⟩
theorem bagSymbols.calls {w0 W : World} {g : Nat} {cg : Array Value} {u4 u5 u8 u9 : Value} {t4 t5 t8 t9 : List Tri} (h : BagO w0 W g cg u4 u5 u8 u9 t4 t5 t8 t9) (hn : t8.length < 300) (p : Tri) :
  Calls Tryz.prog 77 #[.pointer (some ⟨g, 0, none⟩), .slice p.1 p.2.1 p.2.2] W fun e w' => e = .returned (.tuple #[]) ∧ (∃ cg v, BagO w0 w' g cg u4 u5 v u9 t4 t5 (t8 ++ [p]) t9) ∧ Far W w' g := by
 refine (addSymbols.calls w0 W g cg t8 u8 h.blk h.c8 h.gb h.low h.r8 hn p).mono ?_
 rintro e w' ⟨rfl, v, hb_, hr_, hl_, hk_⟩
 exact ⟨rfl, ⟨_, v, hl_, h.gb, hb_, by rw [Array.size_setIfInBounds, h.sz], fun k a0 a4 a5 a8 a9 => by rw [Array.getElem?_setIfInBounds_ne (by omega)]; exact h.nil k a0 a4 a5 a8 a9, by rw [Array.getElem?_setIfInBounds_ne (by decide)]; exact h.c4, row_far h.r4 h.blk (by decide) (by decide) hk_, by rw [Array.getElem?_setIfInBounds_ne (by decide)]; exact h.c5, row_far h.r5 h.blk (by decide) (by decide) hk_, by rw [Array.getElem?_setIfInBounds_self_of_lt (by rw [h.sz]; decide)], hr_, by rw [Array.getElem?_setIfInBounds_ne (by decide)]; exact h.c9, row_far h.r9 h.blk (by decide) (by decide) hk_⟩, far_of (by decide) hk_⟩
theorem bagRelocs.calls {w0 W : World} {g : Nat} {cg : Array Value} {u4 u5 u8 u9 : Value} {t4 t5 t8 t9 : List Tri} (h : BagO w0 W g cg u4 u5 u8 u9 t4 t5 t8 t9) (hn : t9.length < 300) (p : Tri) :
  Calls Tryz.prog 78 #[.pointer (some ⟨g, 0, none⟩), .slice p.1 p.2.1 p.2.2] W fun e w' => e = .returned (.tuple #[]) ∧ (∃ cg v, BagO w0 w' g cg u4 u5 u8 v t4 t5 t8 (t9 ++ [p])) ∧ Far W w' g := by
 refine (addRelocs.calls w0 W g cg t9 u9 h.blk h.c9 h.gb h.low h.r9 hn p).mono ?_
 rintro e w' ⟨rfl, v, hb_, hr_, hl_, hk_⟩
 exact ⟨rfl, ⟨_, v, hl_, h.gb, hb_, by rw [Array.size_setIfInBounds, h.sz], fun k a0 a4 a5 a8 a9 => by rw [Array.getElem?_setIfInBounds_ne (by omega)]; exact h.nil k a0 a4 a5 a8 a9, by rw [Array.getElem?_setIfInBounds_ne (by decide)]; exact h.c4, row_far h.r4 h.blk (by decide) (by decide) hk_, by rw [Array.getElem?_setIfInBounds_ne (by decide)]; exact h.c5, row_far h.r5 h.blk (by decide) (by decide) hk_, by rw [Array.getElem?_setIfInBounds_ne (by decide)]; exact h.c8, row_far h.r8 h.blk (by decide) (by decide) hk_, by rw [Array.getElem?_setIfInBounds_self_of_lt (by rw [h.sz]; decide)], hr_⟩, far_of (by decide) hk_⟩
set_option maxHeartbeats 8000000 in
set_option maxRecDepth 100000 in
theorem addObject.calls {w0 W : World} {g : Nat} {cg : Array Value} {u4 u5 u8 u9 : Value} {t4 t5 t8 t9 : List Tri} (h : BagO w0 W g cg u4 u5 u8 u9 t4 t5 t8 t9) (h4 : t4.length < 300) (h5 : t5.length < 300) (h8 : t8.length < 300) (h9 : t9.length < 300) (nm : ByteArray) (A1 : Option Addr) (n1 c1 : Nat) (dt : Int) (A3 : Option Addr) (n3 c3 : Nat) (A4 : Option Addr) (n4 c4 : Nat) (A5 : Option Addr) (n5 c5 : Nat) :
  Calls Tryz.prog 19 #[.pointer (some ⟨g, 0, none⟩), .agg #[.string nm, .slice A1 n1 c1, .int .i64 dt, .slice A3 n3 c3, .slice A4 n4 c4, .slice A5 n5 c5]] W fun e w' => e = .returned (.tuple #[]) ∧ (∃ cg u4 u5 u8 u9, BagO w0 w' g cg u4 u5 u8 u9 (t4 ++ [(A3, n3, c3)]) (t5 ++ [(A1, n1, c1)]) (t8 ++ [(A4, n4, c4)]) (t9 ++ [(A5, n5, c5)])) ∧ Far W w' g := by
 have hu1 := Tryz.underlying27
 have H := Aside0.mk h
 have HN := Aside0.mk (And.intro h4 (And.intro h5 (And.intro h8 h9)))
 have HFR := Aside0.mk (show Far W W g from fun _ _ _ _ _ _ _ _ _ => rfl)
 clear h h4 h5 h8 h9
 go_enter Tryz.func19, Tryz.ntmps19
 go_wp2_with (first | ((with_reducible refine gate_dst (N := 3) rfl ?_); refine box_event ?hg (N := 3) ?hd (cs := #[.string nm, .slice A1 n1 c1, .int .i64 dt, .slice A3 n3 c3, .slice A4 n4 c4, .slice A5 n5 c5]) (t := 27) ?hr ?_; (case hd => rfl); (case hg => rfl); (case hr => first | (go_simp; done) | (go_simp; rfl)); intro gx hg_ w1 BK_ hb_; have BX := Aside0.mk BK_; have NEX := Aside0.mk (show gx ≠ g by rw [hg_]; exact Nat.ne_of_gt (blk_lt H.out.blk)); replace HFR := Aside0.mk (show Far W w1 g from HFR.out.trans (fun k cs e hk _ _ _ _ _ => hb_.block k (blk_lt hk))); replace H := Aside0.mk (H.out.below hb_); clear BK_ hb_ hg_; have hc1 := (blk_cell BX.out 1).trans rfl; have hc3 := (blk_cell BX.out 3).trans rfl; have hc4 := (blk_cell BX.out 4).trans rfl; have hc5 := (blk_cell BX.out 5).trans rfl) | (go_at_call 75; refine (bagWords.calls H.out HN.out.2.1 (A1, n1, c1)).mono ?_; rintro e_ w_ ⟨rfl, ⟨cg_, v_, hb_⟩, hf_⟩; replace BX := Aside0.mk ((hf_ gx _ _ BX.out NEX.out (by decide) (by decide) (by decide) (by decide)).trans BX.out); replace H := Aside0.mk hb_; replace HFR := Aside0.mk (HFR.out.trans hf_); clear hb_ hf_ hc1 hc3 hc4 hc5; have hc1 := (blk_cell BX.out 1).trans rfl; have hc3 := (blk_cell BX.out 3).trans rfl; have hc4 := (blk_cell BX.out 4).trans rfl; have hc5 := (blk_cell BX.out 5).trans rfl) | (go_at_call 76; refine (bagLongs.calls H.out HN.out.1 (A3, n3, c3)).mono ?_; rintro e_ w_ ⟨rfl, ⟨cg_, v_, hb_⟩, hf_⟩; replace BX := Aside0.mk ((hf_ gx _ _ BX.out NEX.out (by decide) (by decide) (by decide) (by decide)).trans BX.out); replace H := Aside0.mk hb_; replace HFR := Aside0.mk (HFR.out.trans hf_); clear hb_ hf_ hc1 hc3 hc4 hc5; have hc1 := (blk_cell BX.out 1).trans rfl; have hc3 := (blk_cell BX.out 3).trans rfl; have hc4 := (blk_cell BX.out 4).trans rfl; have hc5 := (blk_cell BX.out 5).trans rfl) | (go_at_call 77; refine (bagSymbols.calls H.out HN.out.2.2.1 (A4, n4, c4)).mono ?_; rintro e_ w_ ⟨rfl, ⟨cg_, v_, hb_⟩, hf_⟩; replace BX := Aside0.mk ((hf_ gx _ _ BX.out NEX.out (by decide) (by decide) (by decide) (by decide)).trans BX.out); replace H := Aside0.mk hb_; replace HFR := Aside0.mk (HFR.out.trans hf_); clear hb_ hf_ hc1 hc3 hc4 hc5; have hc1 := (blk_cell BX.out 1).trans rfl; have hc3 := (blk_cell BX.out 3).trans rfl; have hc4 := (blk_cell BX.out 4).trans rfl; have hc5 := (blk_cell BX.out 5).trans rfl) | (go_at_call 78; refine (bagRelocs.calls H.out HN.out.2.2.2 (A5, n5, c5)).mono ?_; rintro e_ w_ ⟨rfl, ⟨cg_, v_, hb_⟩, hf_⟩; replace BX := Aside0.mk ((hf_ gx _ _ BX.out NEX.out (by decide) (by decide) (by decide) (by decide)).trans BX.out); replace H := Aside0.mk hb_; replace HFR := Aside0.mk (HFR.out.trans hf_); clear hb_ hf_ hc1 hc3 hc4 hc5; have hc1 := (blk_cell BX.out 1).trans rfl; have hc3 := (blk_cell BX.out 3).trans rfl; have hc4 := (blk_cell BX.out 4).trans rfl; have hc5 := (blk_cell BX.out 5).trans rfl))
 refine Go.Great.bodyPost_end0 rfl rfl ?_
 exact ⟨rfl, ⟨_, _, _, _, _, H.out⟩, HFR.out⟩
structure KB (w0 W : World) (cg : Array Value) (K E1 E s : Nat) (mk : Nat → Nat → List Value) (A : Nat → Option Addr) (L C own : Nat → Nat) (o_ capO : Nat) (co : Array Value) : Prop where
  hc : cg[K]? = some (.slice (some ⟨o_, 0, none⟩) 2 capO)
  ho : W.heap[o_]? = some (.cells co E1 (0, 0))
  hco : ∀ m, m < 2 → co[m]? = some (.slice (A m) (L m) (C m))
  hL : ∀ m, L m ≤ 1000000000
  rows : ∀ m, m < 2 → Fl W w0.heap.size E s own mk m (A m) (L m) (C m) 0
theorem KB.move {w0 w1 W W1 : World} {cg : Array Value} {K E1 E s E' : Nat} {mk : Nat → Nat → List Value} {A : Nat → Option Addr} {L C own : Nat → Nat} {o_ capO : Nat} {co : Array Value} (h : KB w0 W cg K E1 E s mk A L C own o_ capO co) (hs : St w1 W W1 E') (h1 : E1 ≠ E') (h2 : E ≠ E') : KB w0 W1 cg K E1 E s mk A L C own o_ capO co :=
 ⟨h.hc, hs.blk h.ho h1, h.hco, h.hL, fun m hm => (h.rows m hm).keep (fun b cs hb => (hs.blk hb h2).trans hb.symm)⟩
theorem fl_of_R {α : Type} {d : Kd α} {W : World} {base e n c : Nat} {ok : Nat → Prop} {A : Option Addr} {xs : List α} (h : d.R e W base ok (.slice A n c) xs) (own : Nat → Nat) (mk : Nat → Nat → List Value) (m : Nat) (ho : ∀ b, (Value.slice A n c).ownBlock = some b → own b = m) : Fl W base e d.sz own mk m A n c 0 := by
 obtain ⟨_, inner, hw, _⟩ := h
 obtain ⟨hl, hv⟩ := hw
 rcases hv with ⟨h1, h2⟩ | ⟨g, cap, cur, h1, hg1, hg2, hg3, hg4, hg5, hg6⟩
 ·
  injection h1 with h1 h3 h4
  exact .inl ⟨h1, h3, h4, rfl⟩
 ·
  injection h1 with h1 h3 h4
  subst h1 h4 h3
  exact .inr ⟨g, cur, rfl, hg2, ho g rfl, hg1, hg5, hg3, Nat.zero_le _, fun i hi => by omega⟩
theorem row_raw2 {W : World} {e base : Nat} {ok : Nat → Prop} {v : Value} {p q : Tri} (h : KS.R e W base ok v [p, q]) : ∃ o_ cap co, v = .slice (some ⟨o_, 0, none⟩) 2 cap ∧ W.heap[o_]? = some (.cells co e (0, 0)) ∧ co[0]? = some (slT p) ∧ co[1]? = some (slT q) := by
 obtain ⟨g, c, rfl, _, _, cells, hc⟩ := Kd.R_form h (by simp)
 have h0 := (Kd.R_celln ((none, 0, 0) : Tri) h 0 (by omega) (by simp)).1
 have h1 := (Kd.R_celln ((none, 0, 0) : Tri) h 1 (by omega) (by simp)).1
 refine ⟨g, c, cells, rfl, hc, ?_, ?_⟩
 ·
  exact (cell_of_row _ _ 0 _ _ _ hc).symm.trans h0
 ·
  exact (cell_of_row _ _ 1 _ _ _ hc).symm.trans h1
theorem kb_of {α : Type} {d : Kd α} {w0 W : World} {cg : Array Value} {K E1 E : Nat} {mk : Nat → Nat → List Value} {u : Value} {A1 A2 : Option Addr} {c1 c2 : Nat} {xs ys : List α} {ok1 ok2 ok : Nat → Prop} (hr : KS.R E1 W w0.heap.size ok u [(A1, xs.length, c1), (A2, ys.length, c2)]) (hc : cg[K]? = some u) (hx : d.R E W w0.heap.size ok1 (.slice A1 xs.length c1) xs) (hy : d.R E W w0.heap.size ok2 (.slice A2 ys.length c2) ys) (hne : ∀ j, (Value.slice A1 xs.length c1).ownBlock = some j → ∀ k, (Value.slice A2 ys.length c2).ownBlock = some k → k ≠ j) (h1 : xs.length ≤ 1000000000) (h2 : ys.length ≤ 1000000000) :
  ∃ A L C own o_ capO co, KB w0 W cg K E1 E d.sz mk A L C own o_ capO co := by
 obtain ⟨o_, capO, co, rfl, ho, e0, e1⟩ := row_raw2 hr
 refine ⟨fun m => if m = 0 then A1 else A2, fun m => if m = 0 then xs.length else ys.length, fun m => if m = 0 then c1 else c2, fun b => if some b = (Value.slice A1 xs.length c1).ownBlock then 0 else 1, o_, capO, co, hc, ho, ?_, ?_, ?_⟩
 ·
  intro m hm
  match m, hm with
  | 0, _ => exact e0
  | 1, _ => exact e1
  | m + 2, h => exact absurd h (by omega)
 ·
  intro m
  show (if m = 0 then xs.length else ys.length) ≤ _
  split
  ·
   exact h1
  ·
   exact h2
 ·
  intro m hm
  match m, hm with
  | 0, _ => exact fl_of_R hx _ _ 0 (fun b hb => if_pos hb.symm)
  | 1, _ => exact fl_of_R hy _ _ 1 (fun b hb => if_neg (fun h => hne b h.symm b hb rfl))
  | m + 2, h => exact absurd h (by omega)
set_option maxHeartbeats 60000000 in
set_option maxRecDepth 100000 in
theorem apartO.calls (w0 w : World) (g : Nat) (cg : Array Value) {A4 : Nat → Option Addr} {L4 C4 own4 : Nat → Nat} {o4 cap4 : Nat} {co4 : Array Value} {A5 : Nat → Option Addr} {L5 C5 own5 : Nat → Nat} {o5 cap5 : Nat} {co5 : Array Value} {A8 : Nat → Option Addr} {L8 C8 own8 : Nat → Nat} {o8 cap8 : Nat} {co8 : Array Value} {A9 : Nat → Option Addr} {L9 C9 own9 : Nat → Nat} {o9 cap9 : Nat} {co9 : Array Value} (hbag : w.heap[g]? = some (.cells cg 56 (0, 0))) (low : Below w0.heap.size w0 w) (hnil : ∀ k, k < 17 → k ≠ 4 → k ≠ 5 → k ≠ 8 → k ≠ 9 → cg[k]? = some (.slice none 0 0)) (K4 : KB w0 w cg 4 23 2 1 mkLongs A4 L4 C4 own4 o4 cap4 co4) (K5 : KB w0 w cg 5 22 78 1 mkWords A5 L5 C5 own5 o5 cap5 co5) (K8 : KB w0 w cg 8 24 65 3 mkSymbols A8 L8 C8 own8 o8 cap8 co8) (K9 : KB w0 w cg 9 25 82 2 mkRelocs A9 L9 C9 own9 o9 cap9 co9) :
  Calls Tryz.prog 14 #[.pointer (some ⟨g, 0, none⟩)] w fun e w' => e = .returned (.bool true) ∧ Below w0.heap.size w0 w' := by
 have HBAG := Aside0.mk hbag
 have LOW := Aside0.mk low
 have HNIL := Aside0.mk hnil
 replace K4 := Aside0.mk K4
 replace K5 := Aside0.mk K5
 replace K8 := Aside0.mk K8
 replace K9 := Aside0.mk K9
 clear hbag low hnil
 go_enter Tryz.func14, Tryz.ntmps14
 go_wp2_with (first | (go_at_call 40; refine (noBytes.calls _ g cg HBAG.out (HNIL.out 0 (by decide) (by decide) (by decide) (by decide) (by decide))).mono ?_; rintro e_ w_ ⟨rfl, rfl⟩) | (go_at_call 41; refine (noInts.calls _ g cg HBAG.out (HNIL.out 1 (by decide) (by decide) (by decide) (by decide) (by decide))).mono ?_; rintro e_ w_ ⟨rfl, rfl⟩) | (go_at_call 42; refine (noBools.calls _ g cg HBAG.out (HNIL.out 2 (by decide) (by decide) (by decide) (by decide) (by decide))).mono ?_; rintro e_ w_ ⟨rfl, rfl⟩) | (go_at_call 43; refine (noTexts.calls _ g cg HBAG.out (HNIL.out 3 (by decide) (by decide) (by decide) (by decide) (by decide))).mono ?_; rintro e_ w_ ⟨rfl, rfl⟩) | (go_at_call 44; refine (apLongs.calls w0 _ g o4 cg co4 2 cap4 A4 L4 C4 own4 HBAG.out K4.out.hc K4.out.ho K4.out.hco (by decide) K4.out.hL LOW.out K4.out.rows).mono ?_; rintro e_ w4_ ⟨rfl, hs_⟩; replace K5 := Aside0.mk (K5.out.move hs_ (by decide) (by decide)); replace K8 := Aside0.mk (K8.out.move hs_ (by decide) (by decide)); replace K9 := Aside0.mk (K9.out.move hs_ (by decide) (by decide)); replace HBAG := Aside0.mk (hs_.blk HBAG.out (by decide)); replace LOW := Aside0.mk hs_.low; clear hs_ K4) | (go_at_call 45; refine (apWords.calls w0 _ g o5 cg co5 2 cap5 A5 L5 C5 own5 HBAG.out K5.out.hc K5.out.ho K5.out.hco (by decide) K5.out.hL LOW.out K5.out.rows).mono ?_; rintro e_ w5_ ⟨rfl, hs_⟩; replace K8 := Aside0.mk (K8.out.move hs_ (by decide) (by decide)); replace K9 := Aside0.mk (K9.out.move hs_ (by decide) (by decide)); replace HBAG := Aside0.mk (hs_.blk HBAG.out (by decide)); replace LOW := Aside0.mk hs_.low; clear hs_ K5) | (go_at_call 46; refine (noRow.calls _ g cg HBAG.out (HNIL.out 6 (by decide) (by decide) (by decide) (by decide) (by decide))).mono ?_; rintro e_ w_ ⟨rfl, rfl⟩) | (go_at_call 47; refine (noIns.calls _ g cg HBAG.out (HNIL.out 7 (by decide) (by decide) (by decide) (by decide) (by decide))).mono ?_; rintro e_ w_ ⟨rfl, rfl⟩) | (go_at_call 48; refine (apSymbols.calls w0 _ g o8 cg co8 2 cap8 A8 L8 C8 own8 HBAG.out K8.out.hc K8.out.ho K8.out.hco (by decide) K8.out.hL LOW.out K8.out.rows).mono ?_; rintro e_ w8_ ⟨rfl, hs_⟩; replace K9 := Aside0.mk (K9.out.move hs_ (by decide) (by decide)); replace HBAG := Aside0.mk (hs_.blk HBAG.out (by decide)); replace LOW := Aside0.mk hs_.low; clear hs_ K8) | (go_at_call 49; refine (apRelocs.calls w0 _ g o9 cg co9 2 cap9 A9 L9 C9 own9 HBAG.out K9.out.hc K9.out.ho K9.out.hco (by decide) K9.out.hL LOW.out K9.out.rows).mono ?_; rintro e_ w9_ ⟨rfl, hs_⟩; replace HBAG := Aside0.mk (hs_.blk HBAG.out (by decide)); replace LOW := Aside0.mk hs_.low; clear hs_ K9) | (go_at_call 50; refine (noPorts.calls _ g cg HBAG.out (HNIL.out 10 (by decide) (by decide) (by decide) (by decide) (by decide))).mono ?_; rintro e_ w_ ⟨rfl, rfl⟩) | (go_at_call 51; refine (noBlocks.calls _ g cg HBAG.out (HNIL.out 11 (by decide) (by decide) (by decide) (by decide) (by decide))).mono ?_; rintro e_ w_ ⟨rfl, rfl⟩) | (go_at_call 52; refine (noSpots.calls _ g cg HBAG.out (HNIL.out 12 (by decide) (by decide) (by decide) (by decide) (by decide))).mono ?_; rintro e_ w_ ⟨rfl, rfl⟩) | (go_at_call 53; refine (noRows.calls _ g cg HBAG.out (HNIL.out 13 (by decide) (by decide) (by decide) (by decide) (by decide))).mono ?_; rintro e_ w_ ⟨rfl, rfl⟩) | (go_at_call 54; refine (noRepeats.calls _ g cg HBAG.out (HNIL.out 14 (by decide) (by decide) (by decide) (by decide) (by decide))).mono ?_; rintro e_ w_ ⟨rfl, rfl⟩) | (go_at_call 55; refine (noFolds.calls _ g cg HBAG.out (HNIL.out 15 (by decide) (by decide) (by decide) (by decide) (by decide))).mono ?_; rintro e_ w_ ⟨rfl, rfl⟩) | (go_at_call 56; refine (noObjects.calls _ g cg HBAG.out (HNIL.out 16 (by decide) (by decide) (by decide) (by decide) (by decide))).mono ?_; rintro e_ w_ ⟨rfl, rfl⟩))
 go_ret
 exact ⟨rfl, LOW.out⟩
end Go.Proofs.YtiaohbbafaaibabGreatDoor.P

/- OWN TEXT: what compares objects, field by field, walked at two copies of one: they are found equal. -/
namespace Go.Proofs.YtiaohbbafaaibabGreatDoor.P
open Go.RowKit Go.Maps Go.Proofs.YtiaohbbafaaibabGreatDoorW.PrintWords Go.Proofs.YtiaohbbafaaibabGreatDoorW.PrintLast Go.Proofs.YtiaohbbafaaibabGreatDoorW.PrintMore Go.Proofs.YtiaohbbafaaibabGreatDoor.Arr Go.Proofs.YtiaohbbafaaibabGreatDoor.MapB
set_option linter.unusedVariables false
set_option linter.unusedSimpArgs false
attribute [local go_sem high] eqA65 eqA82
set_option maxHeartbeats 8000000 in
set_option maxRecDepth 100000 in
theorem eqWordsS.calls (A0 A1 : Option Addr) (c0 c1 : Nat) (l : List Int) (w : World) (hr0 : Kd.C (Kd.int .u32) w A0 l.length l) (hr1 : Kd.C (Kd.int .u32) w A1 l.length l) (hl : l.length ≤ 1000000000) :
  Calls Tryz.prog 32 #[.slice A0 l.length c0, .slice A1 l.length c1] w fun e w' => e = .returned (.bool true) ∧ Below w.heap.size w w' := by
 have HR0 := Aside0.mk hr0
 have HR1 := Aside0.mk hr1
 have HL := Aside0.mk hl
 have HB := Aside0.mk (Below.refl w.heap.size w)
 clear hr0 hr1 hl
 go_enter Tryz.func32, Tryz.ntmps32
 go_wp2
 go_loopw [5] (fun u5 wr => ∃ i : Nat, u5 = .int .i64 (i : Int) ∧ i ≤ l.length ∧ Aside0 (Below w.heap.size w wr)) (fun u5 _ => l.length - (intOf u5).toNat)
 case atStart => exact ⟨0, rfl, Nat.zero_le _, HB⟩
 case round =>
  clear HB
  obtain ⟨i, rfl, hile, HB⟩ := hrel
  by_cases hlt : i < l.length
  ·
   have p0 : (0 : Int) ≤ (i : Int) := by omega
   have q0 : (i : Int) < (l.length : Int) := by omega
   obtain ⟨ad0, e0, h00⟩ := Kd.at_int HR0.out (i : Int) p0 q0
   subst e0
   rw [show ((i : Int)).toNat = i by omega] at h00
   replace h00 := pw_cell_below HB.out h00
   obtain ⟨ad1, e1, h10⟩ := Kd.at_int HR1.out (i : Int) p0 q0
   subst e1
   rw [show ((i : Int)).toNat = i by omega] at h10
   replace h10 := pw_cell_below HB.out h10
   have hltb : decide ((i : Int) < (l.length : Int)) = true := decide_eq_true q0
   have HLT := Aside0.mk hlt
   have HWR := Aside0.mk (show wrap64 ((i : Int) + 1) = ((i + 1 : Nat) : Int) by rw [wrap64_id (by have := HL.out; omega) (by have := HL.out; omega)]; rfl)
   replace p0 := eq_true p0
   replace q0 := eq_true q0
   clear hlt hile
   go_wp2
   repeat (go_quiet (fail); try go_wp2)
   go_roundw
   case measure => have hq := HLT.out; (try rw [HWR.out]); simp only [intOf]; omega
   case rel => exact ⟨i + 1, by first | rfl | (rw [HWR.out]; done), by have := HLT.out; omega, ⟨bwQ HB.out⟩⟩
  ·
   have hi0 : i = l.length := by omega
   subst hi0
   have hltb : decide ((l.length : Int) < (l.length : Int)) = false := by simp
   clear hlt hile
   go_wp2
   go_ret
   exact ⟨rfl, HB.out⟩
set_option maxHeartbeats 8000000 in
set_option maxRecDepth 100000 in
theorem eqLongsS.calls (A0 A1 : Option Addr) (c0 c1 : Nat) (l : List Int) (w : World) (hr0 : Kd.C (Kd.int .i64) w A0 l.length l) (hr1 : Kd.C (Kd.int .i64) w A1 l.length l) (hl : l.length ≤ 1000000000) :
  Calls Tryz.prog 33 #[.slice A0 l.length c0, .slice A1 l.length c1] w fun e w' => e = .returned (.bool true) ∧ Below w.heap.size w w' := by
 have HR0 := Aside0.mk hr0
 have HR1 := Aside0.mk hr1
 have HL := Aside0.mk hl
 have HB := Aside0.mk (Below.refl w.heap.size w)
 clear hr0 hr1 hl
 go_enter Tryz.func33, Tryz.ntmps33
 go_wp2
 go_loopw [5] (fun u5 wr => ∃ i : Nat, u5 = .int .i64 (i : Int) ∧ i ≤ l.length ∧ Aside0 (Below w.heap.size w wr)) (fun u5 _ => l.length - (intOf u5).toNat)
 case atStart => exact ⟨0, rfl, Nat.zero_le _, HB⟩
 case round =>
  clear HB
  obtain ⟨i, rfl, hile, HB⟩ := hrel
  by_cases hlt : i < l.length
  ·
   have p0 : (0 : Int) ≤ (i : Int) := by omega
   have q0 : (i : Int) < (l.length : Int) := by omega
   obtain ⟨ad0, e0, h00⟩ := Kd.at_int HR0.out (i : Int) p0 q0
   subst e0
   rw [show ((i : Int)).toNat = i by omega] at h00
   replace h00 := pw_cell_below HB.out h00
   obtain ⟨ad1, e1, h10⟩ := Kd.at_int HR1.out (i : Int) p0 q0
   subst e1
   rw [show ((i : Int)).toNat = i by omega] at h10
   replace h10 := pw_cell_below HB.out h10
   have hltb : decide ((i : Int) < (l.length : Int)) = true := decide_eq_true q0
   have HLT := Aside0.mk hlt
   have HWR := Aside0.mk (show wrap64 ((i : Int) + 1) = ((i + 1 : Nat) : Int) by rw [wrap64_id (by have := HL.out; omega) (by have := HL.out; omega)]; rfl)
   replace p0 := eq_true p0
   replace q0 := eq_true q0
   clear hlt hile
   go_wp2
   repeat (go_quiet (fail); try go_wp2)
   go_roundw
   case measure => have hq := HLT.out; (try rw [HWR.out]); simp only [intOf]; omega
   case rel => exact ⟨i + 1, by first | rfl | (rw [HWR.out]; done), by have := HLT.out; omega, ⟨bwQ HB.out⟩⟩
  ·
   have hi0 : i = l.length := by omega
   subst hi0
   have hltb : decide ((l.length : Int) < (l.length : Int)) = false := by simp
   clear hlt hile
   go_wp2
   go_ret
   exact ⟨rfl, HB.out⟩
set_option maxHeartbeats 8000000 in
set_option maxRecDepth 100000 in
theorem eqSymbolsS.calls (A0 A1 : Option Addr) (c0 c1 : Nat) (l : List S65) (w : World) (hr0 : Kd.C k65 w A0 l.length l) (hr1 : Kd.C k65 w A1 l.length l) (hl : l.length ≤ 1000000000) :
  Calls Tryz.prog 34 #[.slice A0 l.length c0, .slice A1 l.length c1] w fun e w' => e = .returned (.bool true) ∧ Below w.heap.size w w' := by
 have hu1 := Tryz.underlying65
 have HR0 := Aside0.mk hr0
 have HR1 := Aside0.mk hr1
 have HL := Aside0.mk hl
 have HB := Aside0.mk (Below.refl w.heap.size w)
 clear hr0 hr1 hl
 go_enter Tryz.func34, Tryz.ntmps34
 go_wp2
 go_loopw [5] (fun u5 wr => ∃ i : Nat, u5 = .int .i64 (i : Int) ∧ i ≤ l.length ∧ Aside0 (Below w.heap.size w wr)) (fun u5 _ => l.length - (intOf u5).toNat)
 case atStart => exact ⟨0, rfl, Nat.zero_le _, HB⟩
 case round =>
  clear HB
  obtain ⟨i, rfl, hile, HB⟩ := hrel
  by_cases hlt : i < l.length
  ·
   have p0 : (0 : Int) ≤ (i : Int) := by omega
   have q0 : (i : Int) < (l.length : Int) := by omega
   obtain ⟨ad0, e0, h00, h01, h02⟩ := at_T65 HR0.out (i : Int) p0 q0
   subst e0
   rw [show ((i : Int)).toNat = i by omega] at h00 h01 h02
   replace h00 := pw_cell_below HB.out h00
   replace h01 := pw_cell_below HB.out h01
   replace h02 := pw_cell_below HB.out h02
   obtain ⟨ad1, e1, h10, h11, h12⟩ := at_T65 HR1.out (i : Int) p0 q0
   subst e1
   rw [show ((i : Int)).toNat = i by omega] at h10 h11 h12
   replace h10 := pw_cell_below HB.out h10
   replace h11 := pw_cell_below HB.out h11
   replace h12 := pw_cell_below HB.out h12
   have hltb : decide ((i : Int) < (l.length : Int)) = true := decide_eq_true q0
   have HLT := Aside0.mk hlt
   have HWR := Aside0.mk (show wrap64 ((i : Int) + 1) = ((i + 1 : Nat) : Int) by rw [wrap64_id (by have := HL.out; omega) (by have := HL.out; omega)]; rfl)
   replace p0 := eq_true p0
   replace q0 := eq_true q0
   clear hlt hile
   go_wp2
   repeat (go_quiet (fail); try go_wp2)
   go_roundw
   case measure => have hq := HLT.out; (try rw [HWR.out]); simp only [intOf]; omega
   case rel => exact ⟨i + 1, by first | rfl | (rw [HWR.out]; done), by have := HLT.out; omega, ⟨bwQ HB.out⟩⟩
  ·
   have hi0 : i = l.length := by omega
   subst hi0
   have hltb : decide ((l.length : Int) < (l.length : Int)) = false := by simp
   clear hlt hile
   go_wp2
   go_ret
   exact ⟨rfl, HB.out⟩
set_option maxHeartbeats 8000000 in
set_option maxRecDepth 100000 in
theorem eqRelocsS.calls (A0 A1 : Option Addr) (c0 c1 : Nat) (l : List S82) (w : World) (hr0 : Kd.C k82 w A0 l.length l) (hr1 : Kd.C k82 w A1 l.length l) (hl : l.length ≤ 1000000000) :
  Calls Tryz.prog 35 #[.slice A0 l.length c0, .slice A1 l.length c1] w fun e w' => e = .returned (.bool true) ∧ Below w.heap.size w w' := by
 have hu1 := Tryz.underlying82
 have HR0 := Aside0.mk hr0
 have HR1 := Aside0.mk hr1
 have HL := Aside0.mk hl
 have HB := Aside0.mk (Below.refl w.heap.size w)
 clear hr0 hr1 hl
 go_enter Tryz.func35, Tryz.ntmps35
 go_wp2
 go_loopw [5] (fun u5 wr => ∃ i : Nat, u5 = .int .i64 (i : Int) ∧ i ≤ l.length ∧ Aside0 (Below w.heap.size w wr)) (fun u5 _ => l.length - (intOf u5).toNat)
 case atStart => exact ⟨0, rfl, Nat.zero_le _, HB⟩
 case round =>
  clear HB
  obtain ⟨i, rfl, hile, HB⟩ := hrel
  by_cases hlt : i < l.length
  ·
   have p0 : (0 : Int) ≤ (i : Int) := by omega
   have q0 : (i : Int) < (l.length : Int) := by omega
   obtain ⟨ad0, e0, h00, h01⟩ := at_T82 HR0.out (i : Int) p0 q0
   subst e0
   rw [show ((i : Int)).toNat = i by omega] at h00 h01
   replace h00 := pw_cell_below HB.out h00
   replace h01 := pw_cell_below HB.out h01
   obtain ⟨ad1, e1, h10, h11⟩ := at_T82 HR1.out (i : Int) p0 q0
   subst e1
   rw [show ((i : Int)).toNat = i by omega] at h10 h11
   replace h10 := pw_cell_below HB.out h10
   replace h11 := pw_cell_below HB.out h11
   have hltb : decide ((i : Int) < (l.length : Int)) = true := decide_eq_true q0
   have HLT := Aside0.mk hlt
   have HWR := Aside0.mk (show wrap64 ((i : Int) + 1) = ((i + 1 : Nat) : Int) by rw [wrap64_id (by have := HL.out; omega) (by have := HL.out; omega)]; rfl)
   replace p0 := eq_true p0
   replace q0 := eq_true q0
   clear hlt hile
   go_wp2
   repeat (go_quiet (fail); try go_wp2)
   go_roundw
   case measure => have hq := HLT.out; (try rw [HWR.out]); simp only [intOf]; omega
   case rel => exact ⟨i + 1, by first | rfl | (rw [HWR.out]; done), by have := HLT.out; omega, ⟨bwQ HB.out⟩⟩
  ·
   have hi0 : i = l.length := by omega
   subst hi0
   have hltb : decide ((l.length : Int) < (l.length : Int)) = false := by simp
   clear hlt hile
   go_wp2
   go_ret
   exact ⟨rfl, HB.out⟩
set_option maxHeartbeats 8000000 in
set_option maxRecDepth 100000 in
theorem eqObjS.calls (nm : ByteArray) (code : List Int) (dat : Int) (data : List Int) (syms : List S65) (rels : List S82) (Aa1 : Option Addr) (ca1 : Nat) (Aa3 : Option Addr) (ca3 : Nat) (Aa4 : Option Addr) (ca4 : Nat) (Aa5 : Option Addr) (ca5 : Nat) (Ab1 : Option Addr) (cb1 : Nat) (Ab3 : Option Addr) (cb3 : Nat) (Ab4 : Option Addr) (cb4 : Nat) (Ab5 : Option Addr) (cb5 : Nat) (w : World) (ha1 : Kd.C (Kd.int .u32) w Aa1 code.length code) (ha3 : Kd.C (Kd.int .i64) w Aa3 data.length data) (ha4 : Kd.C k65 w Aa4 syms.length syms) (ha5 : Kd.C k82 w Aa5 rels.length rels) (hb1 : Kd.C (Kd.int .u32) w Ab1 code.length code) (hb3 : Kd.C (Kd.int .i64) w Ab3 data.length data) (hb4 : Kd.C k65 w Ab4 syms.length syms) (hb5 : Kd.C k82 w Ab5 rels.length rels) (m1 : code.length ≤ 1000000000) (m3 : data.length ≤ 1000000000) (m4 : syms.length ≤ 1000000000) (m5 : rels.length ≤ 1000000000) :
  Calls Tryz.prog 11 #[.agg #[.string nm, .slice Aa1 code.length ca1, .int .i64 dat, .slice Aa3 data.length ca3, .slice Aa4 syms.length ca4, .slice Aa5 rels.length ca5], .agg #[.string nm, .slice Ab1 code.length cb1, .int .i64 dat, .slice Ab3 data.length cb3, .slice Ab4 syms.length cb4, .slice Ab5 rels.length cb5]] w fun e w' => e = .returned (.bool true) ∧ Below w.heap.size w w' := by
 have hu1 := Tryz.underlying27
 have Ha1 := Aside0.mk ha1
 have Ha3 := Aside0.mk ha3
 have Ha4 := Aside0.mk ha4
 have Ha5 := Aside0.mk ha5
 have Hb1 := Aside0.mk hb1
 have Hb3 := Aside0.mk hb3
 have Hb4 := Aside0.mk hb4
 have Hb5 := Aside0.mk hb5
 have M1 := Aside0.mk m1
 have M3 := Aside0.mk m3
 have M4 := Aside0.mk m4
 have M5 := Aside0.mk m5
 have HB := Aside0.mk (Below.refl w.heap.size w)
 clear ha1 ha3 ha4 ha5 hb1 hb3 hb4 hb5 m1 m3 m4 m5
 go_enter Tryz.func11, Tryz.ntmps11
 go_wp2_with (first | ((with_reducible refine gate_dst (N := 2) rfl ?_); refine box_event ?hg (N := 2) ?hd (cs := #[.string nm, .slice Aa1 code.length ca1, .int .i64 dat, .slice Aa3 data.length ca3, .slice Aa4 syms.length ca4, .slice Aa5 rels.length ca5]) (t := 27) ?hr ?_; (case hd => rfl); (case hg => rfl); (case hr => first | (go_simp; done) | (go_simp; rfl)); intro ga hg_ w1 BK_ hb_; have BA := Aside0.mk BK_; replace HB := Aside0.mk (bsQ hb_ HB.out); clear BK_ hb_ hg_) | ((with_reducible refine gate_dst (N := 3) rfl ?_); refine box_event ?hg (N := 3) ?hd (cs := #[.string nm, .slice Ab1 code.length cb1, .int .i64 dat, .slice Ab3 data.length cb3, .slice Ab4 syms.length cb4, .slice Ab5 rels.length cb5]) (t := 27) ?hr ?_; (case hd => rfl); (case hg => rfl); (case hr => first | (go_simp; done) | (go_simp; rfl)); intro gb hg_ w2 BK_ hb_; have BB := Aside0.mk BK_; replace HB := Aside0.mk (bsQ hb_ HB.out); replace BA := Aside0.mk (blk_below BA.out hb_); clear BK_ hb_ hg_; have ha0 := blk_cell BA.out 0; have ha1 := blk_cell BA.out 1; have ha2 := blk_cell BA.out 2; have ha3 := blk_cell BA.out 3; have ha4 := blk_cell BA.out 4; have ha5 := blk_cell BA.out 5; have hb0 := blk_cell BB.out 0; have hb1 := blk_cell BB.out 1; have hb2 := blk_cell BB.out 2; have hb3 := blk_cell BB.out 3; have hb4 := blk_cell BB.out 4; have hb5 := blk_cell BB.out 5) | (go_at_call 32; refine (eqWordsS.calls _ _ _ _ code _ (Kd.C_below Ha1.out HB.out) (Kd.C_below Hb1.out HB.out) M1.out).mono ?_; rintro e_ w3 ⟨rfl, hb_⟩; replace HB := Aside0.mk (bsQ hb_ HB.out); replace BA := Aside0.mk (blk_below BA.out hb_); replace BB := Aside0.mk (blk_below BB.out hb_); clear hb_ ha0 hb0 ha1 hb1 ha2 hb2 ha3 hb3 ha4 hb4 ha5 hb5; have ha0 := blk_cell BA.out 0; have ha1 := blk_cell BA.out 1; have ha2 := blk_cell BA.out 2; have ha3 := blk_cell BA.out 3; have ha4 := blk_cell BA.out 4; have ha5 := blk_cell BA.out 5; have hb0 := blk_cell BB.out 0; have hb1 := blk_cell BB.out 1; have hb2 := blk_cell BB.out 2; have hb3 := blk_cell BB.out 3; have hb4 := blk_cell BB.out 4; have hb5 := blk_cell BB.out 5) | (go_at_call 33; refine (eqLongsS.calls _ _ _ _ data _ (Kd.C_below Ha3.out HB.out) (Kd.C_below Hb3.out HB.out) M3.out).mono ?_; rintro e_ w5 ⟨rfl, hb_⟩; replace HB := Aside0.mk (bsQ hb_ HB.out); replace BA := Aside0.mk (blk_below BA.out hb_); replace BB := Aside0.mk (blk_below BB.out hb_); clear hb_ ha0 hb0 ha1 hb1 ha2 hb2 ha3 hb3 ha4 hb4 ha5 hb5; have ha0 := blk_cell BA.out 0; have ha1 := blk_cell BA.out 1; have ha2 := blk_cell BA.out 2; have ha3 := blk_cell BA.out 3; have ha4 := blk_cell BA.out 4; have ha5 := blk_cell BA.out 5; have hb0 := blk_cell BB.out 0; have hb1 := blk_cell BB.out 1; have hb2 := blk_cell BB.out 2; have hb3 := blk_cell BB.out 3; have hb4 := blk_cell BB.out 4; have hb5 := blk_cell BB.out 5) | (go_at_call 34; refine (eqSymbolsS.calls _ _ _ _ syms _ (Kd.C_below Ha4.out HB.out) (Kd.C_below Hb4.out HB.out) M4.out).mono ?_; rintro e_ w6 ⟨rfl, hb_⟩; replace HB := Aside0.mk (bsQ hb_ HB.out); replace BA := Aside0.mk (blk_below BA.out hb_); replace BB := Aside0.mk (blk_below BB.out hb_); clear hb_ ha0 hb0 ha1 hb1 ha2 hb2 ha3 hb3 ha4 hb4 ha5 hb5; have ha0 := blk_cell BA.out 0; have ha1 := blk_cell BA.out 1; have ha2 := blk_cell BA.out 2; have ha3 := blk_cell BA.out 3; have ha4 := blk_cell BA.out 4; have ha5 := blk_cell BA.out 5; have hb0 := blk_cell BB.out 0; have hb1 := blk_cell BB.out 1; have hb2 := blk_cell BB.out 2; have hb3 := blk_cell BB.out 3; have hb4 := blk_cell BB.out 4; have hb5 := blk_cell BB.out 5) | (go_at_call 35; refine (eqRelocsS.calls _ _ _ _ rels _ (Kd.C_below Ha5.out HB.out) (Kd.C_below Hb5.out HB.out) M5.out).mono ?_; rintro e_ w7 ⟨rfl, hb_⟩; replace HB := Aside0.mk (bsQ hb_ HB.out); replace BA := Aside0.mk (blk_below BA.out hb_); replace BB := Aside0.mk (blk_below BB.out hb_); clear hb_ ha0 hb0 ha1 hb1 ha2 hb2 ha3 hb3 ha4 hb4 ha5 hb5; have ha0 := blk_cell BA.out 0; have ha1 := blk_cell BA.out 1; have ha2 := blk_cell BA.out 2; have ha3 := blk_cell BA.out 3; have ha4 := blk_cell BA.out 4; have ha5 := blk_cell BA.out 5; have hb0 := blk_cell BB.out 0; have hb1 := blk_cell BB.out 1; have hb2 := blk_cell BB.out 2; have hb3 := blk_cell BB.out 3; have hb4 := blk_cell BB.out 4; have hb5 := blk_cell BB.out 5))
 go_ret
 exact ⟨rfl, HB.out⟩
end Go.Proofs.YtiaohbbafaaibabGreatDoor.P
