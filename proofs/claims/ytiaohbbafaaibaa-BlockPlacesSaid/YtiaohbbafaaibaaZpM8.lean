/- OWN TEXT and printed parts of this claim, laid together: HBlkG, HBlock. -/
import Derived.Test.YtiaohbbafaaibaaZpM7
import Derived.Test.YtiaohbbafaaibaaZpM1
import Derived.Test.YtiaohbbafaaibaaZpM5
/- OWN TEXT: what block's gathering comes to (closures over a map), and block.Labels, Taken, Sites, Blocks, in the print's own form. -/
namespace Go.Proofs.Ytiaohbbafaaibaa.P
open Go.RowKit Go.Maps Go.Proofs.YtiaohbbafaaibaaW.PrintWords Go.Proofs.YtiaohbbafaaibaaW.PrintLast Go.Proofs.YtiaohbbafaaibaaW.PrintMore Go.Proofs.Ytiaohbbafaaibaa.Arr Go.Proofs.Ytiaohbbafaaibaa.MapB
set_option linter.unusedVariables false
set_option linter.unusedSimpArgs false

def seenS (hit : Int → Int → Nat → List Int) (t : List Int) (en : Int) : Nat → Lit → Bool
  | 0 => fun _ => false
  | i + 1 => addL (seenS hit t en i) (hit (rd t (i : Int)) en i)
def placesS (S : Lit → Bool) : Nat → List Int
  | 0 => []
  | j + 1 => if S (.int .i64 (j : Int)) = true then placesS S j ++ [(j : Int)] else placesS S j
theorem placesS_len (S : Lit → Bool) : ∀ j, (placesS S j).length ≤ j
  | 0 => Nat.le_refl _
  | j + 1 => by
    unfold placesS
    have := placesS_len S j
    split
    · rw [List.length_append]; simp only [List.length_cons, List.length_nil]; omega
    · omega
def gatherS (hit : Int → Int → Nat → List Int) (t : List Int) (en : Int) (m : List Int) : List Int × Int :=
  if (chkS t en m).1 = 0 then (placesS (seenS hit t en t.length) t.length, 0) else ([], (chkS t en m).1)
theorem chkS_ok {t : List Int} {en : Int} {m : List Int} (h : (chkS t en m).1 = 0) : 0 < t.length ∧ t.length ≤ 16384 ∧ 0 ≤ en ∧ en < (t.length : Int) := by
  unfold chkS at h
  split at h
  · exact absurd h (by decide)
  split at h
  · exact absurd h (by decide)
  split at h
  · exact absurd h (by decide)
  split at h
  · exact absurd h (by decide)
  split at h
  · exact absurd h (by decide)
  omega
theorem seen_ne {α : Type} {d : Kd α} {e base n b : Nat} {ok : Nat → Prop} {W : World} {v : Value} {xs : List α} {S : Lit → Bool} (hS : SeenI W b n S) (h : Kd.R d e W base ok v xs) : some b ≠ v.ownBlock := by
  intro he
  obtain ⟨cells, hc⟩ := Kd.R_typed h b he.symm
  obtain ⟨D, ⟨es, clock, hb, _⟩, _⟩ := hS
  rw [hc] at hb
  cases hb
theorem map_one (b : Nat) : (Value.map (some b)).oneCell' = true := by rfl
theorem map_size (W : World) : (sizeOf 141).run Try.prog W = .ok 1 W := by kernel_rfl
theorem put_grown {W w1 : World} {g : Nat} {cs : Array Value} {e : TypeId} (h : Put W w1 g cs e) : W.grownBy w1 (some g) := by
  have hb := h.below (Below.refl 0 W) (Nat.zero_le _)
  exact ⟨hb.os, hb.tape, hb.output, hb.size, fun k _ hne => h.far k (fun e => hne (by rw [e]))⟩

def gather0.f (t : List Int) (en : Int) (m : List Int) : List Int × Int := gatherS hit0 t en m
set_option maxHeartbeats 8000000 in
set_option maxRecDepth 100000 in
theorem gather0.calls (A0 : Option Addr) (c0 : Nat) (l0 : List Int) (en : Int) (A2 : Option Addr) (c2 : Nat) (l2 : List Int) (gi : Nat) (r1 : List Int) (r2 : Int) (w : World) (hr0 : Kd.C (Kd.int .u32) w A0 l0.length l0) (hc0 : l0.length ≤ c0) (hr2 : Kd.C (Kd.int .i64) w A2 l2.length l2) (hc2 : l2.length ≤ c2) (hw : Words l0) (him : w.heap[gi]? = some (imgCell A0 l0.length c0 en A2 l2.length c2)) (h : gather0.f l0 en l2 = (r1, r2)) :
    Calls Try.prog 97 #[.agg #[.slice A0 l0.length c0, .int .i64 en, .slice A2 l2.length c2], .func (.func 98) #[] #[.pointer (some ⟨gi, 0, none⟩)]] w fun e w' => ∃ v0_ : Value, e = .returned (.tuple #[v0_, .int .i64 r2]) ∧ Kd.R (Kd.int .i64) 3 w' w.heap.size (fun _ => True) v0_ r1 ∧ Below w.heap.size w w' := by
  have hu1 := Try.underlying69
  have hu2 := Try.underlying36
  obtain ⟨kc, HC1⟩ := Ev.rounds (chk1 hw en l2)
  have HR0 := Aside0.mk hr0
  have HC0 := Aside0.mk hc0
  have HR2 := Aside0.mk hr2
  have HC2 := Aside0.mk hc2
  have HW := Aside0.mk hw
  have HB := Aside0.mk (Below.refl w.heap.size w)
  have HIM := Aside0.mk him
  clear him
  clear hr0 hc0 hr2 hc2 hw
  unfold gather0.f gatherS at h
  have hok : (chkS l0 en l2).1 = 0 → _ := fun h => chkS_ok h
  generalize hch : chkS l0 en l2 = ch at HC1 h hok
  obtain ⟨e1, e2⟩ := ch
  have HC := Aside0.mk HC1
  clear HC1 hch
  simp only at hok h
  by_cases c1 : e1 = 0
  · rw [if_pos c1] at h
    obtain ⟨hn0, hn1, hen0, hen1⟩ := hok c1
    subst c1
    injection h with e1 e2'
    subst e1 e2'
    clear hok
    go_enter Try.func97, Try.ntmps97
    go_wp2_with (first | ((with_reducible refine gate_dst (N := 2) rfl ?_); refine box_event ?hg (N := 2) ?hd (cs := #[.slice A0 l0.length c0, .int .i64 en, .slice A2 l2.length c2]) (t := 69) ?hr ?_; (case hd => rfl); (case hg => rfl); (case hr => first | (go_simp; done) | (go_simp; rfl)); intro gb hgb w1 BK1 hb1; have HBn := Aside0.mk (below_then HB.out HB.out.size hb1); clear HB; have HB := HBn; clear HBn; have GE := Aside0.mk (show w.heap.size ≤ gb by rw [hgb]; exact Nat.le_refl _); have BK := Aside0.mk (show w1.heap[gb]? = some (imgCell A0 l0.length c0 en A2 l2.length c2) from BK1); have hci0 := blk_cell BK1 0; have hci1 := blk_cell BK1 1; have hci2 := blk_cell BK1 2; (try have HIMn := Aside0.mk (blk_below HIM.out hb1)); (try clear HIM); (try have HIM := HIMn); (try clear HIMn); clear BK1 hb1 hgb) | (go_at_call 126; refine (image_Check.calls kc A0 c0 l0 en A2 c2 l2 _ _ _ (Kd.C_below HR0.out HB.out) HC0.out (Kd.C_below HR2.out HB.out) HC2.out HC.out).mono ?_; rintro e w2 ⟨rfl, hb⟩; have HBn := Aside0.mk (below_then HB.out HB.out.size hb); have BKn := Aside0.mk (blk_below BK.out hb); (try have HIMn := Aside0.mk (blk_below HIM.out hb)); clear HB BK hb; (try clear HIM); have HB := HBn; have BK := BKn; (try have HIM := HIMn); clear HBn BKn; (try clear HIMn); have hci0 := blk_cell BK.out 0; have hci1 := blk_cell BK.out 1; have hci2 := blk_cell BK.out 2) | ((with_reducible refine gate_dst (N := 21) rfl ?_); refine wpList_make_map (P := Try.prog) (k := 3) (e := 4) (t := 141) ?hg (N := 21) ?hd ?ho ?hr ?_; (case hd => rfl); (case hg => rfl); (case ho => rfl); (case hr => first | (go_simp; done) | (go_simp; rfl)); intro b hgb w3 hs0 hb; have HN1 := Aside0.mk (show gb < b by rw [hgb]; exact blk_lt BK.out); (try have HN0 := Aside0.mk (show gi < b by rw [hgb]; exact blk_lt HIM.out)); have HN2 := Aside0.mk (show w.heap.size ≤ b by rw [hgb]; exact HB.out.size); have HS := Aside0.mk (show SeenI w3 b 0 (fun _ => false) from hs0); have HBn := Aside0.mk (below_then HB.out HB.out.size hb); have BKn := Aside0.mk (blk_below BK.out hb); (try have HIMn := Aside0.mk (blk_below HIM.out hb)); clear HB BK hb hs0 hgb; (try clear HIM); have HB := HBn; have BK := BKn; (try have HIM := HIMn); clear HBn BKn; (try clear HIMn)) | ((with_reducible refine gate_dst (N := 8) rfl ?_); refine box_event ?hg (N := 8) ?hd (cs := #[.map none]) (t := 141) ?hr ?_; (case hd => rfl); (case hg => rfl); (case hr => first | (go_simp; done) | (go_simp; rfl)); intro mc hmc w4 BM1 hb; have HN3 := Aside0.mk (show b < mc by rw [hmc]; exact HS.out.lt); have HSn := Aside0.mk (show SeenI w4 b 0 (fun _ => false) from HS.out.below hb); have HBn := Aside0.mk (below_then HB.out HB.out.size hb); have BKn := Aside0.mk (blk_below BK.out hb); (try have HIMn := Aside0.mk (blk_below HIM.out hb)); have BM := Aside0.mk BM1; clear HB BK HS hb BM1 hmc; (try clear HIM); have HB := HBn; have BK := BKn; have HS := HSn; (try have HIM := HIMn); clear HBn BKn HSn; (try clear HIMn)) | ((with_reducible refine gate_store (t := 141) rfl ?_); refine wpList_store_arr rfl rfl rfl mc 0 #[.map none] 141 (.map (some b)) rfl rfl rfl (map_one _) (map_size _) BM.out (by decide) ?_; intro w5 hp; have hg := put_grown hp; have HSn := Aside0.mk (show SeenI w5 b 0 (fun _ => false) from HS.out.kept hg (fun e => by have := HN3.out; have := Option.some.inj e; omega)); have HBn := Aside0.mk (hp.below HB.out (by have := HN3.out; have := HN2.out; omega)); have BKn := Aside0.mk (blk_grown BK.out hg (fun e => by have := HN3.out; have := HN1.out; have := Option.some.inj e; omega)); (try have HIMn := Aside0.mk (blk_grown HIM.out hg (fun e => by have := HN3.out; have := HN0.out; have := Option.some.inj e; omega))); have BMn := Aside0.mk (show w5.heap[mc]? = some (mapCell b) from hp.blk); clear HB BK HS BM hp hg; (try clear HIM); have HB := HBn; have BK := BKn; have HS := HSn; have BM := BMn; (try have HIM := HIMn); clear HBn BKn HSn BMn; (try clear HIMn); have hci0 := blk_cell BK.out 0; have hci1 := blk_cell BK.out 1; have hci2 := blk_cell BK.out 2; have hcm := blk_cell BM.out 0))
    go_loopw [25] (fun u25 wr => ∃ i : Nat, u25 = .int .i64 (i : Int) ∧ i ≤ l0.length ∧ Aside0 (SeenI wr b (4 * i) (seenS hit0 l0 en i)) ∧ Aside0 (wr.heap[gb]? = some (imgCell A0 l0.length c0 en A2 l2.length c2)) ∧ Aside0 (wr.heap[mc]? = some (mapCell b)) ∧ Aside0 (wr.heap[gi]? = some (imgCell A0 l0.length c0 en A2 l2.length c2)) ∧ Aside0 (Below w.heap.size w wr)) (fun u25 _ => l0.length - (intOf u25).toNat)
    case atStart => exact ⟨0, rfl, Nat.zero_le _, HS, BK, BM, HIM, HB⟩
    case round =>
      clear HS BK BM HIM HB hci0 hci1 hci2 hcm
      obtain ⟨i, rfl, hile, HS, BK, BM, HIM, HB⟩ := hrel
      by_cases hlt : i < l0.length
      · have p0 : (0 : Int) ≤ (i : Int) := by omega
        have q0 : (i : Int) < (l0.length : Int) := by omega
        obtain ⟨ad, eA, hx0⟩ := Kd.at_int HR0.out (i : Int) p0 q0
        subst eA
        have ht : ((i : Int)).toNat = i := by omega
        rw [ht] at hx0
        have hadw := World.block_lt_of_cell? w _ hx0
        have hx := (HB.out.cell hadw).trans hx0
        have hwx := HW.out (rd l0 (i : Int)) (by rw [rd_get hlt]; exact List.getElem_mem hlt)
        obtain ⟨kd, HD0⟩ := Ev.rounds (dec1 hwx.1 hwx.2)
        have HD := Aside0.mk HD0
        clear HD0
        generalize hx1 : rd l0 (i : Int) = x at HD hx hwx hx0
        generalize hd1 : decS x = ins at HD
        obtain ⟨i0, i1, i2, i3, i4⟩ := ins
        have HK := Aside0.mk (show Mk wr wr gi (imgCell (some ad) l0.length c0 en A2 l2.length c2) (ad.add i) (.int .u32 x) mc b (4 * i) (seenS hit0 l0 en i) from ⟨HIM.out, hx, BM.out, HS.out, World.grownBy.refl _ _, by have := HN1.out; have := HN0.out; omega, by have := HN2.out; omega, by have := HN3.out; omega⟩)
        have HWX := Aside0.mk hwx
        have HD1 := Aside0.mk hd1
        clear hwx hd1 hx0
        have hwr : wrap64 ((i : Int) + 1) = ((i + 1 : Nat) : Int) := by rw [wrap64_id (by omega) (by omega)]; rfl
        have PI := Aside0.mk hlt
        have PN := Aside0.mk hn1
        have PE := Aside0.mk (Go.WalkArith.wf_i64 (n := en) (by omega))
        replace p0 := eq_true p0
        replace q0 := eq_true q0
        have hltb : decide ((i : Int) < (l0.length : Int)) = true := decide_eq_true (by omega)
        go_wp2_with (first | (go_at_call 24; refine (isa_Decode.calls kd x i0 i1 i2 i3 i4 _ HD.out).mono ?_; rintro e w2 ⟨rfl, hb⟩; have HKn := Aside0.mk (HK.out.below hb); clear HK hb; have HK := HKn; clear HKn) | (go_at_call 98; refine (mark0.calls i x i0 i1 i2 i3 i4 wr _ gi ad l0.length c0 en A2 l2.length c2 mc b (4 * i) _ HWX.out.1 HWX.out.2 HD1.out PI.out (by have := PI.out; have := PN.out; omega) PE.out (by have := PI.out; have := PN.out; unfold maxLen; omega) HK.out).mono ?_; rintro e w2 ⟨rfl, hk2⟩; have HKn := Aside0.mk hk2; clear HK hk2; have HK := HKn; clear HKn))
        go_roundw
        case measure => simp [intOf]; omega
        case rel =>
          refine ⟨i + 1, by first | rfl | (simp; done) | (simp [*]; done), by omega, ⟨?_⟩, ⟨blk_grown BK.out HK.out.grown (fun e => by have := HN1.out; have := Option.some.inj e; omega)⟩, ⟨HK.out.map⟩, ⟨HK.out.img⟩, ⟨pw_below_grown HB.out (some b) HB.out.size HK.out.grown (fun k hk => by have := HN2.out; have := Option.some.inj hk; omega)⟩⟩
          have := HK.out.seen
          rw [show 4 * (i + 1) = 4 * i + 4 by omega]
          unfold seenS
          rw [hx1]
          exact this
      · have : i = l0.length := by omega
        subst this
        have hltb : decide ((l0.length : Int) < (l0.length : Int)) = false := by simp
        clear hlt hile
        generalize hS1 : seenS hit0 l0 en l0.length = S at HS
        have hci0 := blk_cell BK.out 0
        have hci1 := blk_cell BK.out 1
        have hci2 := blk_cell BK.out 2
        have hcm := blk_cell BM.out 0
        go_wp2
        go_loopw [11, 40] (fun u11 u40 wr => ∃ j : Nat, u40 = .int .i64 (j : Int) ∧ j ≤ l0.length ∧ Aside0 (Kd.R (Kd.int .i64) 3 wr w.heap.size (fun _ => True) u11 (placesS S j)) ∧ Aside0 (SeenI wr b (4 * l0.length) S) ∧ Aside0 (wr.heap[mc]? = some (mapCell b)) ∧ Aside0 (Below w.heap.size w wr)) (fun _ u40 _ => l0.length - (intOf u40).toNat)
        case atStart => exact ⟨0, rfl, Nat.zero_le _, ⟨Kd.R_nil _ _ _ _ _⟩, HS, BM, HB⟩
        case round =>
          clear HS BK BM HB hci0 hci1 hci2 hcm
          obtain ⟨j, rfl, hjle, HO, HS, BM, HB⟩ := hrel
          have hcm := blk_cell BM.out 0
          by_cases hlt : j < l0.length
          · have hltb2 : decide ((j : Int) < (l0.length : Int)) = true := decide_eq_true (by omega)
            have hwr : wrap64 ((j : Int) + 1) = ((j + 1 : Nat) : Int) := by rw [wrap64_id (by omega) (by omega)]; rfl
            have hkey : keyOf Try.prog 3 (.int .i64 (j : Int)) = some (.int .i64 (j : Int)) := keyOf_int_mk Try.underlying3 (Go.WalkArith.wf_i64 (by omega))
            have HKY := Aside0.mk hkey
            clear hkey
            have HL := Aside0.mk (show (placesS S j).length ≤ 16384 from Nat.le_trans (placesS_len S j) (by omega))
            go_wp2_with (first | (at_lookup; refine wpList_lookup_seen rfl _ _ 141 rfl 3 4 lawI Try.underlying141 Try.underlying4 (zeroB _) b _ S rfl HS.out _ _ rfl HKY.out trivial ?_) | ((with_reducible refine gate_builtin (b := .append) (xs := #[.tmp 46, .tmp 48]) rfl ?_); at_builtin; refine Kd.R_append (Kd.int .i64) (w0 := w) w.heap.size rfl (.tmp 46) (.tmp 48) 74 3 (.int .i64 0) 8 rfl Try.underlying74 info3 rfl (by decide) (by omega) u11 (placesS S j) (j : Int) [.int .i64 (j : Int)] (fun _ => True) (fun _ => False) rfl rfl ?aP (fun _ hk => hk.elim) ?aF ?aO ?aB ?aS ?aL ?_; (case aP => exact rfl); (case aB => exact HB.out); (case aF => exact (fun _ _ => trivial)); (case aO => exact HO.out); (case aS => exact HB.out.size); (case aL => have := HL.out; omega); intro v1 w13 ho hb hg hat; have HSn := Aside0.mk (show SeenI w13 b (4 * l0.length) S from HS.out.kept hg (seen_ne HS.out HO.out)); have BMn := Aside0.mk (blk_grown BM.out hg (Kd.R_ne HO.out BM.out (by decide))); have HOn := Aside0.mk ho; have HBn := Aside0.mk hb; clear HS BM HO HB ho hb hg hat; have HS := HSn; have BM := BMn; have HO := HOn; have HB := HBn; clear HSn BMn HOn HBn))
            · have cs : S (.int .i64 (j : Int)) = true := by assumption
              go_roundw
              case measure => simp [intOf]; omega
              case rel => exact ⟨j + 1, by first | rfl | (simp; done) | (simp [*]; done), by omega, ⟨by unfold placesS; rw [if_pos cs]; exact HO.out⟩, HS, BM, HB⟩
            · have cs : S (.int .i64 (j : Int)) = false := by assumption
              go_roundw
              case measure => simp [intOf]; omega
              case rel => exact ⟨j + 1, by first | rfl | (simp; done) | (simp [*]; done), by omega, ⟨by unfold placesS; rw [if_neg (by rw [cs]; decide)]; exact HO.out⟩, HS, BM, HB⟩
          · have : j = l0.length := by omega
            subst this
            have hltb2 : decide ((l0.length : Int) < (l0.length : Int)) = false := by simp
            clear hlt hjle
            subst hS1
            go_wp2
            go_ret2
            exact ⟨_, rfl, HO.out, HB.out⟩
  · rw [if_neg c1] at h
    injection h with e1' e2'
    subst e1' e2'
    clear hok
    have c1b : (e1 == 0) = false := by simp [c1]
    have c1c : (e1 != 0) = true := by simp [c1]
    clear c1
    go_enter Try.func97, Try.ntmps97
    go_wp2_with (first | ((with_reducible refine gate_dst (N := 2) rfl ?_); refine box_event ?hg (N := 2) ?hd (cs := #[.slice A0 l0.length c0, .int .i64 en, .slice A2 l2.length c2]) (t := 69) ?hr ?_; (case hd => rfl); (case hg => rfl); (case hr => first | (go_simp; done) | (go_simp; rfl)); intro gb hgb w1 BK1 hb1; have HBn := Aside0.mk (below_then HB.out HB.out.size hb1); clear HB; have HB := HBn; clear HBn; have GE := Aside0.mk (show w.heap.size ≤ gb by rw [hgb]; exact Nat.le_refl _); have BK := Aside0.mk (show w1.heap[gb]? = some (imgCell A0 l0.length c0 en A2 l2.length c2) from BK1); have hci0 := blk_cell BK1 0; have hci1 := blk_cell BK1 1; have hci2 := blk_cell BK1 2; (try have HIMn := Aside0.mk (blk_below HIM.out hb1)); (try clear HIM); (try have HIM := HIMn); (try clear HIMn); clear BK1 hb1 hgb) | (go_at_call 126; refine (image_Check.calls kc A0 c0 l0 en A2 c2 l2 _ _ _ (Kd.C_below HR0.out HB.out) HC0.out (Kd.C_below HR2.out HB.out) HC2.out HC.out).mono ?_; rintro e w2 ⟨rfl, hb⟩; have HBn := Aside0.mk (below_then HB.out HB.out.size hb); have BKn := Aside0.mk (blk_below BK.out hb); (try have HIMn := Aside0.mk (blk_below HIM.out hb)); clear HB BK hb; (try clear HIM); have HB := HBn; have BK := BKn; (try have HIM := HIMn); clear HBn BKn; (try clear HIMn); have hci0 := blk_cell BK.out 0; have hci1 := blk_cell BK.out 1; have hci2 := blk_cell BK.out 2))
    go_ret2
    exact ⟨_, rfl, Kd.R_nil _ _ _ _ _, HB.out⟩

def gather1.f (t : List Int) (en : Int) (m : List Int) : List Int × Int := gatherS hit1 t en m
set_option maxHeartbeats 8000000 in
set_option maxRecDepth 100000 in
theorem gather1.calls (A0 : Option Addr) (c0 : Nat) (l0 : List Int) (en : Int) (A2 : Option Addr) (c2 : Nat) (l2 : List Int) (r1 : List Int) (r2 : Int) (w : World) (hr0 : Kd.C (Kd.int .u32) w A0 l0.length l0) (hc0 : l0.length ≤ c0) (hr2 : Kd.C (Kd.int .i64) w A2 l2.length l2) (hc2 : l2.length ≤ c2) (hw : Words l0) (h : gather1.f l0 en l2 = (r1, r2)) :
    Calls Try.prog 97 #[.agg #[.slice A0 l0.length c0, .int .i64 en, .slice A2 l2.length c2], .func (.func 99) #[] #[]] w fun e w' => ∃ v0_ : Value, e = .returned (.tuple #[v0_, .int .i64 r2]) ∧ Kd.R (Kd.int .i64) 3 w' w.heap.size (fun _ => True) v0_ r1 ∧ Below w.heap.size w w' := by
  have hu1 := Try.underlying69
  have hu2 := Try.underlying36
  obtain ⟨kc, HC1⟩ := Ev.rounds (chk1 hw en l2)
  have HR0 := Aside0.mk hr0
  have HC0 := Aside0.mk hc0
  have HR2 := Aside0.mk hr2
  have HC2 := Aside0.mk hc2
  have HW := Aside0.mk hw
  have HB := Aside0.mk (Below.refl w.heap.size w)
  clear hr0 hc0 hr2 hc2 hw
  unfold gather1.f gatherS at h
  have hok : (chkS l0 en l2).1 = 0 → _ := fun h => chkS_ok h
  generalize hch : chkS l0 en l2 = ch at HC1 h hok
  obtain ⟨e1, e2⟩ := ch
  have HC := Aside0.mk HC1
  clear HC1 hch
  simp only at hok h
  by_cases c1 : e1 = 0
  · rw [if_pos c1] at h
    obtain ⟨hn0, hn1, hen0, hen1⟩ := hok c1
    subst c1
    injection h with e1 e2'
    subst e1 e2'
    clear hok
    go_enter Try.func97, Try.ntmps97
    go_wp2_with (first | ((with_reducible refine gate_dst (N := 2) rfl ?_); refine box_event ?hg (N := 2) ?hd (cs := #[.slice A0 l0.length c0, .int .i64 en, .slice A2 l2.length c2]) (t := 69) ?hr ?_; (case hd => rfl); (case hg => rfl); (case hr => first | (go_simp; done) | (go_simp; rfl)); intro gb hgb w1 BK1 hb1; have HBn := Aside0.mk (below_then HB.out HB.out.size hb1); clear HB; have HB := HBn; clear HBn; have GE := Aside0.mk (show w.heap.size ≤ gb by rw [hgb]; exact Nat.le_refl _); have BK := Aside0.mk (show w1.heap[gb]? = some (imgCell A0 l0.length c0 en A2 l2.length c2) from BK1); have hci0 := blk_cell BK1 0; have hci1 := blk_cell BK1 1; have hci2 := blk_cell BK1 2; (try have HIMn := Aside0.mk (blk_below HIM.out hb1)); (try clear HIM); (try have HIM := HIMn); (try clear HIMn); clear BK1 hb1 hgb) | (go_at_call 126; refine (image_Check.calls kc A0 c0 l0 en A2 c2 l2 _ _ _ (Kd.C_below HR0.out HB.out) HC0.out (Kd.C_below HR2.out HB.out) HC2.out HC.out).mono ?_; rintro e w2 ⟨rfl, hb⟩; have HBn := Aside0.mk (below_then HB.out HB.out.size hb); have BKn := Aside0.mk (blk_below BK.out hb); (try have HIMn := Aside0.mk (blk_below HIM.out hb)); clear HB BK hb; (try clear HIM); have HB := HBn; have BK := BKn; (try have HIM := HIMn); clear HBn BKn; (try clear HIMn); have hci0 := blk_cell BK.out 0; have hci1 := blk_cell BK.out 1; have hci2 := blk_cell BK.out 2) | ((with_reducible refine gate_dst (N := 21) rfl ?_); refine wpList_make_map (P := Try.prog) (k := 3) (e := 4) (t := 141) ?hg (N := 21) ?hd ?ho ?hr ?_; (case hd => rfl); (case hg => rfl); (case ho => rfl); (case hr => first | (go_simp; done) | (go_simp; rfl)); intro b hgb w3 hs0 hb; have HN1 := Aside0.mk (show gb < b by rw [hgb]; exact blk_lt BK.out); (try have HN0 := Aside0.mk (show gi < b by rw [hgb]; exact blk_lt HIM.out)); have HN2 := Aside0.mk (show w.heap.size ≤ b by rw [hgb]; exact HB.out.size); have HS := Aside0.mk (show SeenI w3 b 0 (fun _ => false) from hs0); have HBn := Aside0.mk (below_then HB.out HB.out.size hb); have BKn := Aside0.mk (blk_below BK.out hb); (try have HIMn := Aside0.mk (blk_below HIM.out hb)); clear HB BK hb hs0 hgb; (try clear HIM); have HB := HBn; have BK := BKn; (try have HIM := HIMn); clear HBn BKn; (try clear HIMn)) | ((with_reducible refine gate_dst (N := 8) rfl ?_); refine box_event ?hg (N := 8) ?hd (cs := #[.map none]) (t := 141) ?hr ?_; (case hd => rfl); (case hg => rfl); (case hr => first | (go_simp; done) | (go_simp; rfl)); intro mc hmc w4 BM1 hb; have HN3 := Aside0.mk (show b < mc by rw [hmc]; exact HS.out.lt); have HSn := Aside0.mk (show SeenI w4 b 0 (fun _ => false) from HS.out.below hb); have HBn := Aside0.mk (below_then HB.out HB.out.size hb); have BKn := Aside0.mk (blk_below BK.out hb); (try have HIMn := Aside0.mk (blk_below HIM.out hb)); have BM := Aside0.mk BM1; clear HB BK HS hb BM1 hmc; (try clear HIM); have HB := HBn; have BK := BKn; have HS := HSn; (try have HIM := HIMn); clear HBn BKn HSn; (try clear HIMn)) | ((with_reducible refine gate_store (t := 141) rfl ?_); refine wpList_store_arr rfl rfl rfl mc 0 #[.map none] 141 (.map (some b)) rfl rfl rfl (map_one _) (map_size _) BM.out (by decide) ?_; intro w5 hp; have hg := put_grown hp; have HSn := Aside0.mk (show SeenI w5 b 0 (fun _ => false) from HS.out.kept hg (fun e => by have := HN3.out; have := Option.some.inj e; omega)); have HBn := Aside0.mk (hp.below HB.out (by have := HN3.out; have := HN2.out; omega)); have BKn := Aside0.mk (blk_grown BK.out hg (fun e => by have := HN3.out; have := HN1.out; have := Option.some.inj e; omega)); (try have HIMn := Aside0.mk (blk_grown HIM.out hg (fun e => by have := HN3.out; have := HN0.out; have := Option.some.inj e; omega))); have BMn := Aside0.mk (show w5.heap[mc]? = some (mapCell b) from hp.blk); clear HB BK HS BM hp hg; (try clear HIM); have HB := HBn; have BK := BKn; have HS := HSn; have BM := BMn; (try have HIM := HIMn); clear HBn BKn HSn BMn; (try clear HIMn); have hci0 := blk_cell BK.out 0; have hci1 := blk_cell BK.out 1; have hci2 := blk_cell BK.out 2; have hcm := blk_cell BM.out 0))
    go_loopw [25] (fun u25 wr => ∃ i : Nat, u25 = .int .i64 (i : Int) ∧ i ≤ l0.length ∧ Aside0 (SeenI wr b (4 * i) (seenS hit1 l0 en i)) ∧ Aside0 (wr.heap[gb]? = some (imgCell A0 l0.length c0 en A2 l2.length c2)) ∧ Aside0 (wr.heap[mc]? = some (mapCell b)) ∧ Aside0 (Below w.heap.size w wr)) (fun u25 _ => l0.length - (intOf u25).toNat)
    case atStart => exact ⟨0, rfl, Nat.zero_le _, HS, BK, BM, HB⟩
    case round =>
      clear HS BK BM HB hci0 hci1 hci2 hcm
      obtain ⟨i, rfl, hile, HS, BK, BM, HB⟩ := hrel
      by_cases hlt : i < l0.length
      · have p0 : (0 : Int) ≤ (i : Int) := by omega
        have q0 : (i : Int) < (l0.length : Int) := by omega
        obtain ⟨ad, eA, hx0⟩ := Kd.at_int HR0.out (i : Int) p0 q0
        subst eA
        have ht : ((i : Int)).toNat = i := by omega
        rw [ht] at hx0
        have hadw := World.block_lt_of_cell? w _ hx0
        have hx := (HB.out.cell hadw).trans hx0
        have hwx := HW.out (rd l0 (i : Int)) (by rw [rd_get hlt]; exact List.getElem_mem hlt)
        obtain ⟨kd, HD0⟩ := Ev.rounds (dec1 hwx.1 hwx.2)
        have HD := Aside0.mk HD0
        clear HD0
        generalize hx1 : rd l0 (i : Int) = x at HD hx hwx hx0
        generalize hd1 : decS x = ins at HD
        obtain ⟨i0, i1, i2, i3, i4⟩ := ins
        have HK := Aside0.mk (show Mk wr wr gb (imgCell (some ad) l0.length c0 en A2 l2.length c2) (ad.add i) (.int .u32 x) mc b (4 * i) (seenS hit1 l0 en i) from ⟨BK.out, hx, BM.out, HS.out, World.grownBy.refl _ _, by have := HN1.out; omega, by have := HN2.out; omega, by have := HN3.out; omega⟩)
        have HWX := Aside0.mk hwx
        have HD1 := Aside0.mk hd1
        clear hwx hd1 hx0
        have hwr : wrap64 ((i : Int) + 1) = ((i + 1 : Nat) : Int) := by rw [wrap64_id (by omega) (by omega)]; rfl
        have PI := Aside0.mk hlt
        have PN := Aside0.mk hn1
        have PE := Aside0.mk (Go.WalkArith.wf_i64 (n := en) (by omega))
        replace p0 := eq_true p0
        replace q0 := eq_true q0
        have hltb : decide ((i : Int) < (l0.length : Int)) = true := decide_eq_true (by omega)
        go_wp2_with (first | (go_at_call 24; refine (isa_Decode.calls kd x i0 i1 i2 i3 i4 _ HD.out).mono ?_; rintro e w2 ⟨rfl, hb⟩; have HKn := Aside0.mk (HK.out.below hb); clear HK hb; have HK := HKn; clear HKn) | (go_at_call 99; refine (mark1.calls i x i0 i1 i2 i3 i4 wr _ gb ad l0.length c0 en A2 l2.length c2 mc b (4 * i) _ HWX.out.1 HWX.out.2 HD1.out PI.out (by have := PI.out; have := PN.out; omega) PE.out (by have := PI.out; have := PN.out; unfold maxLen; omega) HK.out).mono ?_; rintro e w2 ⟨rfl, hk2⟩; have HKn := Aside0.mk hk2; clear HK hk2; have HK := HKn; clear HKn))
        go_roundw
        case measure => simp [intOf]; omega
        case rel =>
          refine ⟨i + 1, by first | rfl | (simp; done) | (simp [*]; done), by omega, ⟨?_⟩, ⟨blk_grown BK.out HK.out.grown (fun e => by have := HN1.out; have := Option.some.inj e; omega)⟩, ⟨HK.out.map⟩, ⟨pw_below_grown HB.out (some b) HB.out.size HK.out.grown (fun k hk => by have := HN2.out; have := Option.some.inj hk; omega)⟩⟩
          have := HK.out.seen
          rw [show 4 * (i + 1) = 4 * i + 4 by omega]
          unfold seenS
          rw [hx1]
          exact this
      · have : i = l0.length := by omega
        subst this
        have hltb : decide ((l0.length : Int) < (l0.length : Int)) = false := by simp
        clear hlt hile
        generalize hS1 : seenS hit1 l0 en l0.length = S at HS
        have hci0 := blk_cell BK.out 0
        have hci1 := blk_cell BK.out 1
        have hci2 := blk_cell BK.out 2
        have hcm := blk_cell BM.out 0
        go_wp2
        go_loopw [11, 40] (fun u11 u40 wr => ∃ j : Nat, u40 = .int .i64 (j : Int) ∧ j ≤ l0.length ∧ Aside0 (Kd.R (Kd.int .i64) 3 wr w.heap.size (fun _ => True) u11 (placesS S j)) ∧ Aside0 (SeenI wr b (4 * l0.length) S) ∧ Aside0 (wr.heap[mc]? = some (mapCell b)) ∧ Aside0 (Below w.heap.size w wr)) (fun _ u40 _ => l0.length - (intOf u40).toNat)
        case atStart => exact ⟨0, rfl, Nat.zero_le _, ⟨Kd.R_nil _ _ _ _ _⟩, HS, BM, HB⟩
        case round =>
          clear HS BK BM HB hci0 hci1 hci2 hcm
          obtain ⟨j, rfl, hjle, HO, HS, BM, HB⟩ := hrel
          have hcm := blk_cell BM.out 0
          by_cases hlt : j < l0.length
          · have hltb2 : decide ((j : Int) < (l0.length : Int)) = true := decide_eq_true (by omega)
            have hwr : wrap64 ((j : Int) + 1) = ((j + 1 : Nat) : Int) := by rw [wrap64_id (by omega) (by omega)]; rfl
            have hkey : keyOf Try.prog 3 (.int .i64 (j : Int)) = some (.int .i64 (j : Int)) := keyOf_int_mk Try.underlying3 (Go.WalkArith.wf_i64 (by omega))
            have HKY := Aside0.mk hkey
            clear hkey
            have HL := Aside0.mk (show (placesS S j).length ≤ 16384 from Nat.le_trans (placesS_len S j) (by omega))
            go_wp2_with (first | (at_lookup; refine wpList_lookup_seen rfl _ _ 141 rfl 3 4 lawI Try.underlying141 Try.underlying4 (zeroB _) b _ S rfl HS.out _ _ rfl HKY.out trivial ?_) | ((with_reducible refine gate_builtin (b := .append) (xs := #[.tmp 46, .tmp 48]) rfl ?_); at_builtin; refine Kd.R_append (Kd.int .i64) (w0 := w) w.heap.size rfl (.tmp 46) (.tmp 48) 74 3 (.int .i64 0) 8 rfl Try.underlying74 info3 rfl (by decide) (by omega) u11 (placesS S j) (j : Int) [.int .i64 (j : Int)] (fun _ => True) (fun _ => False) rfl rfl ?aP (fun _ hk => hk.elim) ?aF ?aO ?aB ?aS ?aL ?_; (case aP => exact rfl); (case aB => exact HB.out); (case aF => exact (fun _ _ => trivial)); (case aO => exact HO.out); (case aS => exact HB.out.size); (case aL => have := HL.out; omega); intro v1 w13 ho hb hg hat; have HSn := Aside0.mk (show SeenI w13 b (4 * l0.length) S from HS.out.kept hg (seen_ne HS.out HO.out)); have BMn := Aside0.mk (blk_grown BM.out hg (Kd.R_ne HO.out BM.out (by decide))); have HOn := Aside0.mk ho; have HBn := Aside0.mk hb; clear HS BM HO HB ho hb hg hat; have HS := HSn; have BM := BMn; have HO := HOn; have HB := HBn; clear HSn BMn HOn HBn))
            · have cs : S (.int .i64 (j : Int)) = true := by assumption
              go_roundw
              case measure => simp [intOf]; omega
              case rel => exact ⟨j + 1, by first | rfl | (simp; done) | (simp [*]; done), by omega, ⟨by unfold placesS; rw [if_pos cs]; exact HO.out⟩, HS, BM, HB⟩
            · have cs : S (.int .i64 (j : Int)) = false := by assumption
              go_roundw
              case measure => simp [intOf]; omega
              case rel => exact ⟨j + 1, by first | rfl | (simp; done) | (simp [*]; done), by omega, ⟨by unfold placesS; rw [if_neg (by rw [cs]; decide)]; exact HO.out⟩, HS, BM, HB⟩
          · have : j = l0.length := by omega
            subst this
            have hltb2 : decide ((l0.length : Int) < (l0.length : Int)) = false := by simp
            clear hlt hjle
            subst hS1
            go_wp2
            go_ret2
            exact ⟨_, rfl, HO.out, HB.out⟩
  · rw [if_neg c1] at h
    injection h with e1' e2'
    subst e1' e2'
    clear hok
    have c1b : (e1 == 0) = false := by simp [c1]
    have c1c : (e1 != 0) = true := by simp [c1]
    clear c1
    go_enter Try.func97, Try.ntmps97
    go_wp2_with (first | ((with_reducible refine gate_dst (N := 2) rfl ?_); refine box_event ?hg (N := 2) ?hd (cs := #[.slice A0 l0.length c0, .int .i64 en, .slice A2 l2.length c2]) (t := 69) ?hr ?_; (case hd => rfl); (case hg => rfl); (case hr => first | (go_simp; done) | (go_simp; rfl)); intro gb hgb w1 BK1 hb1; have HBn := Aside0.mk (below_then HB.out HB.out.size hb1); clear HB; have HB := HBn; clear HBn; have GE := Aside0.mk (show w.heap.size ≤ gb by rw [hgb]; exact Nat.le_refl _); have BK := Aside0.mk (show w1.heap[gb]? = some (imgCell A0 l0.length c0 en A2 l2.length c2) from BK1); have hci0 := blk_cell BK1 0; have hci1 := blk_cell BK1 1; have hci2 := blk_cell BK1 2; (try have HIMn := Aside0.mk (blk_below HIM.out hb1)); (try clear HIM); (try have HIM := HIMn); (try clear HIMn); clear BK1 hb1 hgb) | (go_at_call 126; refine (image_Check.calls kc A0 c0 l0 en A2 c2 l2 _ _ _ (Kd.C_below HR0.out HB.out) HC0.out (Kd.C_below HR2.out HB.out) HC2.out HC.out).mono ?_; rintro e w2 ⟨rfl, hb⟩; have HBn := Aside0.mk (below_then HB.out HB.out.size hb); have BKn := Aside0.mk (blk_below BK.out hb); (try have HIMn := Aside0.mk (blk_below HIM.out hb)); clear HB BK hb; (try clear HIM); have HB := HBn; have BK := BKn; (try have HIM := HIMn); clear HBn BKn; (try clear HIMn); have hci0 := blk_cell BK.out 0; have hci1 := blk_cell BK.out 1; have hci2 := blk_cell BK.out 2))
    go_ret2
    exact ⟨_, rfl, Kd.R_nil _ _ _ _ _, HB.out⟩

def gather2.f (t : List Int) (en : Int) (m : List Int) : List Int × Int := gatherS hit2 t en m
set_option maxHeartbeats 8000000 in
set_option maxRecDepth 100000 in
theorem gather2.calls (A0 : Option Addr) (c0 : Nat) (l0 : List Int) (en : Int) (A2 : Option Addr) (c2 : Nat) (l2 : List Int) (r1 : List Int) (r2 : Int) (w : World) (hr0 : Kd.C (Kd.int .u32) w A0 l0.length l0) (hc0 : l0.length ≤ c0) (hr2 : Kd.C (Kd.int .i64) w A2 l2.length l2) (hc2 : l2.length ≤ c2) (hw : Words l0) (h : gather2.f l0 en l2 = (r1, r2)) :
    Calls Try.prog 97 #[.agg #[.slice A0 l0.length c0, .int .i64 en, .slice A2 l2.length c2], .func (.func 100) #[] #[]] w fun e w' => ∃ v0_ : Value, e = .returned (.tuple #[v0_, .int .i64 r2]) ∧ Kd.R (Kd.int .i64) 3 w' w.heap.size (fun _ => True) v0_ r1 ∧ Below w.heap.size w w' := by
  have hu1 := Try.underlying69
  have hu2 := Try.underlying36
  obtain ⟨kc, HC1⟩ := Ev.rounds (chk1 hw en l2)
  have HR0 := Aside0.mk hr0
  have HC0 := Aside0.mk hc0
  have HR2 := Aside0.mk hr2
  have HC2 := Aside0.mk hc2
  have HW := Aside0.mk hw
  have HB := Aside0.mk (Below.refl w.heap.size w)
  clear hr0 hc0 hr2 hc2 hw
  unfold gather2.f gatherS at h
  have hok : (chkS l0 en l2).1 = 0 → _ := fun h => chkS_ok h
  generalize hch : chkS l0 en l2 = ch at HC1 h hok
  obtain ⟨e1, e2⟩ := ch
  have HC := Aside0.mk HC1
  clear HC1 hch
  simp only at hok h
  by_cases c1 : e1 = 0
  · rw [if_pos c1] at h
    obtain ⟨hn0, hn1, hen0, hen1⟩ := hok c1
    subst c1
    injection h with e1 e2'
    subst e1 e2'
    clear hok
    go_enter Try.func97, Try.ntmps97
    go_wp2_with (first | ((with_reducible refine gate_dst (N := 2) rfl ?_); refine box_event ?hg (N := 2) ?hd (cs := #[.slice A0 l0.length c0, .int .i64 en, .slice A2 l2.length c2]) (t := 69) ?hr ?_; (case hd => rfl); (case hg => rfl); (case hr => first | (go_simp; done) | (go_simp; rfl)); intro gb hgb w1 BK1 hb1; have HBn := Aside0.mk (below_then HB.out HB.out.size hb1); clear HB; have HB := HBn; clear HBn; have GE := Aside0.mk (show w.heap.size ≤ gb by rw [hgb]; exact Nat.le_refl _); have BK := Aside0.mk (show w1.heap[gb]? = some (imgCell A0 l0.length c0 en A2 l2.length c2) from BK1); have hci0 := blk_cell BK1 0; have hci1 := blk_cell BK1 1; have hci2 := blk_cell BK1 2; (try have HIMn := Aside0.mk (blk_below HIM.out hb1)); (try clear HIM); (try have HIM := HIMn); (try clear HIMn); clear BK1 hb1 hgb) | (go_at_call 126; refine (image_Check.calls kc A0 c0 l0 en A2 c2 l2 _ _ _ (Kd.C_below HR0.out HB.out) HC0.out (Kd.C_below HR2.out HB.out) HC2.out HC.out).mono ?_; rintro e w2 ⟨rfl, hb⟩; have HBn := Aside0.mk (below_then HB.out HB.out.size hb); have BKn := Aside0.mk (blk_below BK.out hb); (try have HIMn := Aside0.mk (blk_below HIM.out hb)); clear HB BK hb; (try clear HIM); have HB := HBn; have BK := BKn; (try have HIM := HIMn); clear HBn BKn; (try clear HIMn); have hci0 := blk_cell BK.out 0; have hci1 := blk_cell BK.out 1; have hci2 := blk_cell BK.out 2) | ((with_reducible refine gate_dst (N := 21) rfl ?_); refine wpList_make_map (P := Try.prog) (k := 3) (e := 4) (t := 141) ?hg (N := 21) ?hd ?ho ?hr ?_; (case hd => rfl); (case hg => rfl); (case ho => rfl); (case hr => first | (go_simp; done) | (go_simp; rfl)); intro b hgb w3 hs0 hb; have HN1 := Aside0.mk (show gb < b by rw [hgb]; exact blk_lt BK.out); (try have HN0 := Aside0.mk (show gi < b by rw [hgb]; exact blk_lt HIM.out)); have HN2 := Aside0.mk (show w.heap.size ≤ b by rw [hgb]; exact HB.out.size); have HS := Aside0.mk (show SeenI w3 b 0 (fun _ => false) from hs0); have HBn := Aside0.mk (below_then HB.out HB.out.size hb); have BKn := Aside0.mk (blk_below BK.out hb); (try have HIMn := Aside0.mk (blk_below HIM.out hb)); clear HB BK hb hs0 hgb; (try clear HIM); have HB := HBn; have BK := BKn; (try have HIM := HIMn); clear HBn BKn; (try clear HIMn)) | ((with_reducible refine gate_dst (N := 8) rfl ?_); refine box_event ?hg (N := 8) ?hd (cs := #[.map none]) (t := 141) ?hr ?_; (case hd => rfl); (case hg => rfl); (case hr => first | (go_simp; done) | (go_simp; rfl)); intro mc hmc w4 BM1 hb; have HN3 := Aside0.mk (show b < mc by rw [hmc]; exact HS.out.lt); have HSn := Aside0.mk (show SeenI w4 b 0 (fun _ => false) from HS.out.below hb); have HBn := Aside0.mk (below_then HB.out HB.out.size hb); have BKn := Aside0.mk (blk_below BK.out hb); (try have HIMn := Aside0.mk (blk_below HIM.out hb)); have BM := Aside0.mk BM1; clear HB BK HS hb BM1 hmc; (try clear HIM); have HB := HBn; have BK := BKn; have HS := HSn; (try have HIM := HIMn); clear HBn BKn HSn; (try clear HIMn)) | ((with_reducible refine gate_store (t := 141) rfl ?_); refine wpList_store_arr rfl rfl rfl mc 0 #[.map none] 141 (.map (some b)) rfl rfl rfl (map_one _) (map_size _) BM.out (by decide) ?_; intro w5 hp; have hg := put_grown hp; have HSn := Aside0.mk (show SeenI w5 b 0 (fun _ => false) from HS.out.kept hg (fun e => by have := HN3.out; have := Option.some.inj e; omega)); have HBn := Aside0.mk (hp.below HB.out (by have := HN3.out; have := HN2.out; omega)); have BKn := Aside0.mk (blk_grown BK.out hg (fun e => by have := HN3.out; have := HN1.out; have := Option.some.inj e; omega)); (try have HIMn := Aside0.mk (blk_grown HIM.out hg (fun e => by have := HN3.out; have := HN0.out; have := Option.some.inj e; omega))); have BMn := Aside0.mk (show w5.heap[mc]? = some (mapCell b) from hp.blk); clear HB BK HS BM hp hg; (try clear HIM); have HB := HBn; have BK := BKn; have HS := HSn; have BM := BMn; (try have HIM := HIMn); clear HBn BKn HSn BMn; (try clear HIMn); have hci0 := blk_cell BK.out 0; have hci1 := blk_cell BK.out 1; have hci2 := blk_cell BK.out 2; have hcm := blk_cell BM.out 0))
    go_loopw [25] (fun u25 wr => ∃ i : Nat, u25 = .int .i64 (i : Int) ∧ i ≤ l0.length ∧ Aside0 (SeenI wr b (4 * i) (seenS hit2 l0 en i)) ∧ Aside0 (wr.heap[gb]? = some (imgCell A0 l0.length c0 en A2 l2.length c2)) ∧ Aside0 (wr.heap[mc]? = some (mapCell b)) ∧ Aside0 (Below w.heap.size w wr)) (fun u25 _ => l0.length - (intOf u25).toNat)
    case atStart => exact ⟨0, rfl, Nat.zero_le _, HS, BK, BM, HB⟩
    case round =>
      clear HS BK BM HB hci0 hci1 hci2 hcm
      obtain ⟨i, rfl, hile, HS, BK, BM, HB⟩ := hrel
      by_cases hlt : i < l0.length
      · have p0 : (0 : Int) ≤ (i : Int) := by omega
        have q0 : (i : Int) < (l0.length : Int) := by omega
        obtain ⟨ad, eA, hx0⟩ := Kd.at_int HR0.out (i : Int) p0 q0
        subst eA
        have ht : ((i : Int)).toNat = i := by omega
        rw [ht] at hx0
        have hadw := World.block_lt_of_cell? w _ hx0
        have hx := (HB.out.cell hadw).trans hx0
        have hwx := HW.out (rd l0 (i : Int)) (by rw [rd_get hlt]; exact List.getElem_mem hlt)
        obtain ⟨kd, HD0⟩ := Ev.rounds (dec1 hwx.1 hwx.2)
        have HD := Aside0.mk HD0
        clear HD0
        generalize hx1 : rd l0 (i : Int) = x at HD hx hwx hx0
        generalize hd1 : decS x = ins at HD
        obtain ⟨i0, i1, i2, i3, i4⟩ := ins
        have HK := Aside0.mk (show Mk wr wr gb (imgCell (some ad) l0.length c0 en A2 l2.length c2) (ad.add i) (.int .u32 x) mc b (4 * i) (seenS hit2 l0 en i) from ⟨BK.out, hx, BM.out, HS.out, World.grownBy.refl _ _, by have := HN1.out; omega, by have := HN2.out; omega, by have := HN3.out; omega⟩)
        have HWX := Aside0.mk hwx
        have HD1 := Aside0.mk hd1
        clear hwx hd1 hx0
        have hwr : wrap64 ((i : Int) + 1) = ((i + 1 : Nat) : Int) := by rw [wrap64_id (by omega) (by omega)]; rfl
        have PI := Aside0.mk hlt
        have PN := Aside0.mk hn1
        have PE := Aside0.mk (Go.WalkArith.wf_i64 (n := en) (by omega))
        replace p0 := eq_true p0
        replace q0 := eq_true q0
        have hltb : decide ((i : Int) < (l0.length : Int)) = true := decide_eq_true (by omega)
        go_wp2_with (first | (go_at_call 24; refine (isa_Decode.calls kd x i0 i1 i2 i3 i4 _ HD.out).mono ?_; rintro e w2 ⟨rfl, hb⟩; have HKn := Aside0.mk (HK.out.below hb); clear HK hb; have HK := HKn; clear HKn) | (go_at_call 100; refine (mark2.calls i x i0 i1 i2 i3 i4 wr _ gb ad l0.length c0 en A2 l2.length c2 mc b (4 * i) _ HWX.out.1 HWX.out.2 HD1.out PI.out (by have := PI.out; have := PN.out; omega) PE.out (by have := PI.out; have := PN.out; unfold maxLen; omega) HK.out).mono ?_; rintro e w2 ⟨rfl, hk2⟩; have HKn := Aside0.mk hk2; clear HK hk2; have HK := HKn; clear HKn))
        go_roundw
        case measure => simp [intOf]; omega
        case rel =>
          refine ⟨i + 1, by first | rfl | (simp; done) | (simp [*]; done), by omega, ⟨?_⟩, ⟨blk_grown BK.out HK.out.grown (fun e => by have := HN1.out; have := Option.some.inj e; omega)⟩, ⟨HK.out.map⟩, ⟨pw_below_grown HB.out (some b) HB.out.size HK.out.grown (fun k hk => by have := HN2.out; have := Option.some.inj hk; omega)⟩⟩
          have := HK.out.seen
          rw [show 4 * (i + 1) = 4 * i + 4 by omega]
          unfold seenS
          rw [hx1]
          exact this
      · have : i = l0.length := by omega
        subst this
        have hltb : decide ((l0.length : Int) < (l0.length : Int)) = false := by simp
        clear hlt hile
        generalize hS1 : seenS hit2 l0 en l0.length = S at HS
        have hci0 := blk_cell BK.out 0
        have hci1 := blk_cell BK.out 1
        have hci2 := blk_cell BK.out 2
        have hcm := blk_cell BM.out 0
        go_wp2
        go_loopw [11, 40] (fun u11 u40 wr => ∃ j : Nat, u40 = .int .i64 (j : Int) ∧ j ≤ l0.length ∧ Aside0 (Kd.R (Kd.int .i64) 3 wr w.heap.size (fun _ => True) u11 (placesS S j)) ∧ Aside0 (SeenI wr b (4 * l0.length) S) ∧ Aside0 (wr.heap[mc]? = some (mapCell b)) ∧ Aside0 (Below w.heap.size w wr)) (fun _ u40 _ => l0.length - (intOf u40).toNat)
        case atStart => exact ⟨0, rfl, Nat.zero_le _, ⟨Kd.R_nil _ _ _ _ _⟩, HS, BM, HB⟩
        case round =>
          clear HS BK BM HB hci0 hci1 hci2 hcm
          obtain ⟨j, rfl, hjle, HO, HS, BM, HB⟩ := hrel
          have hcm := blk_cell BM.out 0
          by_cases hlt : j < l0.length
          · have hltb2 : decide ((j : Int) < (l0.length : Int)) = true := decide_eq_true (by omega)
            have hwr : wrap64 ((j : Int) + 1) = ((j + 1 : Nat) : Int) := by rw [wrap64_id (by omega) (by omega)]; rfl
            have hkey : keyOf Try.prog 3 (.int .i64 (j : Int)) = some (.int .i64 (j : Int)) := keyOf_int_mk Try.underlying3 (Go.WalkArith.wf_i64 (by omega))
            have HKY := Aside0.mk hkey
            clear hkey
            have HL := Aside0.mk (show (placesS S j).length ≤ 16384 from Nat.le_trans (placesS_len S j) (by omega))
            go_wp2_with (first | (at_lookup; refine wpList_lookup_seen rfl _ _ 141 rfl 3 4 lawI Try.underlying141 Try.underlying4 (zeroB _) b _ S rfl HS.out _ _ rfl HKY.out trivial ?_) | ((with_reducible refine gate_builtin (b := .append) (xs := #[.tmp 46, .tmp 48]) rfl ?_); at_builtin; refine Kd.R_append (Kd.int .i64) (w0 := w) w.heap.size rfl (.tmp 46) (.tmp 48) 74 3 (.int .i64 0) 8 rfl Try.underlying74 info3 rfl (by decide) (by omega) u11 (placesS S j) (j : Int) [.int .i64 (j : Int)] (fun _ => True) (fun _ => False) rfl rfl ?aP (fun _ hk => hk.elim) ?aF ?aO ?aB ?aS ?aL ?_; (case aP => exact rfl); (case aB => exact HB.out); (case aF => exact (fun _ _ => trivial)); (case aO => exact HO.out); (case aS => exact HB.out.size); (case aL => have := HL.out; omega); intro v1 w13 ho hb hg hat; have HSn := Aside0.mk (show SeenI w13 b (4 * l0.length) S from HS.out.kept hg (seen_ne HS.out HO.out)); have BMn := Aside0.mk (blk_grown BM.out hg (Kd.R_ne HO.out BM.out (by decide))); have HOn := Aside0.mk ho; have HBn := Aside0.mk hb; clear HS BM HO HB ho hb hg hat; have HS := HSn; have BM := BMn; have HO := HOn; have HB := HBn; clear HSn BMn HOn HBn))
            · have cs : S (.int .i64 (j : Int)) = true := by assumption
              go_roundw
              case measure => simp [intOf]; omega
              case rel => exact ⟨j + 1, by first | rfl | (simp; done) | (simp [*]; done), by omega, ⟨by unfold placesS; rw [if_pos cs]; exact HO.out⟩, HS, BM, HB⟩
            · have cs : S (.int .i64 (j : Int)) = false := by assumption
              go_roundw
              case measure => simp [intOf]; omega
              case rel => exact ⟨j + 1, by first | rfl | (simp; done) | (simp [*]; done), by omega, ⟨by unfold placesS; rw [if_neg (by rw [cs]; decide)]; exact HO.out⟩, HS, BM, HB⟩
          · have : j = l0.length := by omega
            subst this
            have hltb2 : decide ((l0.length : Int) < (l0.length : Int)) = false := by simp
            clear hlt hjle
            subst hS1
            go_wp2
            go_ret2
            exact ⟨_, rfl, HO.out, HB.out⟩
  · rw [if_neg c1] at h
    injection h with e1' e2'
    subst e1' e2'
    clear hok
    have c1b : (e1 == 0) = false := by simp [c1]
    have c1c : (e1 != 0) = true := by simp [c1]
    clear c1
    go_enter Try.func97, Try.ntmps97
    go_wp2_with (first | ((with_reducible refine gate_dst (N := 2) rfl ?_); refine box_event ?hg (N := 2) ?hd (cs := #[.slice A0 l0.length c0, .int .i64 en, .slice A2 l2.length c2]) (t := 69) ?hr ?_; (case hd => rfl); (case hg => rfl); (case hr => first | (go_simp; done) | (go_simp; rfl)); intro gb hgb w1 BK1 hb1; have HBn := Aside0.mk (below_then HB.out HB.out.size hb1); clear HB; have HB := HBn; clear HBn; have GE := Aside0.mk (show w.heap.size ≤ gb by rw [hgb]; exact Nat.le_refl _); have BK := Aside0.mk (show w1.heap[gb]? = some (imgCell A0 l0.length c0 en A2 l2.length c2) from BK1); have hci0 := blk_cell BK1 0; have hci1 := blk_cell BK1 1; have hci2 := blk_cell BK1 2; (try have HIMn := Aside0.mk (blk_below HIM.out hb1)); (try clear HIM); (try have HIM := HIMn); (try clear HIMn); clear BK1 hb1 hgb) | (go_at_call 126; refine (image_Check.calls kc A0 c0 l0 en A2 c2 l2 _ _ _ (Kd.C_below HR0.out HB.out) HC0.out (Kd.C_below HR2.out HB.out) HC2.out HC.out).mono ?_; rintro e w2 ⟨rfl, hb⟩; have HBn := Aside0.mk (below_then HB.out HB.out.size hb); have BKn := Aside0.mk (blk_below BK.out hb); (try have HIMn := Aside0.mk (blk_below HIM.out hb)); clear HB BK hb; (try clear HIM); have HB := HBn; have BK := BKn; (try have HIM := HIMn); clear HBn BKn; (try clear HIMn); have hci0 := blk_cell BK.out 0; have hci1 := blk_cell BK.out 1; have hci2 := blk_cell BK.out 2))
    go_ret2
    exact ⟨_, rfl, Kd.R_nil _ _ _ _ _, HB.out⟩

def gather3.f (t : List Int) (en : Int) (m : List Int) : List Int × Int := gatherS hit3 t en m
set_option maxHeartbeats 8000000 in
set_option maxRecDepth 100000 in
theorem gather3.calls (A0 : Option Addr) (c0 : Nat) (l0 : List Int) (en : Int) (A2 : Option Addr) (c2 : Nat) (l2 : List Int) (gi : Nat) (r1 : List Int) (r2 : Int) (w : World) (hr0 : Kd.C (Kd.int .u32) w A0 l0.length l0) (hc0 : l0.length ≤ c0) (hr2 : Kd.C (Kd.int .i64) w A2 l2.length l2) (hc2 : l2.length ≤ c2) (hw : Words l0) (him : w.heap[gi]? = some (imgCell A0 l0.length c0 en A2 l2.length c2)) (h : gather3.f l0 en l2 = (r1, r2)) :
    Calls Try.prog 97 #[.agg #[.slice A0 l0.length c0, .int .i64 en, .slice A2 l2.length c2], .func (.func 101) #[] #[.pointer (some ⟨gi, 0, none⟩)]] w fun e w' => ∃ v0_ : Value, e = .returned (.tuple #[v0_, .int .i64 r2]) ∧ Kd.R (Kd.int .i64) 3 w' w.heap.size (fun _ => True) v0_ r1 ∧ Below w.heap.size w w' := by
  have hu1 := Try.underlying69
  have hu2 := Try.underlying36
  obtain ⟨kc, HC1⟩ := Ev.rounds (chk1 hw en l2)
  have HR0 := Aside0.mk hr0
  have HC0 := Aside0.mk hc0
  have HR2 := Aside0.mk hr2
  have HC2 := Aside0.mk hc2
  have HW := Aside0.mk hw
  have HB := Aside0.mk (Below.refl w.heap.size w)
  have HIM := Aside0.mk him
  clear him
  clear hr0 hc0 hr2 hc2 hw
  unfold gather3.f gatherS at h
  have hok : (chkS l0 en l2).1 = 0 → _ := fun h => chkS_ok h
  generalize hch : chkS l0 en l2 = ch at HC1 h hok
  obtain ⟨e1, e2⟩ := ch
  have HC := Aside0.mk HC1
  clear HC1 hch
  simp only at hok h
  by_cases c1 : e1 = 0
  · rw [if_pos c1] at h
    obtain ⟨hn0, hn1, hen0, hen1⟩ := hok c1
    subst c1
    injection h with e1 e2'
    subst e1 e2'
    clear hok
    go_enter Try.func97, Try.ntmps97
    go_wp2_with (first | ((with_reducible refine gate_dst (N := 2) rfl ?_); refine box_event ?hg (N := 2) ?hd (cs := #[.slice A0 l0.length c0, .int .i64 en, .slice A2 l2.length c2]) (t := 69) ?hr ?_; (case hd => rfl); (case hg => rfl); (case hr => first | (go_simp; done) | (go_simp; rfl)); intro gb hgb w1 BK1 hb1; have HBn := Aside0.mk (below_then HB.out HB.out.size hb1); clear HB; have HB := HBn; clear HBn; have GE := Aside0.mk (show w.heap.size ≤ gb by rw [hgb]; exact Nat.le_refl _); have BK := Aside0.mk (show w1.heap[gb]? = some (imgCell A0 l0.length c0 en A2 l2.length c2) from BK1); have hci0 := blk_cell BK1 0; have hci1 := blk_cell BK1 1; have hci2 := blk_cell BK1 2; (try have HIMn := Aside0.mk (blk_below HIM.out hb1)); (try clear HIM); (try have HIM := HIMn); (try clear HIMn); clear BK1 hb1 hgb) | (go_at_call 126; refine (image_Check.calls kc A0 c0 l0 en A2 c2 l2 _ _ _ (Kd.C_below HR0.out HB.out) HC0.out (Kd.C_below HR2.out HB.out) HC2.out HC.out).mono ?_; rintro e w2 ⟨rfl, hb⟩; have HBn := Aside0.mk (below_then HB.out HB.out.size hb); have BKn := Aside0.mk (blk_below BK.out hb); (try have HIMn := Aside0.mk (blk_below HIM.out hb)); clear HB BK hb; (try clear HIM); have HB := HBn; have BK := BKn; (try have HIM := HIMn); clear HBn BKn; (try clear HIMn); have hci0 := blk_cell BK.out 0; have hci1 := blk_cell BK.out 1; have hci2 := blk_cell BK.out 2) | ((with_reducible refine gate_dst (N := 21) rfl ?_); refine wpList_make_map (P := Try.prog) (k := 3) (e := 4) (t := 141) ?hg (N := 21) ?hd ?ho ?hr ?_; (case hd => rfl); (case hg => rfl); (case ho => rfl); (case hr => first | (go_simp; done) | (go_simp; rfl)); intro b hgb w3 hs0 hb; have HN1 := Aside0.mk (show gb < b by rw [hgb]; exact blk_lt BK.out); (try have HN0 := Aside0.mk (show gi < b by rw [hgb]; exact blk_lt HIM.out)); have HN2 := Aside0.mk (show w.heap.size ≤ b by rw [hgb]; exact HB.out.size); have HS := Aside0.mk (show SeenI w3 b 0 (fun _ => false) from hs0); have HBn := Aside0.mk (below_then HB.out HB.out.size hb); have BKn := Aside0.mk (blk_below BK.out hb); (try have HIMn := Aside0.mk (blk_below HIM.out hb)); clear HB BK hb hs0 hgb; (try clear HIM); have HB := HBn; have BK := BKn; (try have HIM := HIMn); clear HBn BKn; (try clear HIMn)) | ((with_reducible refine gate_dst (N := 8) rfl ?_); refine box_event ?hg (N := 8) ?hd (cs := #[.map none]) (t := 141) ?hr ?_; (case hd => rfl); (case hg => rfl); (case hr => first | (go_simp; done) | (go_simp; rfl)); intro mc hmc w4 BM1 hb; have HN3 := Aside0.mk (show b < mc by rw [hmc]; exact HS.out.lt); have HSn := Aside0.mk (show SeenI w4 b 0 (fun _ => false) from HS.out.below hb); have HBn := Aside0.mk (below_then HB.out HB.out.size hb); have BKn := Aside0.mk (blk_below BK.out hb); (try have HIMn := Aside0.mk (blk_below HIM.out hb)); have BM := Aside0.mk BM1; clear HB BK HS hb BM1 hmc; (try clear HIM); have HB := HBn; have BK := BKn; have HS := HSn; (try have HIM := HIMn); clear HBn BKn HSn; (try clear HIMn)) | ((with_reducible refine gate_store (t := 141) rfl ?_); refine wpList_store_arr rfl rfl rfl mc 0 #[.map none] 141 (.map (some b)) rfl rfl rfl (map_one _) (map_size _) BM.out (by decide) ?_; intro w5 hp; have hg := put_grown hp; have HSn := Aside0.mk (show SeenI w5 b 0 (fun _ => false) from HS.out.kept hg (fun e => by have := HN3.out; have := Option.some.inj e; omega)); have HBn := Aside0.mk (hp.below HB.out (by have := HN3.out; have := HN2.out; omega)); have BKn := Aside0.mk (blk_grown BK.out hg (fun e => by have := HN3.out; have := HN1.out; have := Option.some.inj e; omega)); (try have HIMn := Aside0.mk (blk_grown HIM.out hg (fun e => by have := HN3.out; have := HN0.out; have := Option.some.inj e; omega))); have BMn := Aside0.mk (show w5.heap[mc]? = some (mapCell b) from hp.blk); clear HB BK HS BM hp hg; (try clear HIM); have HB := HBn; have BK := BKn; have HS := HSn; have BM := BMn; (try have HIM := HIMn); clear HBn BKn HSn BMn; (try clear HIMn); have hci0 := blk_cell BK.out 0; have hci1 := blk_cell BK.out 1; have hci2 := blk_cell BK.out 2; have hcm := blk_cell BM.out 0))
    go_loopw [25] (fun u25 wr => ∃ i : Nat, u25 = .int .i64 (i : Int) ∧ i ≤ l0.length ∧ Aside0 (SeenI wr b (4 * i) (seenS hit3 l0 en i)) ∧ Aside0 (wr.heap[gb]? = some (imgCell A0 l0.length c0 en A2 l2.length c2)) ∧ Aside0 (wr.heap[mc]? = some (mapCell b)) ∧ Aside0 (wr.heap[gi]? = some (imgCell A0 l0.length c0 en A2 l2.length c2)) ∧ Aside0 (Below w.heap.size w wr)) (fun u25 _ => l0.length - (intOf u25).toNat)
    case atStart => exact ⟨0, rfl, Nat.zero_le _, HS, BK, BM, HIM, HB⟩
    case round =>
      clear HS BK BM HIM HB hci0 hci1 hci2 hcm
      obtain ⟨i, rfl, hile, HS, BK, BM, HIM, HB⟩ := hrel
      by_cases hlt : i < l0.length
      · have p0 : (0 : Int) ≤ (i : Int) := by omega
        have q0 : (i : Int) < (l0.length : Int) := by omega
        obtain ⟨ad, eA, hx0⟩ := Kd.at_int HR0.out (i : Int) p0 q0
        subst eA
        have ht : ((i : Int)).toNat = i := by omega
        rw [ht] at hx0
        have hadw := World.block_lt_of_cell? w _ hx0
        have hx := (HB.out.cell hadw).trans hx0
        have hwx := HW.out (rd l0 (i : Int)) (by rw [rd_get hlt]; exact List.getElem_mem hlt)
        obtain ⟨kd, HD0⟩ := Ev.rounds (dec1 hwx.1 hwx.2)
        have HD := Aside0.mk HD0
        clear HD0
        generalize hx1 : rd l0 (i : Int) = x at HD hx hwx hx0
        generalize hd1 : decS x = ins at HD
        obtain ⟨i0, i1, i2, i3, i4⟩ := ins
        have HK := Aside0.mk (show Mk wr wr gi (imgCell (some ad) l0.length c0 en A2 l2.length c2) (ad.add i) (.int .u32 x) mc b (4 * i) (seenS hit3 l0 en i) from ⟨HIM.out, hx, BM.out, HS.out, World.grownBy.refl _ _, by have := HN1.out; have := HN0.out; omega, by have := HN2.out; omega, by have := HN3.out; omega⟩)
        have HWX := Aside0.mk hwx
        have HD1 := Aside0.mk hd1
        clear hwx hd1 hx0
        have hwr : wrap64 ((i : Int) + 1) = ((i + 1 : Nat) : Int) := by rw [wrap64_id (by omega) (by omega)]; rfl
        have PI := Aside0.mk hlt
        have PN := Aside0.mk hn1
        have PE := Aside0.mk (Go.WalkArith.wf_i64 (n := en) (by omega))
        replace p0 := eq_true p0
        replace q0 := eq_true q0
        have hltb : decide ((i : Int) < (l0.length : Int)) = true := decide_eq_true (by omega)
        go_wp2_with (first | (go_at_call 24; refine (isa_Decode.calls kd x i0 i1 i2 i3 i4 _ HD.out).mono ?_; rintro e w2 ⟨rfl, hb⟩; have HKn := Aside0.mk (HK.out.below hb); clear HK hb; have HK := HKn; clear HKn) | (go_at_call 101; refine (mark3.calls i x i0 i1 i2 i3 i4 wr _ gi ad l0.length c0 en A2 l2.length c2 mc b (4 * i) _ HWX.out.1 HWX.out.2 HD1.out PI.out (by have := PI.out; have := PN.out; omega) PE.out (by have := PI.out; have := PN.out; unfold maxLen; omega) HK.out).mono ?_; rintro e w2 ⟨rfl, hk2⟩; have HKn := Aside0.mk hk2; clear HK hk2; have HK := HKn; clear HKn))
        go_roundw
        case measure => simp [intOf]; omega
        case rel =>
          refine ⟨i + 1, by first | rfl | (simp; done) | (simp [*]; done), by omega, ⟨?_⟩, ⟨blk_grown BK.out HK.out.grown (fun e => by have := HN1.out; have := Option.some.inj e; omega)⟩, ⟨HK.out.map⟩, ⟨HK.out.img⟩, ⟨pw_below_grown HB.out (some b) HB.out.size HK.out.grown (fun k hk => by have := HN2.out; have := Option.some.inj hk; omega)⟩⟩
          have := HK.out.seen
          rw [show 4 * (i + 1) = 4 * i + 4 by omega]
          unfold seenS
          rw [hx1]
          exact this
      · have : i = l0.length := by omega
        subst this
        have hltb : decide ((l0.length : Int) < (l0.length : Int)) = false := by simp
        clear hlt hile
        generalize hS1 : seenS hit3 l0 en l0.length = S at HS
        have hci0 := blk_cell BK.out 0
        have hci1 := blk_cell BK.out 1
        have hci2 := blk_cell BK.out 2
        have hcm := blk_cell BM.out 0
        go_wp2
        go_loopw [11, 40] (fun u11 u40 wr => ∃ j : Nat, u40 = .int .i64 (j : Int) ∧ j ≤ l0.length ∧ Aside0 (Kd.R (Kd.int .i64) 3 wr w.heap.size (fun _ => True) u11 (placesS S j)) ∧ Aside0 (SeenI wr b (4 * l0.length) S) ∧ Aside0 (wr.heap[mc]? = some (mapCell b)) ∧ Aside0 (Below w.heap.size w wr)) (fun _ u40 _ => l0.length - (intOf u40).toNat)
        case atStart => exact ⟨0, rfl, Nat.zero_le _, ⟨Kd.R_nil _ _ _ _ _⟩, HS, BM, HB⟩
        case round =>
          clear HS BK BM HB hci0 hci1 hci2 hcm
          obtain ⟨j, rfl, hjle, HO, HS, BM, HB⟩ := hrel
          have hcm := blk_cell BM.out 0
          by_cases hlt : j < l0.length
          · have hltb2 : decide ((j : Int) < (l0.length : Int)) = true := decide_eq_true (by omega)
            have hwr : wrap64 ((j : Int) + 1) = ((j + 1 : Nat) : Int) := by rw [wrap64_id (by omega) (by omega)]; rfl
            have hkey : keyOf Try.prog 3 (.int .i64 (j : Int)) = some (.int .i64 (j : Int)) := keyOf_int_mk Try.underlying3 (Go.WalkArith.wf_i64 (by omega))
            have HKY := Aside0.mk hkey
            clear hkey
            have HL := Aside0.mk (show (placesS S j).length ≤ 16384 from Nat.le_trans (placesS_len S j) (by omega))
            go_wp2_with (first | (at_lookup; refine wpList_lookup_seen rfl _ _ 141 rfl 3 4 lawI Try.underlying141 Try.underlying4 (zeroB _) b _ S rfl HS.out _ _ rfl HKY.out trivial ?_) | ((with_reducible refine gate_builtin (b := .append) (xs := #[.tmp 46, .tmp 48]) rfl ?_); at_builtin; refine Kd.R_append (Kd.int .i64) (w0 := w) w.heap.size rfl (.tmp 46) (.tmp 48) 74 3 (.int .i64 0) 8 rfl Try.underlying74 info3 rfl (by decide) (by omega) u11 (placesS S j) (j : Int) [.int .i64 (j : Int)] (fun _ => True) (fun _ => False) rfl rfl ?aP (fun _ hk => hk.elim) ?aF ?aO ?aB ?aS ?aL ?_; (case aP => exact rfl); (case aB => exact HB.out); (case aF => exact (fun _ _ => trivial)); (case aO => exact HO.out); (case aS => exact HB.out.size); (case aL => have := HL.out; omega); intro v1 w13 ho hb hg hat; have HSn := Aside0.mk (show SeenI w13 b (4 * l0.length) S from HS.out.kept hg (seen_ne HS.out HO.out)); have BMn := Aside0.mk (blk_grown BM.out hg (Kd.R_ne HO.out BM.out (by decide))); have HOn := Aside0.mk ho; have HBn := Aside0.mk hb; clear HS BM HO HB ho hb hg hat; have HS := HSn; have BM := BMn; have HO := HOn; have HB := HBn; clear HSn BMn HOn HBn))
            · have cs : S (.int .i64 (j : Int)) = true := by assumption
              go_roundw
              case measure => simp [intOf]; omega
              case rel => exact ⟨j + 1, by first | rfl | (simp; done) | (simp [*]; done), by omega, ⟨by unfold placesS; rw [if_pos cs]; exact HO.out⟩, HS, BM, HB⟩
            · have cs : S (.int .i64 (j : Int)) = false := by assumption
              go_roundw
              case measure => simp [intOf]; omega
              case rel => exact ⟨j + 1, by first | rfl | (simp; done) | (simp [*]; done), by omega, ⟨by unfold placesS; rw [if_neg (by rw [cs]; decide)]; exact HO.out⟩, HS, BM, HB⟩
          · have : j = l0.length := by omega
            subst this
            have hltb2 : decide ((l0.length : Int) < (l0.length : Int)) = false := by simp
            clear hlt hjle
            subst hS1
            go_wp2
            go_ret2
            exact ⟨_, rfl, HO.out, HB.out⟩
  · rw [if_neg c1] at h
    injection h with e1' e2'
    subst e1' e2'
    clear hok
    have c1b : (e1 == 0) = false := by simp [c1]
    have c1c : (e1 != 0) = true := by simp [c1]
    clear c1
    go_enter Try.func97, Try.ntmps97
    go_wp2_with (first | ((with_reducible refine gate_dst (N := 2) rfl ?_); refine box_event ?hg (N := 2) ?hd (cs := #[.slice A0 l0.length c0, .int .i64 en, .slice A2 l2.length c2]) (t := 69) ?hr ?_; (case hd => rfl); (case hg => rfl); (case hr => first | (go_simp; done) | (go_simp; rfl)); intro gb hgb w1 BK1 hb1; have HBn := Aside0.mk (below_then HB.out HB.out.size hb1); clear HB; have HB := HBn; clear HBn; have GE := Aside0.mk (show w.heap.size ≤ gb by rw [hgb]; exact Nat.le_refl _); have BK := Aside0.mk (show w1.heap[gb]? = some (imgCell A0 l0.length c0 en A2 l2.length c2) from BK1); have hci0 := blk_cell BK1 0; have hci1 := blk_cell BK1 1; have hci2 := blk_cell BK1 2; (try have HIMn := Aside0.mk (blk_below HIM.out hb1)); (try clear HIM); (try have HIM := HIMn); (try clear HIMn); clear BK1 hb1 hgb) | (go_at_call 126; refine (image_Check.calls kc A0 c0 l0 en A2 c2 l2 _ _ _ (Kd.C_below HR0.out HB.out) HC0.out (Kd.C_below HR2.out HB.out) HC2.out HC.out).mono ?_; rintro e w2 ⟨rfl, hb⟩; have HBn := Aside0.mk (below_then HB.out HB.out.size hb); have BKn := Aside0.mk (blk_below BK.out hb); (try have HIMn := Aside0.mk (blk_below HIM.out hb)); clear HB BK hb; (try clear HIM); have HB := HBn; have BK := BKn; (try have HIM := HIMn); clear HBn BKn; (try clear HIMn); have hci0 := blk_cell BK.out 0; have hci1 := blk_cell BK.out 1; have hci2 := blk_cell BK.out 2))
    go_ret2
    exact ⟨_, rfl, Kd.R_nil _ _ _ _ _, HB.out⟩

end Go.Proofs.Ytiaohbbafaaibaa.P

/- OWN TEXT: block.Labels, Taken, Sites, Blocks, in the print's own form. -/
namespace Go.Proofs.Ytiaohbbafaaibaa.P
open Go.RowKit Go.Maps Go.Proofs.YtiaohbbafaaibaaW.PrintWords Go.Proofs.YtiaohbbafaaibaaW.PrintLast Go.Proofs.YtiaohbbafaaibaaW.PrintMore Go.Proofs.Ytiaohbbafaaibaa.Arr Go.Proofs.Ytiaohbbafaaibaa.MapB
set_option linter.unusedVariables false
set_option linter.unusedSimpArgs false

def wordsB (t : List Int) : Bool := t.all fun x => decide (0 ≤ x) && decide (x < 4294967296)
theorem wordsB_iff {t : List Int} : wordsB t = true ↔ Words t := by
  unfold wordsB Words
  simp [List.all_eq_true, Bool.and_eq_true, decide_eq_true_eq]
def pairU (l : List Int) (n : Int) : Nat → List S84
  | 0 => []
  | j + 1 => pairU l n j ++ [⟨rd l (j : Int), if (j : Int) + 1 < (l.length : Int) then rd l ((j : Int) + 1) else n⟩]
theorem pairU_len (l : List Int) (n : Int) : ∀ j, (pairU l n j).length = j
  | 0 => rfl
  | j + 1 => by unfold pairU; rw [List.length_append, pairU_len l n j]; rfl
def blocksS (t : List Int) (en : Int) (m : List Int) : List S84 × Int := (pairU (gatherS hit3 t en m).1 (t.length : Int) (gatherS hit3 t en m).1.length, (gatherS hit3 t en m).2)

def block_Labels.f (l0_0 : List Int) (a0_1 : Int) (l0_2 : List Int) : Option (List Int × Int) := if wordsB l0_0 = true then some (gatherS hit0 l0_0 a0_1 l0_2) else none
set_option maxHeartbeats 4000000 in
set_option maxRecDepth 100000 in
theorem block_Labels.calls (A0_0 : Option Addr) (c0_0 : Nat) (l0_0 : List Int) (a0_1 : Int) (A0_2 : Option Addr) (c0_2 : Nat) (l0_2 : List Int) (r1 : List Int) (r2 : Int) (w : World) (hr0_0 : Kd.C (Kd.int .u32) w A0_0 l0_0.length l0_0) (hc0_0 : l0_0.length ≤ c0_0) (hr0_2 : Kd.C (Kd.int .i64) w A0_2 l0_2.length l0_2) (hc0_2 : l0_2.length ≤ c0_2) (h : block_Labels.f l0_0 a0_1 l0_2 = some (r1, r2)) :
    Calls Try.prog 64 #[.agg #[.slice A0_0 l0_0.length c0_0, .int .i64 a0_1, .slice A0_2 l0_2.length c0_2]] w fun e w' => ∃ v0_ : Value, e = .returned (.tuple #[v0_, .int .i64 r2]) ∧ Kd.R (Kd.int .i64) 3 w' w.heap.size (fun _ => True) v0_ r1 ∧ Below w.heap.size w w' := by
  have hu1 := Try.underlying69
  unfold block_Labels.f at h
  by_cases hw : wordsB l0_0 = true
  · rw [if_pos hw] at h
    have h := Option.some.inj h
    have HG := Aside0.mk (show gather0.f l0_0 a0_1 l0_2 = (r1, r2) from h)
    have HW := Aside0.mk (wordsB_iff.1 hw)
    have HR0 := Aside0.mk hr0_0
    have HC0 := Aside0.mk hc0_0
    have HR2 := Aside0.mk hr0_2
    have HC2 := Aside0.mk hc0_2
    have HB := Aside0.mk (Below.refl w.heap.size w)
    clear hr0_0 hc0_0 hr0_2 hc0_2 hw h
    go_enter Try.func64, Try.ntmps64
    go_wp2_with (first | ((with_reducible refine gate_dst (N := 1) rfl ?_); refine box_event ?hg (N := 1) ?hd (cs := #[.slice A0_0 l0_0.length c0_0, .int .i64 a0_1, .slice A0_2 l0_2.length c0_2]) (t := 69) ?hr ?_; (case hd => rfl); (case hg => rfl); (case hr => first | (go_simp; done) | (go_simp; rfl)); intro gb hgb w1 BK1 hb1; have HBn := Aside0.mk (below_then HB.out HB.out.size hb1); clear HB; have HB := HBn; clear HBn; have GE := Aside0.mk (show w.heap.size ≤ gb by rw [hgb]; exact Nat.le_refl _); have BK := Aside0.mk (show w1.heap[gb]? = some (imgCell A0_0 l0_0.length c0_0 a0_1 A0_2 l0_2.length c0_2) from BK1); have hci0 := blk_cell BK1 0; have hci1 := blk_cell BK1 1; have hci2 := blk_cell BK1 2; (try have HIMn := Aside0.mk (blk_below HIM.out hb1)); (try clear HIM); (try have HIM := HIMn); (try clear HIMn); clear BK1 hb1 hgb) | (go_at_call 97; refine (gather0.calls A0_0 c0_0 l0_0 a0_1 A0_2 c0_2 l0_2 gb _ _ _ (Kd.C_below HR0.out HB.out) HC0.out (Kd.C_below HR2.out HB.out) HC2.out HW.out BK.out HG.out).mono ?_; rintro e w2 ⟨v0, rfl, ho, hb⟩; have HO := Aside0.mk (Kd.R_lower ho HB.out.size); have HBn := Aside0.mk (below_then HB.out HB.out.size hb); have BKn := Aside0.mk (blk_below BK.out hb); clear HB BK ho hb; have HB := HBn; have BK := BKn; clear HBn BKn; have hci0 := blk_cell BK.out 0; have hci1 := blk_cell BK.out 1; have hci2 := blk_cell BK.out 2))
    go_ret2
    exact ⟨_, rfl, HO.out, HB.out⟩
  · rw [if_neg hw] at h; cases h

def block_Taken.f (l0_0 : List Int) (a0_1 : Int) (l0_2 : List Int) : Option (List Int × Int) := if wordsB l0_0 = true then some (gatherS hit1 l0_0 a0_1 l0_2) else none
set_option maxHeartbeats 4000000 in
set_option maxRecDepth 100000 in
theorem block_Taken.calls (A0_0 : Option Addr) (c0_0 : Nat) (l0_0 : List Int) (a0_1 : Int) (A0_2 : Option Addr) (c0_2 : Nat) (l0_2 : List Int) (r1 : List Int) (r2 : Int) (w : World) (hr0_0 : Kd.C (Kd.int .u32) w A0_0 l0_0.length l0_0) (hc0_0 : l0_0.length ≤ c0_0) (hr0_2 : Kd.C (Kd.int .i64) w A0_2 l0_2.length l0_2) (hc0_2 : l0_2.length ≤ c0_2) (h : block_Taken.f l0_0 a0_1 l0_2 = some (r1, r2)) :
    Calls Try.prog 65 #[.agg #[.slice A0_0 l0_0.length c0_0, .int .i64 a0_1, .slice A0_2 l0_2.length c0_2]] w fun e w' => ∃ v0_ : Value, e = .returned (.tuple #[v0_, .int .i64 r2]) ∧ Kd.R (Kd.int .i64) 3 w' w.heap.size (fun _ => True) v0_ r1 ∧ Below w.heap.size w w' := by
  have hu1 := Try.underlying69
  unfold block_Taken.f at h
  by_cases hw : wordsB l0_0 = true
  · rw [if_pos hw] at h
    have h := Option.some.inj h
    have HG := Aside0.mk (show gather1.f l0_0 a0_1 l0_2 = (r1, r2) from h)
    have HW := Aside0.mk (wordsB_iff.1 hw)
    have HR0 := Aside0.mk hr0_0
    have HC0 := Aside0.mk hc0_0
    have HR2 := Aside0.mk hr0_2
    have HC2 := Aside0.mk hc0_2
    have HB := Aside0.mk (Below.refl w.heap.size w)
    clear hr0_0 hc0_0 hr0_2 hc0_2 hw h
    go_enter Try.func65, Try.ntmps65
    go_wp2_with (first | ((with_reducible refine gate_dst (N := 1) rfl ?_); refine box_event ?hg (N := 1) ?hd (cs := #[.slice A0_0 l0_0.length c0_0, .int .i64 a0_1, .slice A0_2 l0_2.length c0_2]) (t := 69) ?hr ?_; (case hd => rfl); (case hg => rfl); (case hr => first | (go_simp; done) | (go_simp; rfl)); intro gb hgb w1 BK1 hb1; have HBn := Aside0.mk (below_then HB.out HB.out.size hb1); clear HB; have HB := HBn; clear HBn; have GE := Aside0.mk (show w.heap.size ≤ gb by rw [hgb]; exact Nat.le_refl _); have BK := Aside0.mk (show w1.heap[gb]? = some (imgCell A0_0 l0_0.length c0_0 a0_1 A0_2 l0_2.length c0_2) from BK1); have hci0 := blk_cell BK1 0; have hci1 := blk_cell BK1 1; have hci2 := blk_cell BK1 2; (try have HIMn := Aside0.mk (blk_below HIM.out hb1)); (try clear HIM); (try have HIM := HIMn); (try clear HIMn); clear BK1 hb1 hgb) | (go_at_call 97; refine (gather1.calls A0_0 c0_0 l0_0 a0_1 A0_2 c0_2 l0_2 _ _ _ (Kd.C_below HR0.out HB.out) HC0.out (Kd.C_below HR2.out HB.out) HC2.out HW.out HG.out).mono ?_; rintro e w2 ⟨v0, rfl, ho, hb⟩; have HO := Aside0.mk (Kd.R_lower ho HB.out.size); have HBn := Aside0.mk (below_then HB.out HB.out.size hb); have BKn := Aside0.mk (blk_below BK.out hb); clear HB BK ho hb; have HB := HBn; have BK := BKn; clear HBn BKn; have hci0 := blk_cell BK.out 0; have hci1 := blk_cell BK.out 1; have hci2 := blk_cell BK.out 2))
    go_ret2
    exact ⟨_, rfl, HO.out, HB.out⟩
  · rw [if_neg hw] at h; cases h

def block_Sites.f (l0_0 : List Int) (a0_1 : Int) (l0_2 : List Int) : Option (List Int × Int) := if wordsB l0_0 = true then some (gatherS hit2 l0_0 a0_1 l0_2) else none
set_option maxHeartbeats 4000000 in
set_option maxRecDepth 100000 in
theorem block_Sites.calls (A0_0 : Option Addr) (c0_0 : Nat) (l0_0 : List Int) (a0_1 : Int) (A0_2 : Option Addr) (c0_2 : Nat) (l0_2 : List Int) (r1 : List Int) (r2 : Int) (w : World) (hr0_0 : Kd.C (Kd.int .u32) w A0_0 l0_0.length l0_0) (hc0_0 : l0_0.length ≤ c0_0) (hr0_2 : Kd.C (Kd.int .i64) w A0_2 l0_2.length l0_2) (hc0_2 : l0_2.length ≤ c0_2) (h : block_Sites.f l0_0 a0_1 l0_2 = some (r1, r2)) :
    Calls Try.prog 66 #[.agg #[.slice A0_0 l0_0.length c0_0, .int .i64 a0_1, .slice A0_2 l0_2.length c0_2]] w fun e w' => ∃ v0_ : Value, e = .returned (.tuple #[v0_, .int .i64 r2]) ∧ Kd.R (Kd.int .i64) 3 w' w.heap.size (fun _ => True) v0_ r1 ∧ Below w.heap.size w w' := by
  have hu1 := Try.underlying69
  unfold block_Sites.f at h
  by_cases hw : wordsB l0_0 = true
  · rw [if_pos hw] at h
    have h := Option.some.inj h
    have HG := Aside0.mk (show gather2.f l0_0 a0_1 l0_2 = (r1, r2) from h)
    have HW := Aside0.mk (wordsB_iff.1 hw)
    have HR0 := Aside0.mk hr0_0
    have HC0 := Aside0.mk hc0_0
    have HR2 := Aside0.mk hr0_2
    have HC2 := Aside0.mk hc0_2
    have HB := Aside0.mk (Below.refl w.heap.size w)
    clear hr0_0 hc0_0 hr0_2 hc0_2 hw h
    go_enter Try.func66, Try.ntmps66
    go_wp2_with (first | ((with_reducible refine gate_dst (N := 1) rfl ?_); refine box_event ?hg (N := 1) ?hd (cs := #[.slice A0_0 l0_0.length c0_0, .int .i64 a0_1, .slice A0_2 l0_2.length c0_2]) (t := 69) ?hr ?_; (case hd => rfl); (case hg => rfl); (case hr => first | (go_simp; done) | (go_simp; rfl)); intro gb hgb w1 BK1 hb1; have HBn := Aside0.mk (below_then HB.out HB.out.size hb1); clear HB; have HB := HBn; clear HBn; have GE := Aside0.mk (show w.heap.size ≤ gb by rw [hgb]; exact Nat.le_refl _); have BK := Aside0.mk (show w1.heap[gb]? = some (imgCell A0_0 l0_0.length c0_0 a0_1 A0_2 l0_2.length c0_2) from BK1); have hci0 := blk_cell BK1 0; have hci1 := blk_cell BK1 1; have hci2 := blk_cell BK1 2; (try have HIMn := Aside0.mk (blk_below HIM.out hb1)); (try clear HIM); (try have HIM := HIMn); (try clear HIMn); clear BK1 hb1 hgb) | (go_at_call 97; refine (gather2.calls A0_0 c0_0 l0_0 a0_1 A0_2 c0_2 l0_2 _ _ _ (Kd.C_below HR0.out HB.out) HC0.out (Kd.C_below HR2.out HB.out) HC2.out HW.out HG.out).mono ?_; rintro e w2 ⟨v0, rfl, ho, hb⟩; have HO := Aside0.mk (Kd.R_lower ho HB.out.size); have HBn := Aside0.mk (below_then HB.out HB.out.size hb); have BKn := Aside0.mk (blk_below BK.out hb); clear HB BK ho hb; have HB := HBn; have BK := BKn; clear HBn BKn; have hci0 := blk_cell BK.out 0; have hci1 := blk_cell BK.out 1; have hci2 := blk_cell BK.out 2))
    go_ret2
    exact ⟨_, rfl, HO.out, HB.out⟩
  · rw [if_neg hw] at h; cases h

def block_Blocks.f (l0_0 : List Int) (a0_1 : Int) (l0_2 : List Int) : Option (List S84 × Int) := if wordsB l0_0 = true then some (blocksS l0_0 a0_1 l0_2) else none
theorem gatherS_len (hit : Int → Int → Nat → List Int) (t : List Int) (en : Int) (m : List Int) : (gatherS hit t en m).1.length ≤ 16384 := by
  unfold gatherS
  split
  · rename_i h
    have := chkS_ok h
    exact Nat.le_trans (placesS_len _ _) (by omega)
  · simp
set_option maxHeartbeats 8000000 in
set_option maxRecDepth 100000 in
theorem block_Blocks.calls (A0_0 : Option Addr) (c0_0 : Nat) (l0_0 : List Int) (a0_1 : Int) (A0_2 : Option Addr) (c0_2 : Nat) (l0_2 : List Int) (r1 : List S84) (r2 : Int) (w : World) (hr0_0 : Kd.C (Kd.int .u32) w A0_0 l0_0.length l0_0) (hc0_0 : l0_0.length ≤ c0_0) (hr0_2 : Kd.C (Kd.int .i64) w A0_2 l0_2.length l0_2) (hc0_2 : l0_2.length ≤ c0_2) (h : block_Blocks.f l0_0 a0_1 l0_2 = some (r1, r2)) :
    Calls Try.prog 67 #[.agg #[.slice A0_0 l0_0.length c0_0, .int .i64 a0_1, .slice A0_2 l0_2.length c0_2]] w fun e w' => ∃ v0_ : Value, e = .returned (.tuple #[v0_, .int .i64 r2]) ∧ Kd.R k84 84 w' w.heap.size (fun _ => True) v0_ r1 ∧ Below w.heap.size w w' := by
  have hu1 := Try.underlying69
  have hu2 := Try.underlying84
  unfold block_Blocks.f blocksS at h
  by_cases hw : wordsB l0_0 = true
  · rw [if_pos hw] at h
    have h := Option.some.inj h
    injection h with h1 h2
    have hlen := gatherS_len hit3 l0_0 a0_1 l0_2
    obtain ⟨g, hg⟩ : ∃ g, g = gatherS hit3 l0_0 a0_1 l0_2 := ⟨_, rfl⟩
    rw [← hg] at h1 h2 hlen
    obtain ⟨l, ge⟩ := g
    simp only at h1 h2 hlen
    subst h1 h2
    have HG := Aside0.mk (show gather3.f l0_0 a0_1 l0_2 = (l, ge) from hg.symm)
    have HW := Aside0.mk (wordsB_iff.1 hw)
    have HR0 := Aside0.mk hr0_0
    have HC0 := Aside0.mk hc0_0
    have HR2 := Aside0.mk hr0_2
    have HC2 := Aside0.mk hc0_2
    have HB := Aside0.mk (Below.refl w.heap.size w)
    clear hr0_0 hc0_0 hr0_2 hc0_2 hw hg
    go_enter Try.func67, Try.ntmps67
    have HV : ∀ {W : World} {v : Value}, Aside0 (Kd.R (Kd.int .i64) 3 W w.heap.size (fun _ => True) v l) → ∃ A c, v = .slice A l.length c := fun h => Kd.R_slice h.out
    go_wp2_with (first | ((with_reducible refine gate_dst (N := 1) rfl ?_); refine box_event ?hg (N := 1) ?hd (cs := #[.slice A0_0 l0_0.length c0_0, .int .i64 a0_1, .slice A0_2 l0_2.length c0_2]) (t := 69) ?hr ?_; (case hd => rfl); (case hg => rfl); (case hr => first | (go_simp; done) | (go_simp; rfl)); intro gb hgb w1 BK1 hb1; have HBn := Aside0.mk (below_then HB.out HB.out.size hb1); clear HB; have HB := HBn; clear HBn; have GE := Aside0.mk (show w.heap.size ≤ gb by rw [hgb]; exact Nat.le_refl _); have BK := Aside0.mk (show w1.heap[gb]? = some (imgCell A0_0 l0_0.length c0_0 a0_1 A0_2 l0_2.length c0_2) from BK1); have hci0 := blk_cell BK1 0; have hci1 := blk_cell BK1 1; have hci2 := blk_cell BK1 2; (try have HIMn := Aside0.mk (blk_below HIM.out hb1)); (try clear HIM); (try have HIM := HIMn); (try clear HIMn); clear BK1 hb1 hgb) | (go_at_call 97; refine (gather3.calls A0_0 c0_0 l0_0 a0_1 A0_2 c0_2 l0_2 gb _ _ _ (Kd.C_below HR0.out HB.out) HC0.out (Kd.C_below HR2.out HB.out) HC2.out HW.out BK.out HG.out).mono ?_; rintro e w2 ⟨v0, rfl, ho, hb⟩; have HO := Aside0.mk (Kd.R_lower ho HB.out.size); have HBn := Aside0.mk (below_then HB.out HB.out.size hb); have BKn := Aside0.mk (blk_below BK.out hb); clear HB BK ho hb; have HB := HBn; have BK := BKn; clear HBn BKn; have hci0 := blk_cell BK.out 0; have hci1 := blk_cell BK.out 1; have hci2 := blk_cell BK.out 2; obtain ⟨Ao, co, eo⟩ := HV HO; subst eo))
    go_loopw [6, 18] (fun u6 u18 wr => ∃ j : Nat, u18 = .int .i64 (j : Int) ∧ j ≤ l.length ∧ Aside0 (Kd.R k84 84 wr w.heap.size (fun _ => True) u6 (pairU l (l0_0.length : Int) j)) ∧ Aside0 (Kd.R (Kd.int .i64) 3 wr w.heap.size (fun _ => True) (.slice Ao l.length co) l) ∧ Aside0 (wr.heap[gb]? = some (imgCell A0_0 l0_0.length c0_0 a0_1 A0_2 l0_2.length c0_2)) ∧ Aside0 (Below w.heap.size w wr)) (fun _ u18 _ => l.length - (intOf u18).toNat)
    case atStart => exact ⟨0, rfl, Nat.zero_le _, ⟨Kd.R_nil _ _ _ _ _⟩, HO, BK, HB⟩
    case round =>
      clear HO BK HB hci0 hci1 hci2
      obtain ⟨j, rfl, hjle, HP, HO, BK, HB⟩ := hrel
      have hci0 := blk_cell BK.out 0
      have hci1 := blk_cell BK.out 1
      have hci2 := blk_cell BK.out 2
      by_cases hlt : j < l.length
      · have hltb : decide ((j : Int) < (l.length : Int)) = true := decide_eq_true (by omega)
        have p0 : (0 : Int) ≤ (j : Int) := by omega
        have q0 : (j : Int) < (l.length : Int) := by omega
        have hwr : wrap64 ((j : Int) + 1) = (j : Int) + 1 := wrap64_id (by omega) (by omega)
        have HL := Aside0.mk (show (pairU l (l0_0.length : Int) j).length ≤ 16384 by rw [pairU_len]; omega)
        obtain ⟨ad, eA, hx⟩ := Kd.at_int (Kd.R_reads' HO.out).2.2 (j : Int) p0 q0
        subst eA
        have hxb := hx
        rw [show ((j : Int)).toNat = j by omega] at hxb
        generalize hx1 : rd l (j : Int) = x at hx hxb
        replace p0 := eq_true p0
        replace q0 := eq_true q0
        by_cases hl2 : (j : Int) + 1 < (l.length : Int)
        · have p2 : (0 : Int) ≤ (j : Int) + 1 := by omega
          obtain ⟨ad', eA', hy⟩ := Kd.at_int (Kd.R_reads' HO.out).2.2 ((j : Int) + 1) p2 hl2
          cases eA'
          have hyb := hy
          rw [show ((j : Int) + 1).toNat = j + 1 by omega] at hyb
          have hyc : wr.cell? ⟨ad.block, ad.off + (j + 1), none⟩ = some (.int .i64 (rd l ((j : Int) + 1))) := hyb
          have hstep : pairU l (l0_0.length : Int) (j + 1) = pairU l (l0_0.length : Int) j ++ [⟨x, rd l ((j : Int) + 1)⟩] := by rw [← hx1]; show pairU l _ j ++ [_] = _; rw [if_pos hl2]
          generalize rd l ((j : Int) + 1) = y at hy hyb hyc hstep
          have HST := Aside0.mk hstep
          clear hstep
          have hl2b : decide ((j : Int) + 1 < (l.length : Int)) = true := decide_eq_true hl2
          replace hl2 := eq_true hl2
          replace p2 := eq_true p2
          go_wp2_with ((with_reducible refine gate_builtin (b := .append) (xs := #[.tmp 36, .tmp 40]) rfl ?_); at_builtin; refine Kd.R_append k84 (w0 := w) w.heap.size rfl (.tmp 36) (.tmp 40) 62 84 (.agg #[(.int .i64 0), (.int .i64 0)]) 16 rfl Try.underlying62 info84 rfl (by decide) (by omega) u6 (pairU l (l0_0.length : Int) j) (⟨x, y⟩ : S84) [.int .i64 x, .int .i64 y] (fun _ => True) (fun _ => False) rfl rfl ?aP (fun _ hk => hk.elim) ?aF ?aO ?aB ?aS ?aL ?_; (case aP => exact k84_mkM _ _ _ (⟨x, y⟩ : S84)); (case aB => exact HB.out); (case aF => exact (fun _ _ => trivial)); (case aO => exact HP.out); (case aS => exact HB.out.size); (case aL => have := HL.out; omega); intro v1 w13 ho hb hg hat; have HOn := Aside0.mk (Kd.R_over' HO.out (Kd.R_typed HP.out) (by decide) hg); have BKn := Aside0.mk (blk_grown BK.out hg (Kd.R_ne HP.out BK.out (by decide))); have HPn := Aside0.mk ho; have HBn := Aside0.mk hb; clear HO BK HP HB ho hb hg hat; have HO := HOn; have BK := BKn; have HP := HPn; have HB := HBn; clear HOn BKn HPn HBn)
          go_roundw
          case measure => simp [intOf]; omega
          case rel => exact ⟨j + 1, by first | rfl | (simp; done) | (simp [*]; done), by omega, ⟨by rw [HST.out]; exact HP.out⟩, HO, BK, HB⟩
        · have hstep : pairU l (l0_0.length : Int) (j + 1) = pairU l (l0_0.length : Int) j ++ [⟨x, (l0_0.length : Int)⟩] := by rw [← hx1]; show pairU l _ j ++ [_] = _; rw [if_neg hl2]
          have HST := Aside0.mk hstep
          clear hstep
          have hl2b : decide ((j : Int) + 1 < (l.length : Int)) = false := decide_eq_false hl2
          go_wp2_with ((with_reducible refine gate_builtin (b := .append) (xs := #[.tmp 36, .tmp 40]) rfl ?_); at_builtin; refine Kd.R_append k84 (w0 := w) w.heap.size rfl (.tmp 36) (.tmp 40) 62 84 (.agg #[(.int .i64 0), (.int .i64 0)]) 16 rfl Try.underlying62 info84 rfl (by decide) (by omega) u6 (pairU l (l0_0.length : Int) j) (⟨x, (l0_0.length : Int)⟩ : S84) [.int .i64 x, .int .i64 (l0_0.length : Int)] (fun _ => True) (fun _ => False) rfl rfl ?aP (fun _ hk => hk.elim) ?aF ?aO ?aB ?aS ?aL ?_; (case aP => exact k84_mkM _ _ _ (⟨x, (l0_0.length : Int)⟩ : S84)); (case aB => exact HB.out); (case aF => exact (fun _ _ => trivial)); (case aO => exact HP.out); (case aS => exact HB.out.size); (case aL => have := HL.out; omega); intro v1 w13 ho hb hg hat; have HOn := Aside0.mk (Kd.R_over' HO.out (Kd.R_typed HP.out) (by decide) hg); have BKn := Aside0.mk (blk_grown BK.out hg (Kd.R_ne HP.out BK.out (by decide))); have HPn := Aside0.mk ho; have HBn := Aside0.mk hb; clear HO BK HP HB ho hb hg hat; have HO := HOn; have BK := BKn; have HP := HPn; have HB := HBn; clear HOn BKn HPn HBn)
          go_roundw
          case measure => simp [intOf]; omega
          case rel => exact ⟨j + 1, by first | rfl | (simp; done) | (simp [*]; done), by omega, ⟨by rw [HST.out]; exact HP.out⟩, HO, BK, HB⟩
      · have : j = l.length := by omega
        subst this
        have hltb : decide ((l.length : Int) < (l.length : Int)) = false := by simp
        clear hlt hjle
        go_wp2
        go_ret2
        exact ⟨_, rfl, HP.out, HB.out⟩
  · rw [if_neg hw] at h; cases h

end Go.Proofs.Ytiaohbbafaaibaa.P
