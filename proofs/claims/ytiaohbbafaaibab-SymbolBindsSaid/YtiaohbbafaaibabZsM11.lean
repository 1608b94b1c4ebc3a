/- OWN TEXT and printed parts of this claim, laid together: HSymBd, Opn, Opns, ObjF, SymN, SymB. -/
import Derived.Test.YtiaohbbafaaibabZsM6
import Derived.Test.YtiaohbbafaaibabZsM8
import Derived.Test.YtiaohbbafaaibabZsM9
import Derived.Test.YtiaohbbafaaibabZsM10
import Derived.Test.YtiaohbbafaaibabZsWWords
import Derived.SizedLaws
import Derived.Deep.Slices
import Derived.Deep.Fields
import Derived.ChangeSame
import Derived.OpenShut
import Derived.Test.YtiaohbbafaaibabZsM0
/- OWN TEXT: the law SymbolBinds, walked: what it looks at, and that each look finds what binding means. -/
namespace Go.Proofs.Ytiaohbbafaaibab.P
open Go.RowKit Go.Maps Go.Proofs.YtiaohbbafaaibabW.PrintWords Go.Proofs.YtiaohbbafaaibabW.PrintLast Go.Proofs.YtiaohbbafaaibabW.PrintMore Go.Proofs.Ytiaohbbafaaibab.Arr Go.Proofs.Ytiaohbbafaaibab.MapB Go.Proofs.Ytiaohbbafaaibab.SymM
set_option linter.unusedVariables false
set_option linter.unusedSimpArgs false
attribute [local go_sem high] eqA54
structure Tb (w wd W : World) : Prop where
  a : Below w.heap.size w W
  b : Below wd.heap.size wd W
  le : w.heap.size ≤ wd.heap.size
theorem Tb.below {w wd W W1 : World} (h : Tb w wd W) (hb : Below W.heap.size W W1) : Tb w wd W1 := ⟨below_then h.a h.a.size hb, below_then h.b h.b.size hb, h.le⟩
theorem Tb.put {w wd W W1 : World} {g : Nat} {cs : Array Value} {e : TypeId} (h : Tb w wd W) (hp : Put W W1 g cs e) (hg : wd.heap.size ≤ g) : Tb w wd W1 := ⟨hp.below h.a (by have := h.le; omega), hp.below h.b hg, h.le⟩
theorem below_of_drew {w W1 : World} (h : Below w.drew.heap.size w.drew W1) : Below w.heap.size w W1 := below_then (below_drew (Below.refl _ _)) (Nat.le_refl _) h
theorem below_of_alloc {w W1 : World} {o : Obj} (h : Below (w.alloc o).heap.size (w.alloc o) W1) : Below w.heap.size w W1 := below_then (below_alloc (Below.refl _ _) o) (by show w.heap.size ≤ (w.heap.push o).size; simp) h
theorem alloc_here (w : World) (o : Obj) : (w.alloc o).heap[w.heap.size]? = some o := (MapKept.heap_alloc w o).1
theorem put_two {W : World} {g : Nat} {a b x y : Value} {e : TypeId} (hb : W.heap[g]? = some (.cells #[a, b] e (0, 0))) : Put W ((W.setCell ⟨g, 0, none⟩ x).setCell ⟨g, 1, none⟩ y) g #[x, y] e := by
  have h1 := put_set (j := 0) (x := x) hb
  have h2 := put_set (j := 1) (x := y) h1.blk
  exact ⟨h2.blk, fun k hk => (h2.far k hk).trans (h1.far k hk), h2.size.trans h1.size, fun h hB => h2.below (h1.below h hB) hB⟩
theorem info_obj : (Try.prog.info? 27).map (fun i => (i.zero, i.size, i.bytes)) = some (some (.agg #[(.string ⟨#[]⟩), (.slice none 0 0), (.int .i64 0), (.slice none 0 0), (.slice none 0 0), (.slice none 0 0)]), 6, 120) := by kernel_rfl
theorem lives8 : pleatlaw08_lives.f = some true := by
  cases h : pleatlaw08_lives.f with
  | none => exact absurd h (by have h0 : pleatlaw08_lives.f.isSome = true := (by kernel_rfl); intro e; rw [e] at h0; cases h0)
  | some r => rw [pleatlaw08_lives.sure r h]
set_option maxHeartbeats 60000000 in
set_option maxRecDepth 100000 in
theorem symBinds.walk (A0 : Option Addr) (c0 : Nat) (l0 : List ObjT) (a1 : Int) (w : World) (hr0 : Kd.C k27 w A0 l0.length l0) (hc0 : l0.length ≤ c0) (ha : 0 ≤ a1 ∧ a1 ≤ 255) (kh : Nat) (hv : Bool) (hhv : pleatlaw08_heavy.f kh l0 = some hv)
    (hfine : hv = false → l0.length ≤ 8 → ∃ kc d e n m, pleatref00_CopyObjects.f kc l0 = some l0 ∧ symbol_Resolve.f l0 = some (d, e, n, m) ∧ ((e ≠ 0 ∧ d = []) ∨ (e = 0 ∧ Bound l0 d))) :
    Calls Try.prog 5 #[.slice A0 l0.length c0, .int .u8 a1] w fun e w' => e = .returned (.bool true) ∧ Below w.heap.size w w' := by
  have hu1 := Try.underlying27
  have hu2 := Try.underlying37
  have hu3 := Try.underlying54
  have hu4 := Try.underlying61
  have HR := Aside0.mk hr0
  have HC := Aside0.mk hc0
  have HV := Aside0.mk hhv
  clear hr0 hc0 hhv
  cases hv with
  | true =>
    clear hfine
    go_enter Try.func5, Try.ntmps5
    go_wp2_with (first | (go_at_call 13; refine (pleatlaw08_heavy.calls kh A0 c0 l0 true _ HR.out HC.out HV.out).mono ?_; rintro e_ w1 ⟨rfl, hd1⟩; have HB := Aside0.mk hd1.below; clear hd1) | (go_at_call 14; refine (pleatlaw08_lives.calls true _ lives8).mono ?_; rintro e_ wl ⟨rfl, hbl⟩; have HBL := Aside0.mk hbl; clear hbl))
    go_ret
    exact ⟨rfl, below_then HB.out HB.out.size HBL.out⟩
  | false =>
    by_cases c8 : l0.length ≤ 8
    rotate_left
    · have cb : decide ((l0.length : Int) > 8) = true := decide_eq_true (by omega)
      clear hfine c8
      go_enter Try.func5, Try.ntmps5
      go_wp2_with (first | (go_at_call 13; refine (pleatlaw08_heavy.calls kh A0 c0 l0 false _ HR.out HC.out HV.out).mono ?_; rintro e_ w1 ⟨rfl, hd1⟩; have HB := Aside0.mk hd1.below; clear hd1) | (go_at_call 14; refine (pleatlaw08_lives.calls true _ lives8).mono ?_; rintro e_ wl ⟨rfl, hbl⟩; have HBL := Aside0.mk hbl; clear hbl))
      go_ret
      exact ⟨rfl, below_then HB.out HB.out.size HBL.out⟩
    have cb : decide ((l0.length : Int) > 8) = false := decide_eq_false (by omega)
    have H8 := Aside0.mk c8
    obtain ⟨kc, d, e, n, m, hcp, hres, hways⟩ := hfine rfl c8
    have HCP := Aside0.mk hcp
    have HRS := Aside0.mk hres
    clear hcp hres hfine c8
    rcases hways with ⟨he, hd⟩ | ⟨he, hbd⟩
    · have hne : (e != 0) = true := bne_iff_ne.mpr he
      subst hd
      clear he
      go_enter Try.func5, Try.ntmps5
      go_wp2_with (first | (go_at_call 13; refine (pleatlaw08_heavy.calls kh A0 c0 l0 false _ HR.out HC.out HV.out).mono ?_; rintro e_ w1 ⟨rfl, hd1⟩; have HB := Aside0.mk hd1.below; clear hd1) | (go_at_call 23; refine (pleatref00_CopyObjects.calls kc _ _ l0 l0 _ (Kd.C_below HR.out HB.out) HC.out HCP.out).mono ?_; rintro e_ w2 ⟨vc, rfl, ho, hb⟩; have HO := Aside0.mk ho; have HBn := Aside0.mk (below_then HB.out HB.out.size hb); clear HB hb ho; have HB := HBn; clear HBn; obtain ⟨A2, c2, e2⟩ := Kd.S_slice HO.out; subst e2) | (go_at_call 16; refine (symbol_Resolve.calls _ _ l0 [] e n m _ (Kd.S_reads' HO.out).2.2 (Kd.S_reads' HO.out).2.1 HRS.out).mono ?_; rintro e_ wd ⟨vd, rfl, hod, hb⟩; obtain ⟨A3, c3, e3, hle3, hCd⟩ := Kd.S_reads hod; subst e3; have HD := Aside0.mk hCd; have T := Aside0.mk (show Tb w wd wd from ⟨below_then HB.out HB.out.size hb, Below.refl _ _, (below_then HB.out HB.out.size hb).size⟩); have WD := Aside0.mk (below_then HB.out HB.out.size hb); clear HO HB hod hb hCd hle3) | (go_at_call 14; refine (pleatlaw08_lives.calls true _ lives8).mono ?_; rintro e_ wl ⟨rfl, hbl⟩; have HBL := Aside0.mk hbl; clear hbl))
      go_ret
      exact ⟨rfl, (T.out.below HBL.out).a⟩
    subst he
    have BD := Aside0.mk hbd
    have HDL := Aside0.mk hbd.len
    clear hbd
    go_enter Try.func5, Try.ntmps5
    go_wp2_with (first | (go_at_call 13; refine (pleatlaw08_heavy.calls kh A0 c0 l0 false _ HR.out HC.out HV.out).mono ?_; rintro e_ w1 ⟨rfl, hd1⟩; have HB := Aside0.mk hd1.below; clear hd1) | (go_at_call 23; refine (pleatref00_CopyObjects.calls kc _ _ l0 l0 _ (Kd.C_below HR.out HB.out) HC.out HCP.out).mono ?_; rintro e_ w2 ⟨vc, rfl, ho, hb⟩; have HO := Aside0.mk ho; have HBn := Aside0.mk (below_then HB.out HB.out.size hb); clear HB hb ho; have HB := HBn; clear HBn; obtain ⟨A2, c2, e2⟩ := Kd.S_slice HO.out; subst e2) | (go_at_call 16; refine (symbol_Resolve.calls _ _ l0 d 0 n m _ (Kd.S_reads' HO.out).2.2 (Kd.S_reads' HO.out).2.1 HRS.out).mono ?_; rintro e_ wd ⟨vd, rfl, hod, hb⟩; obtain ⟨A3, c3, e3, hle3, hCd⟩ := Kd.S_reads hod; subst e3; have HD := Aside0.mk hCd; have T := Aside0.mk (show Tb w wd wd from ⟨below_then HB.out HB.out.size hb, Below.refl _ _, (below_then HB.out HB.out.size hb).size⟩); have WD := Aside0.mk (below_then HB.out HB.out.size hb); clear HO HB hod hb hCd hle3; rw [HDL.out]))
    go_loopw [9] (fun u9 wr => ∃ i : Nat, u9 = .int .i64 (i : Int) ∧ i ≤ l0.length ∧ Aside0 (Tb w wd wr)) (fun u9 _ => l0.length - (intOf u9).toNat)
    case atStart => exact ⟨0, rfl, Nat.zero_le _, T⟩
    case round =>
      clear T
      obtain ⟨i, rfl, hile, T⟩ := hrel
      by_cases hlt : i < l0.length
      · have p0 : (0 : Int) ≤ (i : Int) := by omega
        have q0 : (i : Int) < (l0.length : Int) := by omega
        obtain ⟨ad, A1, c1, A3, c3, A4, c4, A5, c5, eA, hxn, hxc, _, _, hxs, _, hL1, hC1, _, _, hL4, hC4, _, _⟩ := at_T27 HR.out (i : Int) p0 q0
        subst eA
        rw [show ((i : Int)).toNat = i by omega] at hxn hxc hxs
        rw [show rd_T27 l0 (i : Int) = ob l0 i from rfl] at hxn hxc hxs hC1 hC4 hL1 hL4
        obtain ⟨ed, B3, d3, eD, hzd, hLd, hCd⟩ := at_L15 HD.out (i : Int) p0 (by rw [HDL.out]; omega)
        rw [show ((i : Int)).toNat = i by omega] at hzd
        subst eD
        have hrow := BD.out.row i hlt
        rw [hrow] at hzd
        have hsl := BD.out.syms i hlt
        have HXS := Aside0.mk hxs
        have HZD := Aside0.mk hzd
        have HC4 := Aside0.mk hC4
        have HCD := Aside0.mk hCd
        have HROW := Aside0.mk hrow
        have HSL := Aside0.mk hsl
        clear hxn hxc hL1 hC1 hxs hzd hL4 hC4 hCd hLd hrow hsl
        have HLT := Aside0.mk hlt
        have hltb : decide ((i : Int) < (l0.length : Int)) = true := decide_eq_true (by omega)
        have HWR := Aside0.mk (show wrap64 ((i : Int) + 1) = ((i + 1 : Nat) : Int) by rw [wrap64_id (by have := H8.out; omega) (by have := H8.out; omega)]; rfl)
        have p0t := eq_true p0
        have q0t := eq_true q0
        have qdt : ((i : Int) < (d.length : Int)) = True := eq_true (by rw [HDL.out]; omega)
        obtain ⟨n4, hn4⟩ : ∃ n4, n4 = (ob l0 i).f4.length := ⟨_, rfl⟩
        have HN4 := Aside0.mk hn4
        have hxs := HXS.out
        have hzd := HZD.out
        rw [← hn4] at hxs hzd
        clear HXS HZD hn4 p0 q0
        have HXS := Aside0.mk hxs
        have HZD := Aside0.mk hzd
        clear hxs hzd
        have hxs := pw_cell_below T.out.a HXS.out; have hzd := pw_cell_below T.out.b HZD.out; skip
        go_wp2
        repeat (go_quiet (fail); try go_wp2)
        go_loopw [10] (fun u10 wr => ∃ k : Nat, u10 = .int .i64 (k : Int) ∧ k ≤ n4 ∧ Aside0 (Tb w wd wr)) (fun u10 _ => n4 - (intOf u10).toNat)
        case atStart => exact ⟨0, rfl, Nat.zero_le _, ⟨T.out.below (by first | exact Below.refl _ _ | exact pw_below_drewN (Below.refl _ _) _ | exact below_drew (Below.refl _ _))⟩⟩
        case round =>
          clear T hxs hzd
          obtain ⟨k, rfl, hkle, T⟩ := hrel
          have hxs := pw_cell_below T.out.a HXS.out; have hzd := pw_cell_below T.out.b HZD.out; skip
          by_cases hlt2 : k < n4
          · as_aux_lemma =>
              have p1 : (0 : Int) ≤ (k : Int) := by omega
              have q1 : (k : Int) < (n4 : Int) := by omega
              have hk4 : k < (ob l0 i).f4.length := by rw [← HN4.out]; exact hlt2
              obtain ⟨as_, eS, hs0, hs1, hs2⟩ := at_T37 HC4.out (k : Int) p1 (by omega)
              subst eS
              rw [show ((k : Int)).toNat = k by omega] at hs0 hs1 hs2
              rw [show rd_T37 (ob l0 i).f4 (k : Int) = sy (ob l0 i).f4 k from rfl] at hs0 hs1 hs2
              obtain ⟨ae_, eE, he0, he1⟩ := at_T54 HCD.out (k : Int) p1 (by rw [HROW.out]; omega)
              subst eE
              rw [show ((k : Int)).toNat = k by omega] at he0 he1
              rw [show rd_T54 (rd_L15 d (i : Int)) (k : Int) = dx d i k from rfl] at he0 he1
              obtain ⟨ob_, a, hx, hob, ha0, ha1, hown, hfnd, hfsome⟩ := (BD.out.each i k HLT.out hk4).ok
              rw [hx] at he0 he1
              simp only at he0 he1
              obtain ⟨ado, A1o, c1o, A3o, c3o, A4o, c4o, A5o, c5o, eAo, hxno, hxco, _, _, hxso, _, hL1o, hC1o, _, _, hL4o, hC4o, _, _⟩ := at_T27 HR.out (ob_ : Int) (by omega) (by omega)
              obtain rfl : ad = ado := (by injection eAo)
              rw [show ((ob_ : Int)).toNat = ob_ by omega] at hxno hxco hxso
              rw [show rd_T27 l0 (ob_ : Int) = ob l0 ob_ from rfl] at hxno hxco hxso hC1o hC4o hL1o hL4o
              clear hxno hxso hL1o hC1o hL4o hC4o hx
              obtain ⟨sv, hsv⟩ : ∃ sv, sy (ob l0 i).f4 k = sv := ⟨_, rfl⟩
              rw [hsv] at hs0 hs1 hs2 hown hfnd hfsome
              clear hsv
              obtain ⟨sn, sk, sa⟩ := sv
              simp only at hs0 hs1 hs2 hown hfnd hfsome
              obtain ⟨co, hco⟩ : ∃ co, (ob l0 ob_).f1.length = co := ⟨_, rfl⟩
              rw [hco] at ha1 hxco
              clear hco
              obtain ⟨⟨f0, f1, f2⟩, hff⟩ := hfsome
              have HFF := Aside0.mk hff
              have hfn : sk ≠ 0 → f0 = (ob_ : Int) ∧ f1 = a ∧ f2 = true := fun h => by
                have h1 := hfnd h
                rw [hff] at h1
                simp only [Option.some.injEq, Prod.mk.injEq] at h1
                exact h1
              clear hff hfnd
              have HOWN := Aside0.mk hown
              have HFN := Aside0.mk hfn
              clear hown hfn
              have hltb2 : decide ((k : Int) < (n4 : Int)) = true := decide_eq_true (by omega)
              have HWR2 := Aside0.mk (show wrap64 ((k : Int) + 1) = ((k + 1 : Nat) : Int) by rw [wrap64_id (by have := HSL.out; have := HN4.out; omega) (by have := HSL.out; have := HN4.out; omega)]; rfl)
              have HL2 := Aside0.mk hlt2
              have p1t := eq_true p1
              have q1t := eq_true q1
              have q2t : ((k : Int) < ((ob l0 i).f4.length : Int)) = True := eq_true (by omega)
              have hg1 : decide ((ob_ : Int) < 0) = false := decide_eq_false (by omega)
              have hg2 : decide ((ob_ : Int) ≥ (l0.length : Int)) = false := decide_eq_false (by omega)
              have hg2n : decide (l0.length ≤ ob_) = false := decide_eq_false (by omega)
              have hg3 : decide (a < 0) = false := decide_eq_false (by omega)
              have hg4 : decide (a > (co : Int)) = false := decide_eq_false (by omega)
              have p2t : ((0 : Int) ≤ (ob_ : Int)) = True := eq_true (by omega)
              have q3t : ((ob_ : Int) < (l0.length : Int)) = True := eq_true (by omega)
              have HS0 := Aside0.mk hs0
              have HS1 := Aside0.mk hs1
              have HS2 := Aside0.mk hs2
              have HE0 := Aside0.mk he0
              have HE1 := Aside0.mk he1
              have HXC := Aside0.mk hxco
              clear hs0 hs1 hs2 he0 he1 hxco p1 q1 hlt2 hkle hob ha0 ha1 hk4 hxs hzd
              have hxs := pw_cell_below T.out.a HXS.out; have hzd := pw_cell_below T.out.b HZD.out; have hs0 := pw_cell_below T.out.a HS0.out; have hs1 := pw_cell_below T.out.a HS1.out; have hs2 := pw_cell_below T.out.a HS2.out; have he0 := pw_cell_below T.out.b HE0.out; have he1 := pw_cell_below T.out.b HE1.out; have hxco := pw_cell_below T.out.a HXC.out; skip
              go_wp2_with (first | ((with_reducible refine gate_dst (N := 11) rfl ?_); refine box_event ?hg (N := 11) ?hd (cs := #[.string (⟨#[]⟩ : ByteArray), .int .i8 0, .int .i64 0]) (t := 37) ?hr ?_; (case hd => rfl); (case hg => rfl); (case hr => first | (go_simp; done) | (go_simp; rfl)); intro gs hg_ w11 BK_ hb_; have BS0 := Aside0.mk BK_; have GS := Aside0.mk (show wd.heap.size ≤ gs by rw [hg_]; exact T.out.b.size); have NS := Aside0.mk (show True by (try rw [hg_]); exact trivial); clear BK_ hg_; (try clear hxs hzd hs0 hs1 hs2 he0 he1 hxco); have Tn := Aside0.mk (T.out.below hb_); clear T hb_; have T := Tn; clear Tn; have BS := BS0; clear BS0; have hxs := pw_cell_below T.out.a HXS.out; have hzd := pw_cell_below T.out.b HZD.out; have hs0 := pw_cell_below T.out.a HS0.out; have hs1 := pw_cell_below T.out.a HS1.out; have hs2 := pw_cell_below T.out.a HS2.out; have he0 := pw_cell_below T.out.b HE0.out; have he1 := pw_cell_below T.out.b HE1.out; have hxco := pw_cell_below T.out.a HXC.out; have ks0 := blk_cell BS.out 0; have ks1 := blk_cell BS.out 1; have ks2 := blk_cell BS.out 2; skip) | ((with_reducible refine gate_store (t := 37) rfl ?_); refine wpList_store_whole rfl rfl rfl gs _ #[.string sn, .int .i8 sk, .int .i64 sa] _ rfl rfl BS.out (by kernel_rfl) rfl (sym_one _ _ _) ?_; intro w12 hp_; (try clear hxs hzd hs0 hs1 hs2 he0 he1 hxco ks0 ks1 ks2); have Tn := Aside0.mk (T.out.put hp_ GS.out); have BSn := Aside0.mk hp_.blk; clear T BS hp_; have T := Tn; have BS := BSn; clear Tn BSn; have hxs := pw_cell_below T.out.a HXS.out; have hzd := pw_cell_below T.out.b HZD.out; have hs0 := pw_cell_below T.out.a HS0.out; have hs1 := pw_cell_below T.out.a HS1.out; have hs2 := pw_cell_below T.out.a HS2.out; have he0 := pw_cell_below T.out.b HE0.out; have he1 := pw_cell_below T.out.b HE1.out; have hxco := pw_cell_below T.out.a HXC.out; have ks0 := blk_cell BS.out 0; have ks1 := blk_cell BS.out 1; have ks2 := blk_cell BS.out 2; skip) | ((with_reducible refine gate_dst (N := 12) rfl ?_); refine box_event ?hg (N := 12) ?hd (cs := #[.int .i64 0, .int .i64 0]) (t := 54) ?hr ?_; (case hd => rfl); (case hg => rfl); (case hr => first | (go_simp; done) | (go_simp; rfl)); intro gx hg_ w13 BK_ hb_; have BX0 := Aside0.mk BK_; have GX := Aside0.mk (show wd.heap.size ≤ gx by rw [hg_]; exact T.out.b.size); have NX := Aside0.mk (show gs < gx by (try rw [hg_]); exact blk_lt BS.out); clear BK_ hg_; (try clear hxs hzd hs0 hs1 hs2 he0 he1 hxco ks0 ks1 ks2); have Tn := Aside0.mk (T.out.below hb_); have BSn := Aside0.mk (blk_below BS.out hb_); clear T BS hb_; have T := Tn; have BS := BSn; clear Tn BSn; have BX := BX0; clear BX0; have hxs := pw_cell_below T.out.a HXS.out; have hzd := pw_cell_below T.out.b HZD.out; have hs0 := pw_cell_below T.out.a HS0.out; have hs1 := pw_cell_below T.out.a HS1.out; have hs2 := pw_cell_below T.out.a HS2.out; have he0 := pw_cell_below T.out.b HE0.out; have he1 := pw_cell_below T.out.b HE1.out; have hxco := pw_cell_below T.out.a HXC.out; have ks0 := blk_cell BS.out 0; have ks1 := blk_cell BS.out 1; have ks2 := blk_cell BS.out 2; have kx0 := blk_cell BX.out 0; have kx1 := blk_cell BX.out 1; skip) | ((with_reducible refine gate_store (t := 54) rfl ?_); refine wpList_store_whole rfl rfl rfl gx _ #[.int .i64 (ob_ : Int), .int .i64 a] _ rfl rfl BX.out (by kernel_rfl) rfl (def_one _ _) ?_; intro w14 hp_; (try clear hxs hzd hs0 hs1 hs2 he0 he1 hxco ks0 ks1 ks2 kx0 kx1); have Tn := Aside0.mk (T.out.put hp_ GX.out); have BSn := Aside0.mk (blk_grown BS.out (put_grownN hp_) (fun e => by have := NX.out; have := Option.some.inj e; omega)); have BXn := Aside0.mk hp_.blk; clear T BS BX hp_; have T := Tn; have BS := BSn; have BX := BXn; clear Tn BSn BXn; have hxs := pw_cell_below T.out.a HXS.out; have hzd := pw_cell_below T.out.b HZD.out; have hs0 := pw_cell_below T.out.a HS0.out; have hs1 := pw_cell_below T.out.a HS1.out; have hs2 := pw_cell_below T.out.a HS2.out; have he0 := pw_cell_below T.out.b HE0.out; have he1 := pw_cell_below T.out.b HE1.out; have hxco := pw_cell_below T.out.a HXC.out; have ks0 := blk_cell BS.out 0; have ks1 := blk_cell BS.out 1; have ks2 := blk_cell BS.out 2; have kx0 := blk_cell BX.out 0; have kx1 := blk_cell BX.out 1; skip))
              go_quiet (fail)
              have hb_ : Below w14.heap.size w14 (w14.drewN nq) := pw_below_drewN (Below.refl _ _) _
              (try clear hxs hzd hs0 hs1 hs2 he0 he1 hxco ks0 ks1 ks2 kx0 kx1)
              have Tn := Aside0.mk (T.out.below hb_)
              have BSn := Aside0.mk (blk_below BS.out hb_)
              have BXn := Aside0.mk (blk_below BX.out hb_)
              clear T BS BX hb_
              have T := Tn
              have BS := BSn
              have BX := BXn
              clear Tn BSn BXn
              have hxs := pw_cell_below T.out.a HXS.out
              have hzd := pw_cell_below T.out.b HZD.out
              have hs0 := pw_cell_below T.out.a HS0.out
              have hs1 := pw_cell_below T.out.a HS1.out
              have hs2 := pw_cell_below T.out.a HS2.out
              have he0 := pw_cell_below T.out.b HE0.out
              have he1 := pw_cell_below T.out.b HE1.out
              have hxco := pw_cell_below T.out.a HXC.out
              have ks0 := blk_cell BS.out 0
              have ks1 := blk_cell BS.out 1
              have ks2 := blk_cell BS.out 2
              have kx0 := blk_cell BX.out 0
              have kx1 := blk_cell BX.out 1
              skip
              go_wp2_with (first | ((with_reducible refine gate_dst (N := 13) rfl ?_); refine box_event ?hg (N := 13) ?hd (cs := #[.int .i64 0, .int .i64 0]) (t := 54) ?hr ?_; (case hd => rfl); (case hg => rfl); (case hr => first | (go_simp; done) | (go_simp; rfl)); intro go hg_ w15 BK_ hb_; have BO0 := Aside0.mk BK_; have GO := Aside0.mk (show wd.heap.size ≤ go by rw [hg_]; exact T.out.b.size); have NO := Aside0.mk (show gs < go ∧ gx < go by (try rw [hg_]); exact ⟨blk_lt BS.out, blk_lt BX.out⟩); clear BK_ hg_; (try clear hxs hzd hs0 hs1 hs2 he0 he1 hxco ks0 ks1 ks2 kx0 kx1); have Tn := Aside0.mk (T.out.below hb_); have BSn := Aside0.mk (blk_below BS.out hb_); have BXn := Aside0.mk (blk_below BX.out hb_); clear T BS BX hb_; have T := Tn; have BS := BSn; have BX := BXn; clear Tn BSn BXn; have BO := BO0; clear BO0; have hxs := pw_cell_below T.out.a HXS.out; have hzd := pw_cell_below T.out.b HZD.out; have hs0 := pw_cell_below T.out.a HS0.out; have hs1 := pw_cell_below T.out.a HS1.out; have hs2 := pw_cell_below T.out.a HS2.out; have he0 := pw_cell_below T.out.b HE0.out; have he1 := pw_cell_below T.out.b HE1.out; have hxco := pw_cell_below T.out.a HXC.out; have ks0 := blk_cell BS.out 0; have ks1 := blk_cell BS.out 1; have ks2 := blk_cell BS.out 2; have kx0 := blk_cell BX.out 0; have kx1 := blk_cell BX.out 1; have ko0 := blk_cell BO.out 0; have ko1 := blk_cell BO.out 1; skip) | ((with_reducible refine gate_store (t := 54) rfl ?_); refine wpList_store_whole rfl rfl rfl go _ #[.int .i64 (i : Int), .int .i64 sa] _ rfl rfl BO.out (by kernel_rfl) rfl (def_one _ _) ?_; intro w16 hp_; (try clear hxs hzd hs0 hs1 hs2 he0 he1 hxco ks0 ks1 ks2 kx0 kx1 ko0 ko1); have Tn := Aside0.mk (T.out.put hp_ GO.out); have BSn := Aside0.mk (blk_grown BS.out (put_grownN hp_) (fun e => by have := NO.out; have := Option.some.inj e; omega)); have BXn := Aside0.mk (blk_grown BX.out (put_grownN hp_) (fun e => by have := NO.out; have := Option.some.inj e; omega)); have BOn := Aside0.mk hp_.blk; clear T BS BX BO hp_; have T := Tn; have BS := BSn; have BX := BXn; have BO := BOn; clear Tn BSn BXn BOn; have hxs := pw_cell_below T.out.a HXS.out; have hzd := pw_cell_below T.out.b HZD.out; have hs0 := pw_cell_below T.out.a HS0.out; have hs1 := pw_cell_below T.out.a HS1.out; have hs2 := pw_cell_below T.out.a HS2.out; have he0 := pw_cell_below T.out.b HE0.out; have he1 := pw_cell_below T.out.b HE1.out; have hxco := pw_cell_below T.out.a HXC.out; have ks0 := blk_cell BS.out 0; have ks1 := blk_cell BS.out 1; have ks2 := blk_cell BS.out 2; have kx0 := blk_cell BX.out 0; have kx1 := blk_cell BX.out 1; have ko0 := blk_cell BO.out 0; have ko1 := blk_cell BO.out 1; skip))
              have N16 := Aside0.mk (show gs < w16.heap.size ∧ gx < w16.heap.size ∧ go < w16.heap.size from ⟨blk_lt BS.out, blk_lt BX.out, blk_lt BO.out⟩)
              have G16 := Aside0.mk T.out.b.size
              have kd0 : w16.drew.cell? ⟨gs, 0, none⟩ = some (.string sn) := blk_cell BS.out 0
              have kd1 : (w16.alloc (.cells #[.int .i64 0, .int .i64 0] 54 (0, 0))).drew.cell? ⟨gs, 0, none⟩ = some (.string sn) := (World.cell?_alloc_lt _ _ _ (World.block_lt_of_cell? _ _ kd0)).trans kd0
              go_region_with (first | (go_at_call 23; refine (pleatref00_CopyObjects.calls kc _ _ l0 l0 _ (by first | exact Kd.C_below HR.out T.out.a | exact Kd.C_below HR.out (below_drew T.out.a) | exact Kd.C_below HR.out (below_drew (below_alloc T.out.a _))) HC.out HCP.out).mono ?_; rintro e_ w17 ⟨vc, rfl, ho, hb_⟩; (try (have BFb := Aside0.mk (blk_below BFa.out hb_); clear BFa; have BFa := BFb; clear BFb)); (try (with_reducible replace hb_ := below_of_drew hb_)); (try ((with_reducible have hal_ : Below (World.heap (World.alloc _ _)).size (World.alloc _ _) _ := hb_); have BFa := Aside0.mk (blk_below (alloc_here _ _) hal_); clear hb_; have hb_ := below_of_alloc hal_; clear hal_)); have HOC := Aside0.mk ho; have SZ := Aside0.mk (show w16.heap.size ≤ w17.heap.size from hb_.size); clear ho; (try clear hxs hzd hs0 hs1 hs2 he0 he1 hxco ks0 ks1 ks2 kx0 kx1 ko0 ko1); have Tn := Aside0.mk (T.out.below hb_); have BSn := Aside0.mk (blk_below BS.out hb_); have BXn := Aside0.mk (blk_below BX.out hb_); have BOn := Aside0.mk (blk_below BO.out hb_); clear T BS BX BO hb_; have T := Tn; have BS := BSn; have BX := BXn; have BO := BOn; clear Tn BSn BXn BOn; have hxs := pw_cell_below T.out.a HXS.out; have hzd := pw_cell_below T.out.b HZD.out; have hs0 := pw_cell_below T.out.a HS0.out; have hs1 := pw_cell_below T.out.a HS1.out; have hs2 := pw_cell_below T.out.a HS2.out; have he0 := pw_cell_below T.out.b HE0.out; have he1 := pw_cell_below T.out.b HE1.out; have hxco := pw_cell_below T.out.a HXC.out; have ks0 := blk_cell BS.out 0; have ks1 := blk_cell BS.out 1; have ks2 := blk_cell BS.out 2; have kx0 := blk_cell BX.out 0; have kx1 := blk_cell BX.out 1; have ko0 := blk_cell BO.out 0; have ko1 := blk_cell BO.out 1; skip; obtain ⟨A7, c7, e7⟩ := Kd.S_slice HOC.out; subst e7; have kd2 : (w17.alloc (.cells #[.int .i64 0, .int .i64 0] 54 (0, 0))).cell? ⟨gs, 0, none⟩ = some (.string sn) := (World.cell?_alloc_lt _ _ _ (World.block_lt_of_cell? _ _ (blk_cell BS.out 0))).trans (blk_cell BS.out 0)) | (go_at_call 18; refine (symbol_Find.calls _ _ l0 sn f0 f1 f2 _ (by first | exact (Kd.S_reads' HOC.out).2.2 | exact Kd.C_below (Kd.S_reads' HOC.out).2.2 (below_alloc (Below.refl _ _) _)) (Kd.S_reads' HOC.out).2.1 HFF.out).mono ?_; rintro e_ w18 ⟨rfl, hb_⟩; (try (have BFb := Aside0.mk (blk_below BFa.out hb_); clear BFa; have BFa := BFb; clear BFb)); (try (with_reducible replace hb_ := below_of_drew hb_)); (try ((with_reducible have hal_ : Below (World.heap (World.alloc _ _)).size (World.alloc _ _) _ := hb_); have BFa := Aside0.mk (blk_below (alloc_here _ _) hal_); clear hb_; have hb_ := below_of_alloc hal_; clear hal_)); clear HOC; (try clear hxs hzd hs0 hs1 hs2 he0 he1 hxco ks0 ks1 ks2 kx0 kx1 ko0 ko1); have Tn := Aside0.mk (T.out.below hb_); have BSn := Aside0.mk (blk_below BS.out hb_); have BXn := Aside0.mk (blk_below BX.out hb_); have BOn := Aside0.mk (blk_below BO.out hb_); clear T BS BX BO hb_; have T := Tn; have BS := BSn; have BX := BXn; have BO := BOn; clear Tn BSn BXn BOn; have hxs := pw_cell_below T.out.a HXS.out; have hzd := pw_cell_below T.out.b HZD.out; have hs0 := pw_cell_below T.out.a HS0.out; have hs1 := pw_cell_below T.out.a HS1.out; have hs2 := pw_cell_below T.out.a HS2.out; have he0 := pw_cell_below T.out.b HE0.out; have he1 := pw_cell_below T.out.b HE1.out; have hxco := pw_cell_below T.out.a HXC.out; have ks0 := blk_cell BS.out 0; have ks1 := blk_cell BS.out 1; have ks2 := blk_cell BS.out 2; have kx0 := blk_cell BX.out 0; have kx1 := blk_cell BX.out 1; have ko0 := blk_cell BO.out 0; have ko1 := blk_cell BO.out 1; skip; (try (have kf0 := blk_cell BFa.out 0; have kf1 := blk_cell BFa.out 1; have kz0 := blk_frozen BFa.out 0; have kz1 := blk_frozen BFa.out 1))) | ((with_reducible refine gate_dst (N := 14) rfl ?_); refine box_event ?hg (N := 14) ?hd (cs := #[.int .i64 0, .int .i64 0]) (t := 54) ?hr ?_; (case hd => rfl); (case hg => rfl); (case hr => first | (go_simp; done) | (go_simp; rfl)); intro gf hg_ w19 BK_ hb_; (try (have BFb := Aside0.mk (blk_below BFa.out hb_); clear BFa; have BFa := BFb; clear BFb)); (try (with_reducible replace hb_ := below_of_drew hb_)); (try ((with_reducible have hal_ : Below (World.heap (World.alloc _ _)).size (World.alloc _ _) _ := hb_); have BFa := Aside0.mk (blk_below (alloc_here _ _) hal_); clear hb_; have hb_ := below_of_alloc hal_; clear hal_)); (try (have HOCn := Aside0.mk (Kd.S_below HOC.out hb_); clear HOC; have HOC := HOCn; clear HOCn)); have BF0 := Aside0.mk BK_; have GF := Aside0.mk (show wd.heap.size ≤ gf by rw [hg_]; exact T.out.b.size); have NF := Aside0.mk (show gs < gf ∧ gx < gf ∧ go < gf by (try rw [hg_]); exact ⟨blk_lt BS.out, blk_lt BX.out, blk_lt BO.out⟩); clear BK_ hg_; (try clear hxs hzd hs0 hs1 hs2 he0 he1 hxco ks0 ks1 ks2 kx0 kx1 ko0 ko1); have Tn := Aside0.mk (T.out.below hb_); have BSn := Aside0.mk (blk_below BS.out hb_); have BXn := Aside0.mk (blk_below BX.out hb_); have BOn := Aside0.mk (blk_below BO.out hb_); clear T BS BX BO hb_; have T := Tn; have BS := BSn; have BX := BXn; have BO := BOn; clear Tn BSn BXn BOn; have BF := BF0; clear BF0; have hxs := pw_cell_below T.out.a HXS.out; have hzd := pw_cell_below T.out.b HZD.out; have hs0 := pw_cell_below T.out.a HS0.out; have hs1 := pw_cell_below T.out.a HS1.out; have hs2 := pw_cell_below T.out.a HS2.out; have he0 := pw_cell_below T.out.b HE0.out; have he1 := pw_cell_below T.out.b HE1.out; have hxco := pw_cell_below T.out.a HXC.out; have ks0 := blk_cell BS.out 0; have ks1 := blk_cell BS.out 1; have ks2 := blk_cell BS.out 2; have kx0 := blk_cell BX.out 0; have kx1 := blk_cell BX.out 1; have ko0 := blk_cell BO.out 0; have ko1 := blk_cell BO.out 1; have kf0 := blk_cell BF.out 0; have kf1 := blk_cell BF.out 1; skip) | ((with_reducible refine gate_store (t := 54) rfl ?_); refine wpList_store_whole rfl rfl rfl gf _ #[.int .i64 f0, .int .i64 f1] _ rfl rfl BF.out (by kernel_rfl) rfl (def_one _ _) ?_; intro w20 hp_; (try clear hxs hzd hs0 hs1 hs2 he0 he1 hxco ks0 ks1 ks2 kx0 kx1 ko0 ko1 kf0 kf1); have Tn := Aside0.mk (T.out.put hp_ GF.out); have BSn := Aside0.mk (blk_grown BS.out (put_grownN hp_) (fun e => by have := NF.out; have := Option.some.inj e; omega)); have BXn := Aside0.mk (blk_grown BX.out (put_grownN hp_) (fun e => by have := NF.out; have := Option.some.inj e; omega)); have BOn := Aside0.mk (blk_grown BO.out (put_grownN hp_) (fun e => by have := NF.out; have := Option.some.inj e; omega)); have BFn := Aside0.mk hp_.blk; clear T BS BX BO BF hp_; have T := Tn; have BS := BSn; have BX := BXn; have BO := BOn; have BF := BFn; clear Tn BSn BXn BOn BFn; have hxs := pw_cell_below T.out.a HXS.out; have hzd := pw_cell_below T.out.b HZD.out; have hs0 := pw_cell_below T.out.a HS0.out; have hs1 := pw_cell_below T.out.a HS1.out; have hs2 := pw_cell_below T.out.a HS2.out; have he0 := pw_cell_below T.out.b HE0.out; have he1 := pw_cell_below T.out.b HE1.out; have hxco := pw_cell_below T.out.a HXC.out; have ks0 := blk_cell BS.out 0; have ks1 := blk_cell BS.out 1; have ks2 := blk_cell BS.out 2; have kx0 := blk_cell BX.out 0; have kx1 := blk_cell BX.out 1; have ko0 := blk_cell BO.out 0; have ko1 := blk_cell BO.out 1; have kf0 := blk_cell BF.out 0; have kf1 := blk_cell BF.out 1; skip))
              all_goals
                go_simp
                ((try clear kf0 kf1 kz0 kz1); (try clear kd0 kd1); (try clear kd2); (try clear hxs hzd hs0 hs1 hs2 he0 he1 hxco ks0 ks1 ks2 kx0 kx1 ko0 ko1))
                first | (have hp_ := put_two (x := .int .i64 f0) (y := .int .i64 f1) BFa.out; have Tn := Aside0.mk (T.out.put hp_ (by have := G16.out; have := SZ.out; omega)); have BSn := Aside0.mk (blk_grown BS.out (put_grownN hp_) (fun e => by have := N16.out; have := SZ.out; have := Option.some.inj e; omega)); have BXn := Aside0.mk (blk_grown BX.out (put_grownN hp_) (fun e => by have := N16.out; have := SZ.out; have := Option.some.inj e; omega)); have BOn := Aside0.mk (blk_grown BO.out (put_grownN hp_) (fun e => by have := N16.out; have := SZ.out; have := Option.some.inj e; omega)); have BF := Aside0.mk (hp_.blk); clear T BS BX BO; have T := Tn; have BS := BSn; have BX := BXn; have BO := BOn; clear Tn BSn BXn BOn; clear hp_ BFa; generalize (w18.setCell ⟨w17.heap.size, 0, none⟩ (.int .i64 f0)).setCell ⟨w17.heap.size, 1, none⟩ (.int .i64 f1) = wz at T BS BX BO BF ⊢) | (have hp_ := put_two (x := .int .i64 f0) (y := .int .i64 f1) BFa.out; have Tn := Aside0.mk (T.out.put hp_ (by have := G16.out; have := SZ.out; omega)); have BSn := Aside0.mk (blk_grown BS.out (put_grownN hp_) (fun e => by have := N16.out; have := SZ.out; have := Option.some.inj e; omega)); have BXn := Aside0.mk (blk_grown BX.out (put_grownN hp_) (fun e => by have := N16.out; have := SZ.out; have := Option.some.inj e; omega)); have BOn := Aside0.mk (blk_grown BO.out (put_grownN hp_) (fun e => by have := N16.out; have := SZ.out; have := Option.some.inj e; omega)); have BF := Aside0.mk (hp_.blk); clear T BS BX BO; have T := Tn; have BS := BSn; have BX := BXn; have BO := BOn; clear Tn BSn BXn BOn; clear hp_ BFa; generalize (w18.setCell ⟨w16.heap.size, 0, none⟩ (.int .i64 f0)).setCell ⟨w16.heap.size, 1, none⟩ (.int .i64 f1) = wz at T BS BX BO BF ⊢) | (have hb_ := below_alloc (Below.refl w18.heap.size w18) (.cells #[.int .i64 f0, .int .i64 f1] 54 (0, 0)); have Tn := Aside0.mk (T.out.below hb_); have BSn := Aside0.mk (blk_below BS.out hb_); have BXn := Aside0.mk (blk_below BX.out hb_); have BOn := Aside0.mk (blk_below BO.out hb_); have BF := Aside0.mk (alloc_here w18 (.cells #[.int .i64 f0, .int .i64 f1] 54 (0, 0))); clear T BS BX BO; have T := Tn; have BS := BSn; have BX := BXn; have BO := BOn; clear Tn BSn BXn BOn; clear hb_; generalize w18.alloc (.cells #[.int .i64 f0, .int .i64 f1] 54 (0, 0)) = wz at T BS BX BO BF ⊢)
                have ks1 := blk_cell BS.out 1
                have kx0 := blk_cell BX.out 0
                have kx1 := blk_cell BX.out 1
                have ko0 := blk_cell BO.out 0
                have ko1 := blk_cell BO.out 1
                have kf0 := blk_cell BF.out 0
                have kf1 := blk_cell BF.out 1
                by_cases ck0 : sk = 0
                · subst ck0
                  obtain ⟨ho1, ho2⟩ := HOWN.out (.inl rfl)
                  have ho1 := ho1.symm
                  have ho2 := ho2.symm
                  subst ho1
                  subst ho2
                  clear HOWN HFN
                  go_wp2
                  go_roundw
                  case measure => have hq := HL2.out; (try rw [HWR2.out]); simp only [intOf]; omega
                  case rel => exact ⟨k + 1, by first | rfl | (rw [HWR2.out]; done), by have := HL2.out; omega, ⟨T.out⟩⟩
                by_cases ck1 : sk = 1
                · subst ck1
                  obtain ⟨ho1, ho2⟩ := HOWN.out (.inr rfl)
                  obtain ⟨hf0, hf1, hf2⟩ := HFN.out (by decide)
                  have ho1 := ho1.symm
                  have ho2 := ho2.symm
                  subst ho1
                  subst ho2
                  have hf1 := hf1.symm
                  subst hf0
                  subst hf1
                  subst hf2
                  clear HOWN HFN ck0
                  go_wp2
                  go_roundw
                  case measure => have hq := HL2.out; (try rw [HWR2.out]); simp only [intOf]; omega
                  case rel => exact ⟨k + 1, by first | rfl | (rw [HWR2.out]; done), by have := HL2.out; omega, ⟨T.out⟩⟩
                obtain ⟨hf0, hf1, hf2⟩ := HFN.out ck0
                have hf1 := hf1.symm
                subst hf0
                subst hf1
                subst hf2
                have b0 : (sk == 0) = false := beq_eq_false_iff_ne.mpr ck0
                have b1 : (sk == 1) = false := beq_eq_false_iff_ne.mpr ck1
                have b2 : (sk != 0) = true := bne_iff_ne.mpr ck0
                clear HOWN HFN ck0 ck1
                go_wp2
                go_roundw
                case measure => have hq := HL2.out; (try rw [HWR2.out]); simp only [intOf]; omega
                case rel => exact ⟨k + 1, by first | rfl | (rw [HWR2.out]; done), by have := HL2.out; omega, ⟨T.out⟩⟩
          · have hk0 : k = n4 := by omega
            subst hk0
            have hltb2 : decide ((k : Int) < (k : Int)) = false := by simp
            clear hlt2 hkle
            go_wp2
            go_roundw
            case measure => have hq := HLT.out; (try rw [HWR.out]); simp only [intOf]; omega
            case rel => exact ⟨i + 1, by first | rfl | (rw [HWR.out]; done), by have := HLT.out; omega, ⟨T.out⟩⟩
      · have hi0 : i = l0.length := by omega
        subst hi0
        have hltb : decide ((l0.length : Int) < (l0.length : Int)) = false := by simp
        clear hlt hile
        by_cases cz : l0.length = 0
        · have hz : ((l0.length : Int) == 0) = true := beq_iff_eq.mpr (by omega)
          clear cz
          go_wp2_with (first | (go_at_call 14; refine (pleatlaw08_lives.calls true _ lives8).mono ?_; rintro e_ wl ⟨rfl, hbl⟩; have HBL := Aside0.mk hbl; clear hbl))
          go_ret
          exact ⟨rfl, (T.out.below HBL.out).a⟩
        have hz : ((l0.length : Int) == 0) = false := beq_eq_false_iff_ne.mpr (by omega)
        have hz1 : decide ((l0.length : Int) ≥ 32) = false := decide_eq_false (by have := H8.out; omega)
        have hz2 : decide (32 ≤ l0.length) = false := decide_eq_false (by have := H8.out; omega)
        have hz3 : ¬ ((l0.length : Int) = 0) := by omega
        have hz4 : ((l0.length : Int) != 0) = true := bne_iff_ne.mpr (by omega)
        have HPP := Aside0.mk (show ∃ p : Nat, p < l0.length ∧ a1 % (l0.length : Int) = (p : Int) from ⟨(a1 % (l0.length : Int)).toNat, by
          have h2 := Int.emod_lt_of_pos a1 (show (0 : Int) < (l0.length : Int) by omega)
          have h3 := Int.emod_nonneg a1 (show ¬ (l0.length : Int) = 0 by omega)
          omega, by
          have h3 := Int.emod_nonneg a1 (show ¬ (l0.length : Int) = 0 by omega)
          omega⟩)
        clear cz
        go_wp2
        obtain ⟨p, hp, hrem⟩ := HPP.out
        rw [hrem]
        have HPL := Aside0.mk hp
        clear hrem HPP hp hz hz1 hz2 hz3 hz4 hltb
        have p0 : (0 : Int) ≤ (p : Int) := by omega
        have q0 : (p : Int) < (l0.length : Int) := by have := HPL.out; omega
        obtain ⟨ad, A1, c1, A3, c3, A4, c4, A5, c5, eA, hxn, hxc, _, _, hxs, _, hL1, hC1, _, _, hL4, hC4, _, _⟩ := at_T27 HR.out (p : Int) p0 q0
        subst eA
        rw [show ((p : Int)).toNat = p by omega] at hxn hxc hxs
        rw [show rd_T27 l0 (p : Int) = ob l0 p from rfl] at hxn hxc hxs hC1 hC4 hL1 hL4
        obtain ⟨ed, B3, d3, eD, hzd, hLd, hCd⟩ := at_L15 HD.out (p : Int) p0 (by rw [HDL.out]; omega)
        rw [show ((p : Int)).toNat = p by omega] at hzd
        subst eD
        have hrow := BD.out.row p HPL.out
        have hsl := BD.out.syms p HPL.out
        rw [hrow] at hzd
        have HXS := Aside0.mk hxs
        have HZD := Aside0.mk hzd
        have HC4 := Aside0.mk hC4
        have HCD := Aside0.mk hCd
        have HROW := Aside0.mk hrow
        have HSL := Aside0.mk hsl
        clear hxn hxc hL1 hC1 hxs hzd hL4 hC4 hCd hLd hrow hsl
        have p0t := eq_true p0
        have q0t := eq_true q0
        have qdt : ((p : Int) < (d.length : Int)) = True := eq_true (by rw [HDL.out]; omega)
        obtain ⟨n4, hn4⟩ : ∃ n4, n4 = (ob l0 p).f4.length := ⟨_, rfl⟩
        have HN4 := Aside0.mk hn4
        have hxs := HXS.out
        have hzd := HZD.out
        rw [← hn4] at hxs hzd
        clear HXS HZD hn4 p0 q0
        have HXS := Aside0.mk hxs
        have HZD := Aside0.mk hzd
        clear hxs hzd
        go_loopw [17] (fun u17 wr => ∃ k : Nat, u17 = .int .i64 (k : Int) ∧ k ≤ n4 ∧ Aside0 (Tb w wd wr)) (fun u17 _ => n4 - (intOf u17).toNat)
        case atStart => exact ⟨0, rfl, Nat.zero_le _, T⟩
        case round =>
          clear T
          obtain ⟨k, rfl, hkle, T⟩ := hrel
          have hxs := pw_cell_below T.out.a HXS.out; have hzd := pw_cell_below T.out.b HZD.out; skip
          by_cases hlt2 : k < n4
          · have p1 : (0 : Int) ≤ (k : Int) := by omega
            have q1 : (k : Int) < (n4 : Int) := by omega
            have hk4 : k < (ob l0 p).f4.length := by rw [← HN4.out]; exact hlt2
            obtain ⟨as_, eS, hs0, hs1, hs2⟩ := at_T37 HC4.out (k : Int) p1 (by omega)
            subst eS
            rw [show ((k : Int)).toNat = k by omega] at hs0 hs1 hs2
            rw [show rd_T37 (ob l0 p).f4 (k : Int) = sy (ob l0 p).f4 k from rfl] at hs0 hs1 hs2
            obtain ⟨ae_, eE, he0, he1⟩ := at_T54 HCD.out (k : Int) p1 (by rw [HROW.out]; omega)
            subst eE
            rw [show ((k : Int)).toNat = k by omega] at he0 he1
            rw [show rd_T54 (rd_L15 d (p : Int)) (k : Int) = dx d p k from rfl] at he0 he1
            have HMO := Aside0.mk (BD.out.more p k HPL.out hk4)
            have hmo := HMO.out
            obtain ⟨xv, hxv⟩ : ∃ xv, dx d p k = xv := ⟨_, rfl⟩
            rw [hxv] at he0 he1 hmo
            clear hxv HMO
            obtain ⟨sv, hsv⟩ : ∃ sv, sy (ob l0 p).f4 k = sv := ⟨_, rfl⟩
            rw [hsv] at hs0 hs1 hs2 hmo
            clear hsv
            obtain ⟨sn, sk, sa⟩ := sv
            obtain ⟨x0, x1⟩ := xv
            simp only at hs0 hs1 hs2 he0 he1 hmo
            have HMO := Aside0.mk hmo
            clear hmo
            have hltb2 : decide ((k : Int) < (n4 : Int)) = true := decide_eq_true (by omega)
            have HWR2 := Aside0.mk (show wrap64 ((k : Int) + 1) = ((k + 1 : Nat) : Int) by rw [wrap64_id (by have := HSL.out; have := HN4.out; omega) (by have := HSL.out; have := HN4.out; omega)]; rfl)
            have HL2 := Aside0.mk hlt2
            have p1t := eq_true p1
            have q1t := eq_true q1
            have q2t : ((k : Int) < ((ob l0 p).f4.length : Int)) = True := eq_true (by omega)
            have HS0 := Aside0.mk hs0
            have HS1 := Aside0.mk hs1
            have HE0 := Aside0.mk he0
            have HE1 := Aside0.mk he1
            clear hs0 hs1 hs2 he0 he1 p1 q1 hlt2 hkle hk4 hxs hzd
            have hxs := pw_cell_below T.out.a HXS.out; have hzd := pw_cell_below T.out.b HZD.out; have hs0 := pw_cell_below T.out.a HS0.out; have hs1 := pw_cell_below T.out.a HS1.out; have he0 := pw_cell_below T.out.b HE0.out; have he1 := pw_cell_below T.out.b HE1.out; skip
            by_cases ck1 : sk = 1
            rotate_left
            · have b1 : (sk != 1) = true := bne_iff_ne.mpr ck1
              clear ck1
              go_wp2
              go_roundw
              case measure => have hq := HL2.out; (try rw [HWR2.out]); simp only [intOf]; omega
              case rel => exact ⟨k + 1, by first | rfl | (rw [HWR2.out]; done), by have := HL2.out; omega, ⟨T.out⟩⟩
            subst ck1
            go_wp2_with (first | (go_at_call 23; refine (pleatref00_CopyObjects.calls kc _ _ l0 l0 _ (Kd.C_below HR.out T.out.a) HC.out HCP.out).mono ?_; rintro e_ w31 ⟨vc, rfl, ho, hb_⟩; have HO := Aside0.mk (Kd.S_lower ho T.out.b.size); clear ho; (try clear hxs hzd hs0 hs1 he0 he1); have Tn := Aside0.mk (T.out.below hb_); clear T hb_; have T := Tn; clear Tn; have hxs := pw_cell_below T.out.a HXS.out; have hzd := pw_cell_below T.out.b HZD.out; have hs0 := pw_cell_below T.out.a HS0.out; have hs1 := pw_cell_below T.out.a HS1.out; have he0 := pw_cell_below T.out.b HE0.out; have he1 := pw_cell_below T.out.b HE1.out; skip) | ((with_reducible refine gate_dst (N := 210) rfl ?_); (try (refine gate_guard (by rfl) ?_; dsimp only)); refine Kd.R_lit k37 _ 37 ?hg (N := 210) ?hd (xs := ([(⟨sn, 3, 0⟩ : Sym)] : List Sym)) (inner := [.string sn, .int .i8 3, .int .i64 0]) (ok := fun _ => True) (okp := fun _ => True) ?hr ?hp (fun _ hk => hk) trivial (Below.refl _ _) (Nat.le_refl _) (by simp) ?_; (case hd => rfl); (case hg => rfl); (case hr => first | (go_simp; done) | (go_simp; rfl)); (case hp => exact (Reps.c3 (show Kd.M k37 _ _ _ (⟨sn, 3, 0⟩ : Sym) [.string sn, .int .i8 3, .int .i64 0] from (k37_mkM _ _ _ (⟨sn, 3, 0⟩ : Sym))) (Reps.none _ _))); intro vl w32 hol hb_ hg_ hnew_; clear hg_ hnew_; have HOn := Aside0.mk (Kd.S_elder' HO.out (Kd.R_base hol) hb_); have HL := Aside0.mk (Kd.R_lower hol T.out.b.size); clear HO hol; have HO := HOn; clear HOn; (try clear hxs hzd hs0 hs1 he0 he1); have Tn := Aside0.mk (T.out.below hb_); clear T hb_; have T := Tn; clear Tn; have hxs := pw_cell_below T.out.a HXS.out; have hzd := pw_cell_below T.out.b HZD.out; have hs0 := pw_cell_below T.out.a HS0.out; have hs1 := pw_cell_below T.out.a HS1.out; have he0 := pw_cell_below T.out.b HE0.out; have he1 := pw_cell_below T.out.b HE1.out; skip; obtain ⟨Ao, co_, eo⟩ := Kd.R_slice HL.out; subst eo) | ((with_reducible refine gate_builtin (b := .append) (xs := #[.tmp 199, .tmp 212]) rfl ?_); (try (refine gate_guard (by rfl) ?_; dsimp only)); at_builtin; refine Kd.S_append k27 (w0 := wd) wd.heap.size rfl (.tmp 199) (.tmp 212) 44 27 (.agg #[(.string ⟨#[]⟩), (.slice none 0 0), (.int .i64 0), (.slice none 0 0), (.slice none 0 0), (.slice none 0 0)]) 120 rfl Try.underlying44 info_obj rfl (by decide) (by omega) vc l0 (newObj sn) [.string (⟨#[111, 110, 101, 46, 109, 111, 114, 101, 46, 111, 98, 106, 101, 99, 116, 46, 104, 101, 114, 101, 95]⟩ : ByteArray), .slice none 0 0, .int .i64 0, .slice none 0 0, (.slice Ao [(⟨sn, 3, 0⟩ : Sym)].length co_ : Value), .slice none 0 0] (fun _ => True) (fun k_ => some k_ = (.slice Ao [(⟨sn, 3, 0⟩ : Sym)].length co_ : Value).ownBlock) rfl rfl ?aP (fun k_ hk_ => ((Kd.R_mono (ok' := fun k_ => True ∧ some k_ ≠ (vc : Value).ownBlock) (Kd.R_apart' (HL.out) (Kd.S_typed HO.out) (by decide)) (fun k_ hk => ⟨trivial, hk.2⟩))).1 k_ hk_.symm) ?aF ?aO ?aB ?aS ?aL ?_; (case aP => exact k27_mkM _ _ _ (newObj sn) (Kd.R_nil _ _ _ _ _) (Kd.R_nil _ _ _ _ _) (Kd.R_mono (Kd.R_tight rfl (Kd.R_mono (ok' := fun k_ => True ∧ some k_ ≠ (vc : Value).ownBlock) (Kd.R_apart' (HL.out) (Kd.S_typed HO.out) (by decide)) (fun k_ hk => ⟨trivial, hk.2⟩))) (fun _ h_ => h_)) (Kd.R_nil _ _ _ _ _)); (case aB => exact T.out.b); (case aF => exact (fun _ _ => trivial)); (case aO => exact Kd.S_mono HO.out (fun k_ hk => ⟨trivial, fun e_ => hk.2 e_⟩)); (case aS => exact T.out.b.size); (case aL => have := H8.out; omega); intro vm wm hom hbm hgm hatm; obtain ⟨lm, hlm⟩ : ∃ lm, lm = l0 ++ [newObj sn] := ⟨_, rfl⟩; rw [← hlm] at hom; have HLM := Aside0.mk hlm; clear hlm; have HM := Aside0.mk hom; have Tn := Aside0.mk (show Tb w wd wm from ⟨below_then WD.out WD.out.size hbm, hbm, T.out.le⟩); clear T HO HL hom hbm hgm hatm; have T := Tn; clear Tn; (try clear hxs hzd hs0 hs1 he0 he1); have hxs := pw_cell_below T.out.a HXS.out; have hzd := pw_cell_below T.out.b HZD.out; have hs0 := pw_cell_below T.out.a HS0.out; have hs1 := pw_cell_below T.out.a HS1.out; have he0 := pw_cell_below T.out.b HE0.out; have he1 := pw_cell_below T.out.b HE1.out; skip))
            go_loopw [19] (fun u19 wr => ∃ i : Nat, u19 = .int .i64 (i : Int) ∧ i ≤ l0.length ∧ Aside0 (∀ q, q < i → (ob l0 q).f0 ≠ newName) ∧ Aside0 (Tb w wd wr) ∧ Aside0 (Kd.S k27 27 wr wd.heap.size (fun _ => True) vm lm)) (fun u19 _ => l0.length - (intOf u19).toNat)
            case atStart => exact ⟨0, rfl, Nat.zero_le _, ⟨fun q h => absurd h (Nat.not_lt_zero _)⟩, T, HM⟩
            case round =>
              clear T HM hxs hzd hs0 hs1 he0 he1
              obtain ⟨i, rfl, hile, HNE, T, HM⟩ := hrel
              by_cases hlt : i < l0.length
              · have p2 : (0 : Int) ≤ (i : Int) := by omega
                have q2 : (i : Int) < (l0.length : Int) := by omega
                obtain ⟨adi, A1i, c1i, A3i, c3i, A4i, c4i, A5i, c5i, eAi, hxni, hxci, _, _, hxsi, _, hL1i, hC1i, _, _, hL4i, hC4i, _, _⟩ := at_T27 HR.out (i : Int) p2 q2
                obtain rfl : ad = adi := (by injection eAi)
                rw [show ((i : Int)).toNat = i by omega] at hxni hxci hxsi
                rw [show rd_T27 l0 (i : Int) = ob l0 i from rfl] at hxni hxci hxsi hC1i hC4i hL1i hL4i
                clear hxci hxsi hL1i hC1i hL4i hC4i
                have hni := pw_cell_below T.out.a hxni
                clear hxni
                have hltb4 : decide ((i : Int) < (l0.length : Int)) = true := decide_eq_true (by omega)
                have HLT4 := Aside0.mk hlt
                have HWR4 := Aside0.mk (show wrap64 ((i : Int) + 1) = ((i + 1 : Nat) : Int) by rw [wrap64_id (by have := H8.out; omega) (by have := H8.out; omega)]; rfl)
                have p2t := eq_true p2
                have q2i := eq_true q2
                clear p2 q2 hlt hile
                by_cases cn : (ob l0 i).f0 = newName
                · as_aux_lemma =>
                    have cnb : ((ob l0 i).f0.toList == ([111, 110, 101, 46, 109, 111, 114, 101, 46, 111, 98, 106, 101, 99, 116, 46, 104, 101, 114, 101, 95] : List UInt8)) = true := beq_iff_eq.mpr (by rw [cn]; kernel_rfl)
                    clear cn
                    go_wp2_with (first | (go_at_call 14; refine (pleatlaw08_lives.calls true _ lives8).mono ?_; rintro e_ wl ⟨rfl, hbl⟩; have HBL := Aside0.mk hbl; clear hbl))
                    go_ret
                    exact ⟨rfl, (T.out.below HBL.out).a⟩
                · as_aux_lemma =>
                    have cnb : ((ob l0 i).f0.toList == ([111, 110, 101, 46, 109, 111, 114, 101, 46, 111, 98, 106, 101, 99, 116, 46, 104, 101, 114, 101, 95] : List UInt8)) = false := beq_eq_false_iff_ne.mpr (fun h => cn (toList_inj.1 (h.trans (show ([111, 110, 101, 46, 109, 111, 114, 101, 46, 111, 98, 106, 101, 99, 116, 46, 104, 101, 114, 101, 95] : List UInt8) = newName.toList by kernel_rfl))))
                    have HCN := Aside0.mk cn
                    clear cn
                    go_wp2
                    go_roundw
                    case measure => have hq := HLT4.out; (try rw [HWR4.out]); simp only [intOf]; omega
                    case rel => exact ⟨i + 1, by first | rfl | (rw [HWR4.out]; done), by have := HLT4.out; omega, ⟨fun q h => by
                      by_cases e : q = i
                      · rw [e]; exact HCN.out
                      · exact HNE.out q (by omega)⟩, T, HM⟩
              · as_aux_lemma =>
                  have hi0 : i = l0.length := by omega
                  subst hi0
                  have hltb4 : decide ((l0.length : Int) < (l0.length : Int)) = false := by simp
                  have hmr := HMO.out (by first | rfl | trivial) HNE.out
                  rw [← HLM.out] at hmr
                  obtain ⟨dm, hdm⟩ : ∃ dm, dm = d ++ [[(⟨x0, x1⟩ : DefT)]] := ⟨_, rfl⟩
                  rw [← hdm] at hmr
                  have HDM := Aside0.mk hdm
                  have HMR := Aside0.mk hmr
                  have HNN := Aside0.mk (show dm.length = l0.length + 1 by rw [hdm, List.length_append, HDL.out]; rfl)
                  have hlast := congrArg (fun z => rd_L15 z (l0.length : Int)) hdm
                  have hcm1 : ((dm.length : Int) != wrap64 ((l0.length : Int) + 1)) = false := by
                    rw [HNN.out, wrap64_id (by have := H8.out; omega) (by have := H8.out; omega)]
                    simp
                  have HC1 := Aside0.mk hcm1
                  have HLS := Aside0.mk (show rd_L15 dm (l0.length : Int) = [⟨x0, x1⟩] by
                    rw [hdm]
                    unfold rd_L15
                    rw [Int.toNat_natCast, List.getD_eq_getElem?_getD, List.getElem?_append_right (by rw [HDL.out]; exact Nat.le_refl _), HDL.out, Nat.sub_self]
                    rfl)
                  have HLF := Aside0.mk (show ∀ q : Nat, q < l0.length → rd_L15 dm (q : Int) = rd_L15 d (q : Int) from fun q hq => by
                    rw [hdm]
                    unfold rd_L15
                    rw [Int.toNat_natCast, List.getD_eq_getElem?_getD, List.getD_eq_getElem?_getD, List.getElem?_append_left (by rw [HDL.out]; exact hq)])
                  clear hlt hile HNE HMO hmr hdm hlast hcm1
                  obtain ⟨Am, cm, em⟩ := Kd.S_slice HM.out
                  subst em
                  go_wp2_with (first | (go_at_call 16; refine (symbol_Resolve.calls _ _ lm dm 0 0 0 _ (Kd.S_reads' HM.out).2.2 (Kd.S_reads' HM.out).2.1 HMR.out).mono ?_; rintro e_ wc ⟨vq, rfl, hoq, hb_⟩; obtain ⟨A8, c8_, e8, _, hCc⟩ := Kd.S_reads hoq; subst e8; have HCC := Aside0.mk hCc; have LC := Aside0.mk (Below.refl wc.heap.size wc); clear HM hoq hCc; (try clear hxs hzd hs0 hs1 he0 he1); have Tn := Aside0.mk (T.out.below hb_); clear T hb_; have T := Tn; clear Tn; have hxs := pw_cell_below T.out.a HXS.out; have hzd := pw_cell_below T.out.b HZD.out; have hs0 := pw_cell_below T.out.a HS0.out; have hs1 := pw_cell_below T.out.a HS1.out; have he0 := pw_cell_below T.out.b HE0.out; have he1 := pw_cell_below T.out.b HE1.out; skip))
                  have hcm1 : ((dm.length : Int) != IntKind.i64.wrap ((l0.length : Int) + 1)) = false := by (first | exact HC1.out | (rw [i64_w]; exact HC1.out) | (simp only [i64_w]; exact HC1.out))
                  have qn : ((l0.length : Int) < (dm.length : Int)) = True := eq_true (by rw [HNN.out]; omega)
                  obtain ⟨eq_, B6, d6, eQ, hr0, _, hRC⟩ := at_L15 HCC.out (l0.length : Int) (by omega) (by rw [HNN.out]; omega)
                  rw [show ((l0.length : Int)).toNat = l0.length by omega] at hr0
                  rw [HLS.out] at hr0 hRC
                  obtain ⟨eqe_, eQE, hr1, hr2⟩ := at_T54 hRC (0 : Int) (by omega) (by simp)
                  subst eQ
                  subst eQE
                  have HR0_ := Aside0.mk hr0
                  have HR1_ := Aside0.mk hr1
                  have HR2_ := Aside0.mk hr2
                  clear hr0 hr1 hr2 hRC
                  have hr0 := pw_cell_below LC.out HR0_.out
                  have hr1 := pw_cell_below LC.out HR1_.out
                  have hr2 := pw_cell_below LC.out HR2_.out
                  rw [show (rd_T54 [(⟨x0, x1⟩ : DefT)] (0 : Int)).f0 = x0 from rfl] at hr1
                  rw [show (rd_T54 [(⟨x0, x1⟩ : DefT)] (0 : Int)).f1 = x1 from rfl] at hr2
                  (try rw [show ((0 : Int)).toNat * 2 = 0 from rfl] at hr1)
                  (try rw [show ((0 : Int)).toNat * 2 = 0 from rfl] at hr2)
                  (try rw [Addr.add_zero'] at hr1)
                  (try rw [Addr.add_zero'] at hr2)
                  (try simp only [show ((0 : Int)).toNat = 0 from rfl, Nat.zero_mul] at hr1 hr2)
                  go_wp2
                  go_quiet (fail)
                  have hb_ : Below wc.heap.size wc (wc.drewN nq) := pw_below_drewN (Below.refl _ _) _
                  have Tn := Aside0.mk (T.out.below hb_)
                  have LCn := Aside0.mk hb_
                  clear T LC hb_ hr0 hr1 hr2 hcm1 qn hxs hzd hs0 hs1 he0 he1
                  have T := Tn
                  have LC := LCn
                  clear Tn LCn
                  go_wp2
                  go_loopw [24] (fun u24 wr => ∃ i : Nat, u24 = .int .i64 (i : Int) ∧ i ≤ l0.length ∧ Aside0 (Tb w wd wr) ∧ Aside0 (Below wc.heap.size wc wr)) (fun u24 _ => l0.length - (intOf u24).toNat)
                  case atStart => exact ⟨0, rfl, Nat.zero_le _, T, LC⟩
                  case round =>
                    as_aux_lemma =>
                      clear T LC
                      obtain ⟨i, rfl, hile, T, LC⟩ := hrel
                      by_cases hlt : i < l0.length
                      · have p2 : (0 : Int) ≤ (i : Int) := by omega
                        have q2 : (i : Int) < (l0.length : Int) := by omega
                        obtain ⟨ez, B7, d7, eZ, hra, _, hRCa⟩ := at_L15 HCC.out (i : Int) p2 (by rw [HNN.out]; omega)
                        obtain rfl : eq_ = ez := (by injection eZ)
                        obtain ⟨ey, B8, d8, eY, hrb, _, hRCb⟩ := at_L15 HD.out (i : Int) p2 (by rw [HDL.out]; omega)
                        obtain rfl : ed = ey := (by injection eY)
                        rw [show ((i : Int)).toNat = i by omega] at hra hrb
                        rw [HLF.out i hlt] at hra hRCa
                        have hsmall := BD.out.syms i hlt
                        have hrow5 := BD.out.row i hlt
                        obtain ⟨rv, hrv⟩ : ∃ rv, rd_L15 d (i : Int) = rv := ⟨_, rfl⟩
                        rw [hrv] at hra hrb hRCa hRCb hrow5
                        clear hrv
                        have HS5 := Aside0.mk (show rv.length ≤ 100000000 by rw [hrow5]; exact hsmall)
                        clear hsmall hrow5
                        have HRA := Aside0.mk hra
                        have HRB := Aside0.mk hrb
                        have HCA := Aside0.mk hRCa
                        have HCB := Aside0.mk hRCb
                        clear hra hrb hRCa hRCb eZ eY
                        have hltb5 : decide ((i : Int) < (l0.length : Int)) = true := decide_eq_true (by omega)
                        have HLT5 := Aside0.mk hlt
                        have HWR5 := Aside0.mk (show wrap64 ((i : Int) + 1) = ((i + 1 : Nat) : Int) by rw [wrap64_id (by have := H8.out; omega) (by have := H8.out; omega)]; rfl)
                        have p2t := eq_true p2
                        have q2i := eq_true q2
                        have q2d : ((i : Int) < (d.length : Int)) = True := eq_true (by rw [HDL.out]; omega)
                        have q2m : ((i : Int) < (dm.length : Int)) = True := eq_true (by rw [HNN.out]; omega)
                        clear p2 q2 hlt hile
                        have hra := pw_cell_below LC.out HRA.out
                        have hrb := pw_cell_below T.out.b HRB.out
                        go_wp2
                        go_quiet (fail)
                        go_wp2
                        go_loopw [25] (fun u25 wr => ∃ j : Nat, u25 = .int .i64 (j : Int) ∧ j ≤ rv.length ∧ Aside0 (Tb w wd wr) ∧ Aside0 (Below wc.heap.size wc wr)) (fun u25 _ => rv.length - (intOf u25).toNat)
                        case atStart => exact ⟨0, rfl, Nat.zero_le _, ⟨T.out.below (pw_below_drewN (Below.refl _ _) _)⟩, ⟨below_then LC.out LC.out.size (pw_below_drewN (Below.refl _ _) _)⟩⟩
                        case round =>
                          as_aux_lemma =>
                            clear T LC hra hrb
                            obtain ⟨j, rfl, hjle, T, LC⟩ := hrel
                            have hra := pw_cell_below LC.out HRA.out
                            have hrb := pw_cell_below T.out.b HRB.out
                            by_cases hltj : j < rv.length
                            · have p3 : (0 : Int) ≤ (j : Int) := by omega
                              have q3 : (j : Int) < (rv.length : Int) := by omega
                              obtain ⟨ga_, eGA, hya0, hya1⟩ := at_T54 HCA.out (j : Int) p3 q3
                              subst eGA
                              obtain ⟨gb_, eGB, hyb0, hyb1⟩ := at_T54 HCB.out (j : Int) p3 q3
                              subst eGB
                              rw [show ((j : Int)).toNat = j by omega] at hya0 hya1 hyb0 hyb1
                              obtain ⟨yv, hyv⟩ : ∃ yv, rd_T54 rv (j : Int) = yv := ⟨_, rfl⟩
                              rw [hyv] at hya0 hya1 hyb0 hyb1
                              clear hyv
                              obtain ⟨y0, y1⟩ := yv
                              simp only at hya0 hya1 hyb0 hyb1
                              have hza0 := pw_cell_below LC.out hya0
                              have hza1 := pw_cell_below LC.out hya1
                              have hzb0 := pw_cell_below T.out.b hyb0
                              have hzb1 := pw_cell_below T.out.b hyb1
                              clear hya0 hya1 hyb0 hyb1
                              have hltbj : decide ((j : Int) < (rv.length : Int)) = true := decide_eq_true (by omega)
                              have HLTJ := Aside0.mk hltj
                              have HWRJ := Aside0.mk (show wrap64 ((j : Int) + 1) = ((j + 1 : Nat) : Int) by rw [wrap64_id (by have := HS5.out; omega) (by have := HS5.out; omega)]; rfl)
                              have p3t := eq_true p3
                              have q3t := eq_true q3
                              clear p3 q3 hltj hjle
                              go_wp2
                              go_quiet (fail)
                              go_wp2
                              go_roundw
                              case measure => have hq := HLTJ.out; (try rw [HWRJ.out]); simp only [intOf]; omega
                              case rel => exact ⟨j + 1, by first | rfl | (rw [HWRJ.out]; done), by have := HLTJ.out; omega, ⟨T.out.below (pw_below_drewN (Below.refl _ _) _)⟩, ⟨below_then LC.out LC.out.size (pw_below_drewN (Below.refl _ _) _)⟩⟩
                            · have hj0 : j = rv.length := by omega
                              subst hj0
                              have hltbj : decide ((rv.length : Int) < (rv.length : Int)) = false := by simp
                              clear hltj hjle
                              go_wp2
                              go_roundw
                              case measure => have hq := HLT5.out; (try rw [HWR5.out]); simp only [intOf]; omega
                              case rel => exact ⟨i + 1, by first | rfl | (rw [HWR5.out]; done), by have := HLT5.out; omega, T, LC⟩
                      · have hi0 : i = l0.length := by omega
                        subst hi0
                        have hltb5 : decide ((l0.length : Int) < (l0.length : Int)) = false := by simp
                        clear hlt hile
                        go_wp2
                        go_roundw
                        case measure => have hq := HL2.out; (try rw [HWR2.out]); simp only [intOf]; omega
                        case rel => exact ⟨k + 1, by first | rfl | (rw [HWR2.out]; done), by have := HL2.out; omega, T⟩
          · have hk0 : k = n4 := by omega
            subst hk0
            have hltb2 : decide ((k : Int) < (k : Int)) = false := by simp
            clear hlt2 hkle
            go_wp2_with (first | (go_at_call 14; refine (pleatlaw08_lives.calls true _ lives8).mono ?_; rintro e_ wl ⟨rfl, hbl⟩; have HBL := Aside0.mk hbl; clear hbl))
            go_ret
            exact ⟨rfl, (T.out.below HBL.out).a⟩
  end Go.Proofs.Ytiaohbbafaaibab.P

/- OWN TEXT: an argument of whatever plain type (whole numbers, bools, strings, slices, structs of these), read as a value of the print's own kinds. -/
set_option linter.unusedVariables false
set_option linter.unusedSimpArgs false
namespace Go.Proofs.Ytiaohbbafaaibab.Opn
open Go.ChangeShapes Go.WideShapes Go.Deep Go.RowKit Go.Proofs.YtiaohbbafaaibabW.PrintWords

/-- Whatever reads as data of type t is a value of kind d, and meets wf. -/
def Opens (P : Program) (t : TypeId) {α : Type} (d : Kd α) (wf : α → Prop) : Prop :=
  P.cellsOf t = d.sz ∧ ∀ (H : Type) (enc : TypeId × Value → H) (w : World) (base : Nat) (spare : Nat → Bool) (held : Bool) (fuel : Nat) (cs : List Value) (x : DataW H × List MemPlace),
    DataW.trod enc P w base spare held fuel t cs = some x → (∀ n ∈ x.1.weights P t, n ≤ reachBytes) → ∃ a : α, d.K w a cs ∧ wf a

theorem Opens.int {P : Program} {t : TypeId} {k : IntKind} (hc : P.cellsOf t = 1) (hu : P.underlying t = some (.int k)) : Opens P t (Kd.int k) (fun n => (Lit.int k n).wf = true) :=
  ⟨hc, fun H enc w base spare held fuel cs x h _ => by
    obtain ⟨n, rfl, rfl, hw⟩ := DataW.trod_int hu h
    exact ⟨n, rfl, hw⟩⟩
theorem Opens.bool {P : Program} {t : TypeId} (hc : P.cellsOf t = 1) (hu : P.underlying t = some .bool) : Opens P t Kd.bool (fun _ => True) :=
  ⟨hc, fun H enc w base spare held fuel cs x h _ => by
    obtain ⟨b, rfl, rfl⟩ := DataW.trod_bool hu h
    exact ⟨b, rfl, trivial⟩⟩
theorem Opens.string {P : Program} {t : TypeId} (hc : P.cellsOf t = 1) (hu : P.underlying t = some .string) : Opens P t Kd.string (fun s => s.size ≤ 140737488351232) :=
  ⟨hc, fun H enc w base spare held fuel cs x h hz => by
    obtain ⟨s, rfl, rfl, _⟩ := DataW.trod_string hu h
    have := hz s.data.toList.length (by simp [DataW.weights])
    rw [Array.length_toList] at this
    exact ⟨s, rfl, this⟩⟩

theorem weightsAll_mem {H : Type} {P : Program} {e : TypeId} : ∀ {l : List (DataW H)} {d : DataW H}, d ∈ l → ∀ n ∈ d.weights P e, n ∈ DataW.weightsAll P e l
  | d0 :: r, d, hd, n, hn => by
    simp only [DataW.weightsAll, List.mem_append]
    rcases List.mem_cons.1 hd with rfl | hd
    · exact .inl hn
    · exact .inr (weightsAll_mem hd n hn)

theorem Opens.slice {P : Program} {t e : TypeId} {α : Type} {d : Kd α} {wf : α → Prop} {B : Nat} (hc : P.cellsOf t = 1) (hu : P.underlying t = some (.slice e)) (hB : P.bytesOf e = B) (he : Opens P e d wf) :
    Opens P t (Kd.slice e d) (fun l => l.length ≤ 9223372036854775807 ∧ l.length * B ≤ 140737488351232 ∧ ∀ x ∈ l, wf x) :=
  ⟨hc, fun H enc w base spare held fuel cs x h hz => by
    rcases open_slice hu h with ⟨rfl, rfl⟩ | ⟨a, len, cap, m, n, D, Pl, rfl, hb, hl, hm, hmm, rfl, hi⟩
    · exact ⟨[], ⟨none, 0, rfl, Nat.le_refl _, rfl, by simp, fun h => absurd h (Nat.lt_irrefl 0)⟩, by simp, by simp, fun x hx => by cases hx⟩
    · have hlm : len ≤ m := by rw [hmm]; split <;> omega
      have hw0 : ∀ n ∈ (DataW.slice ((List.range len).map D) ((List.range (m - len)).map fun j => D (len + j))).weights P t, n ≤ reachBytes := hz
      have h1 : (len + (m - len)) * P.bytesOf e ≤ reachBytes := by
        have := hw0 _ (by simp only [DataW.weights, hu]; exact List.mem_cons_self)
        simpa using this
      have hel : ∀ i, i < len → ∃ (a' : α) (c : List Value), w.cells? base (a.add (i * P.cellsOf e)) (P.cellsOf e) = some c ∧ d.K w a' c ∧ wf a' := fun i hi' => by
        obtain ⟨c, hcc, ht⟩ := hi i (Nat.lt_of_lt_of_le hi' hlm)
        obtain ⟨a', hk, hwf⟩ := he.2 H enc w base spare held n c _ ht (fun q hq => hw0 q (by
          simp only [DataW.weights, hu]
          exact List.mem_cons_of_mem _ (List.mem_append_left _ (weightsAll_mem (List.mem_map.2 ⟨i, List.mem_range.2 hi', rfl⟩) q hq))))
        exact ⟨a', c, hcc, hk, hwf⟩
      have hl' : ∃ l : List α, l.length = len ∧ ∀ i x, l[i]? = some x → ∃ c, w.cells? base (a.add (i * P.cellsOf e)) (P.cellsOf e) = some c ∧ d.K w x c ∧ wf x := by
        clear hw0 h1 hi hlm hl hz hmm h
        induction len with
        | zero => exact ⟨[], rfl, fun i x hx => by simp at hx⟩
        | succ len ih =>
          obtain ⟨l, hl, hp⟩ := ih (fun i hi => hel i (Nat.lt_succ_of_lt hi))
          obtain ⟨a', c, h1, h2, h3⟩ := hel len (Nat.lt_succ_self len)
          refine ⟨l ++ [a'], by simp [hl], fun i x hx => ?_⟩
          rcases Nat.lt_or_ge i l.length with h | h
          · rw [List.getElem?_append_left h] at hx
            exact hp i x hx
          · rw [List.getElem?_append_right h] at hx
            have hi0 : i - l.length = 0 := by
              rcases Nat.eq_zero_or_pos (i - l.length) with h0 | h0
              · exact h0
              · rw [List.getElem?_eq_none (by simp; omega)] at hx; cases hx
            rw [hi0] at hx
            simp at hx
            subst hx
            obtain rfl : i = len := by omega
            exact ⟨c, h1, h2, h3⟩
      obtain ⟨l, hll, hp⟩ := hl'
      subst hll
      refine ⟨l, ⟨some a, cap, rfl, hl, rfl, by simp only [maxLen] at hm; omega, fun _ => ⟨a, rfl, fun j p hj => ?_⟩⟩, ?_, ?_, ?_⟩
      · obtain ⟨c, h1, h2, _⟩ := hp j p hj
        obtain ⟨_, hcl, hcell⟩ := World.cells?_some h1
        refine ⟨c, by rw [hcl, he.1], h2, fun i u hu' => ?_⟩
        have hi2 : i < P.cellsOf e := by
          rw [← hcl]
          exact (List.getElem?_eq_some_iff.1 hu').1
        rw [← he.1, ← Go.Deep.add_add, hcell i hi2, hu']
      · simp only [maxLen] at hm; omega
      · rw [← hB]
        refine Nat.le_trans (Nat.mul_le_mul_right _ (show l.length ≤ l.length + (m - l.length) by omega)) ?_
        exact h1
      · intro x hx
        obtain ⟨i, hi'⟩ := List.getElem?_of_mem hx
        obtain ⟨_, _, _, h3⟩ := hp i x hi'
        exact h3⟩

/-- The fields of a struct, from the cell off on: each one's cells behind the other's. -/
def OpensF (P : Program) (fs : List Field) (off : Nat) {α : Type} (d : Kd α) (wf : α → Prop) : Prop :=
  (fs.map fun f => P.cellsOf f.type).sum = d.sz ∧ ∀ (H : Type) (enc : TypeId × Value → H) (w : World) (base : Nat) (spare : Nat → Bool) (held : Bool) (fuel : Nat) (cs : List Value) (xs : List (DataW H × List MemPlace)),
    cs.length = off + d.sz → xs.length = fs.length → (∀ (i : Nat) (f : Field), fs[i]? = some f → DataW.trod enc P w base spare held fuel f.type ((cs.drop f.offset).take (P.cellsOf f.type)) = xs[i]?) →
    (∀ n ∈ DataW.weightsEach P (fs.map (·.type)) (xs.map (·.1)), n ≤ reachBytes) → ∃ a : α, d.K w a (cs.drop off) ∧ wf a

theorem OpensF.one {P : Program} {f : Field} {off : Nat} {α : Type} {d : Kd α} {wf : α → Prop} (ho : f.offset = off) (h : Opens P f.type d wf) : OpensF P [f] off d wf := by
  refine ⟨by simp [h.1], fun H enc w base spare held fuel cs xs hl hx hf hz => ?_⟩
  match xs, hx with
  | [x], _ =>
    have h0 := hf 0 f rfl
    rw [ho, h.1, List.take_of_length_le (by rw [List.length_drop]; omega)] at h0
    exact h.2 H enc w base spare held fuel _ x h0 (fun n hn => hz n (by simp only [List.map_cons, DataW.weightsEach, List.mem_append]; exact .inl hn))

theorem OpensF.cons {P : Program} {f : Field} {fs : List Field} {off : Nat} {α β : Type} {d : Kd α} {d' : Kd β} {wf : α → Prop} {wf' : β → Prop} (ho : f.offset = off) (h : Opens P f.type d wf) (hs : OpensF P fs (off + d.sz) d' wf') :
    OpensF P (f :: fs) off (Kd.pair d d') (fun x => wf x.1 ∧ wf' x.2) := by
  refine ⟨by simp [h.1, hs.1, Kd.pair], fun H enc w base spare held fuel cs xs hl hx hf hz => ?_⟩
  match xs, hx with
  | x :: xs, hx =>
    have hsz : (Kd.pair d d').sz = d.sz + d'.sz := rfl
    have h0 := hf 0 f rfl
    rw [ho, h.1] at h0
    obtain ⟨a, hk, hw⟩ := h.2 H enc w base spare held fuel _ x h0 (fun n hn => hz n (by simp only [List.map_cons, DataW.weightsEach, List.mem_append]; exact .inl hn))
    obtain ⟨b, hk', hw'⟩ := hs.2 H enc w base spare held fuel cs xs (by omega) (by simpa using hx) (fun i g hg => hf (i + 1) g hg) (fun n hn => hz n (by simp only [List.map_cons, DataW.weightsEach, List.mem_append]; exact .inr hn))
    exact ⟨(a, b), ⟨(cs.drop off).take d.sz, cs.drop (off + d.sz), by rw [← List.drop_drop, List.take_append_drop], hk, hk'⟩, hw, hw'⟩

theorem Opens.struct {P : Program} {t : TypeId} {fs : Array Field} {α β : Type} {d : Kd α} {wf : α → Prop} (f : β → α) (g : α → β) (hfg : ∀ a, f (g a) = a) (hc : P.cellsOf t = d.sz) (hu : P.underlying t = some (.struct fs)) (h : OpensF P fs.toList 0 d wf) :
    Opens P t (Kd.iso d f) (fun x => wf (f x)) := by
  refine ⟨hc, fun H enc w base spare held fuel cs x hx hz => ?_⟩
  obtain ⟨xs, n, rfl, rfl, hl, hlen, hf⟩ := DataW.trod_struct hu hx
  obtain ⟨a, hk, hw⟩ := h.2 H enc w base spare held n cs xs (by omega) (by simpa using hlen) (fun i fl hfl => hf i fl (by simpa using hfl)) (fun q hq => hz q (by simp only [DataW.weights, hu]; exact hq))
  refine ⟨g a, ?_, by show wf (f (g a)); rw [hfg]; exact hw⟩
  show d.K w (f (g a)) cs
  rw [hfg]
  simpa using hk

/-- An argument: what its cells are, and that it meets wf. -/
theorem Opens.arg {P : Program} {t : TypeId} {α : Type} {d : Kd α} {wf : α → Prop} (ho : Opens P t d wf) {H : Type} {enc : TypeId × Value → H} {ts : List TypeId} {ds : List (DataW H)} {w : World} {base : Nat} {spare : Nat → Bool} {held : Bool} {v : Value} {x : DataW H} {ps : List MemPlace} {j : Nat}
    (hsz : (DataW.weightsEach P ts ds).all (· ≤ reachBytes) = true) (ht : ts[j]? = some t) (hd : ds[j]? = some x) (h : DataW.Trod enc P w base spare held t v x ps) : ∃ a : α, d.K w a v.cells.toList ∧ wf a := by
  obtain ⟨fuel, hf⟩ := h
  refine ho.2 H enc w base spare held fuel _ _ hf (fun n hn => ?_)
  have := List.all_eq_true.1 hsz _ (DataW.weights_mem_each ht hd n hn)
  simpa using this

theorem slice_of {P : Program} {w : World} {r : Reach} {b0 : Nat} {t e : TypeId} {v : Value} {u : Value} (hs : P.underlying t = some (.slice e)) (hv : Value.okWide P w r b0 t v) (h : v.cells.toList = [u]) : v = u := by
  obtain ⟨a, len, cap, rfl⟩ := okWide_slice hs hv
  simpa [Value.cells] using h

end Go.Proofs.Ytiaohbbafaaibab.Opn

/- OWN TEXT, written by rows.py: what an argument of each parameter type of this seat's laws reads as. -/
namespace Go.Proofs.Ytiaohbbafaaibab.P
open Go.RowKit Go.Proofs.YtiaohbbafaaibabW.PrintWords Go.Proofs.YtiaohbbafaaibabW.PrintLast Go.Proofs.YtiaohbbafaaibabW.PrintMore Go.Proofs.Ytiaohbbafaaibab.Opn
set_option linter.unusedVariables false
set_option linter.unusedSimpArgs false
theorem opn9 : Opens Try.prog 9 Kd.string (fun s => s.size ≤ 140737488351232) := Opens.string (by kernel_rfl) Try.underlying9
theorem opn42 : Opens Try.prog 42 (Kd.int .u32) (fun n => (Lit.int .u32 n).wf = true) := Opens.int (by kernel_rfl) Try.underlying42
theorem opn22 : Opens Try.prog 22 (Kd.slice 42 (Kd.int .u32)) (fun l => l.length ≤ 9223372036854775807 ∧ l.length * 4 ≤ 140737488351232 ∧ ∀ y ∈ l, (Lit.int .u32 y).wf = true) := Opens.slice (by kernel_rfl) Try.underlying22 (by kernel_rfl) opn42
theorem opn3 : Opens Try.prog 3 (Kd.int .i64) (fun n => (Lit.int .i64 n).wf = true) := Opens.int (by kernel_rfl) Try.underlying3
theorem opn2 : Opens Try.prog 2 (Kd.int .i64) (fun n => (Lit.int .i64 n).wf = true) := Opens.int (by kernel_rfl) Try.underlying2
theorem opn23 : Opens Try.prog 23 (Kd.slice 2 (Kd.int .i64)) (fun l => l.length ≤ 9223372036854775807 ∧ l.length * 8 ≤ 140737488351232 ∧ ∀ y ∈ l, (Lit.int .i64 y).wf = true) := Opens.slice (by kernel_rfl) Try.underlying23 (by kernel_rfl) opn2
theorem opn35 : Opens Try.prog 35 (Kd.int .i8) (fun n => (Lit.int .i8 n).wf = true) := Opens.int (by kernel_rfl) Try.underlying35
def wf37 (x : S37) : Prop := (x.f0.size ≤ 140737488351232) ∧ ((Lit.int .i8 x.f1).wf = true) ∧ ((Lit.int .i64 x.f2).wf = true)
set_option maxRecDepth 100000 in
theorem opn37 : Opens Try.prog 37 k37 wf37 := by
  refine Opens.struct (d := (Kd.pair Kd.string (Kd.pair (Kd.int .i8) (Kd.int .i64)))) (wf := (fun p : (ByteArray) × (Int) × (Int) => (p.1.size ≤ 140737488351232) ∧ ((Lit.int .i8 p.2.1).wf = true) ∧ ((Lit.int .i64 p.2.2).wf = true))) (fun x : S37 => (x.f0, x.f1, x.f2)) (fun p => ⟨p.1, p.2.1, p.2.2⟩) (fun _ => rfl) (by kernel_rfl) Try.underlying37 ?_
  refine OpensF.cons (d := Kd.string) (d' := (Kd.pair (Kd.int .i8) (Kd.int .i64))) (wf := (fun p : ByteArray => p.size ≤ 140737488351232)) (wf' := (fun p : (Int) × (Int) => ((Lit.int .i8 p.1).wf = true) ∧ ((Lit.int .i64 p.2).wf = true))) rfl opn9 ?_
  refine OpensF.cons (d := (Kd.int .i8)) (d' := (Kd.int .i64)) (wf := (fun p : Int => (Lit.int .i8 p).wf = true)) (wf' := (fun p : (Int) => ((Lit.int .i64 p).wf = true))) rfl opn35 ?_
  exact OpensF.one rfl opn3
theorem opn24 : Opens Try.prog 24 (Kd.slice 37 k37) (fun l => l.length ≤ 9223372036854775807 ∧ l.length * 32 ≤ 140737488351232 ∧ ∀ y ∈ l, wf37 y) := Opens.slice (by kernel_rfl) Try.underlying24 (by kernel_rfl) opn37
def wf41 (x : S41) : Prop := ((Lit.int .i64 x.f0).wf = true) ∧ ((Lit.int .i64 x.f1).wf = true)
set_option maxRecDepth 100000 in
theorem opn41 : Opens Try.prog 41 k41 wf41 := by
  refine Opens.struct (d := (Kd.pair (Kd.int .i64) (Kd.int .i64))) (wf := (fun p : (Int) × (Int) => ((Lit.int .i64 p.1).wf = true) ∧ ((Lit.int .i64 p.2).wf = true))) (fun x : S41 => (x.f0, x.f1)) (fun p => ⟨p.1, p.2⟩) (fun _ => rfl) (by kernel_rfl) Try.underlying41 ?_
  refine OpensF.cons (d := (Kd.int .i64)) (d' := (Kd.int .i64)) (wf := (fun p : Int => (Lit.int .i64 p).wf = true)) (wf' := (fun p : (Int) => ((Lit.int .i64 p).wf = true))) rfl opn3 ?_
  exact OpensF.one rfl opn3
theorem opn25 : Opens Try.prog 25 (Kd.slice 41 k41) (fun l => l.length ≤ 9223372036854775807 ∧ l.length * 16 ≤ 140737488351232 ∧ ∀ y ∈ l, wf41 y) := Opens.slice (by kernel_rfl) Try.underlying25 (by kernel_rfl) opn41
def wf27 (x : S27) : Prop := (x.f0.size ≤ 140737488351232) ∧ (x.f1.length ≤ 9223372036854775807 ∧ x.f1.length * 4 ≤ 140737488351232 ∧ ∀ y ∈ x.f1, (Lit.int .u32 y).wf = true) ∧ ((Lit.int .i64 x.f2).wf = true) ∧ (x.f3.length ≤ 9223372036854775807 ∧ x.f3.length * 8 ≤ 140737488351232 ∧ ∀ y ∈ x.f3, (Lit.int .i64 y).wf = true) ∧ (x.f4.length ≤ 9223372036854775807 ∧ x.f4.length * 32 ≤ 140737488351232 ∧ ∀ y ∈ x.f4, wf37 y) ∧ (x.f5.length ≤ 9223372036854775807 ∧ x.f5.length * 16 ≤ 140737488351232 ∧ ∀ y ∈ x.f5, wf41 y)
set_option maxRecDepth 100000 in
theorem opn27 : Opens Try.prog 27 k27 wf27 := by
  refine Opens.struct (d := (Kd.pair Kd.string (Kd.pair (Kd.slice 42 (Kd.int .u32)) (Kd.pair (Kd.int .i64) (Kd.pair (Kd.slice 2 (Kd.int .i64)) (Kd.pair (Kd.slice 37 k37) (Kd.slice 41 k41))))))) (wf := (fun p : (ByteArray) × (List Int) × (Int) × (List Int) × (List (S37)) × (List (S41)) => (p.1.size ≤ 140737488351232) ∧ (p.2.1.length ≤ 9223372036854775807 ∧ p.2.1.length * 4 ≤ 140737488351232 ∧ ∀ y ∈ p.2.1, (Lit.int .u32 y).wf = true) ∧ ((Lit.int .i64 p.2.2.1).wf = true) ∧ (p.2.2.2.1.length ≤ 9223372036854775807 ∧ p.2.2.2.1.length * 8 ≤ 140737488351232 ∧ ∀ y ∈ p.2.2.2.1, (Lit.int .i64 y).wf = true) ∧ (p.2.2.2.2.1.length ≤ 9223372036854775807 ∧ p.2.2.2.2.1.length * 32 ≤ 140737488351232 ∧ ∀ y ∈ p.2.2.2.2.1, wf37 y) ∧ (p.2.2.2.2.2.length ≤ 9223372036854775807 ∧ p.2.2.2.2.2.length * 16 ≤ 140737488351232 ∧ ∀ y ∈ p.2.2.2.2.2, wf41 y))) (fun x : S27 => (x.f0, x.f1, x.f2, x.f3, x.f4, x.f5)) (fun p => ⟨p.1, p.2.1, p.2.2.1, p.2.2.2.1, p.2.2.2.2.1, p.2.2.2.2.2⟩) (fun _ => rfl) (by kernel_rfl) Try.underlying27 ?_
  refine OpensF.cons (d := Kd.string) (d' := (Kd.pair (Kd.slice 42 (Kd.int .u32)) (Kd.pair (Kd.int .i64) (Kd.pair (Kd.slice 2 (Kd.int .i64)) (Kd.pair (Kd.slice 37 k37) (Kd.slice 41 k41)))))) (wf := (fun p : ByteArray => p.size ≤ 140737488351232)) (wf' := (fun p : (List Int) × (Int) × (List Int) × (List (S37)) × (List (S41)) => (p.1.length ≤ 9223372036854775807 ∧ p.1.length * 4 ≤ 140737488351232 ∧ ∀ y ∈ p.1, (Lit.int .u32 y).wf = true) ∧ ((Lit.int .i64 p.2.1).wf = true) ∧ (p.2.2.1.length ≤ 9223372036854775807 ∧ p.2.2.1.length * 8 ≤ 140737488351232 ∧ ∀ y ∈ p.2.2.1, (Lit.int .i64 y).wf = true) ∧ (p.2.2.2.1.length ≤ 9223372036854775807 ∧ p.2.2.2.1.length * 32 ≤ 140737488351232 ∧ ∀ y ∈ p.2.2.2.1, wf37 y) ∧ (p.2.2.2.2.length ≤ 9223372036854775807 ∧ p.2.2.2.2.length * 16 ≤ 140737488351232 ∧ ∀ y ∈ p.2.2.2.2, wf41 y))) rfl opn9 ?_
  refine OpensF.cons (d := (Kd.slice 42 (Kd.int .u32))) (d' := (Kd.pair (Kd.int .i64) (Kd.pair (Kd.slice 2 (Kd.int .i64)) (Kd.pair (Kd.slice 37 k37) (Kd.slice 41 k41))))) (wf := (fun p : List Int => p.length ≤ 9223372036854775807 ∧ p.length * 4 ≤ 140737488351232 ∧ ∀ y ∈ p, (Lit.int .u32 y).wf = true)) (wf' := (fun p : (Int) × (List Int) × (List (S37)) × (List (S41)) => ((Lit.int .i64 p.1).wf = true) ∧ (p.2.1.length ≤ 9223372036854775807 ∧ p.2.1.length * 8 ≤ 140737488351232 ∧ ∀ y ∈ p.2.1, (Lit.int .i64 y).wf = true) ∧ (p.2.2.1.length ≤ 9223372036854775807 ∧ p.2.2.1.length * 32 ≤ 140737488351232 ∧ ∀ y ∈ p.2.2.1, wf37 y) ∧ (p.2.2.2.length ≤ 9223372036854775807 ∧ p.2.2.2.length * 16 ≤ 140737488351232 ∧ ∀ y ∈ p.2.2.2, wf41 y))) rfl opn22 ?_
  refine OpensF.cons (d := (Kd.int .i64)) (d' := (Kd.pair (Kd.slice 2 (Kd.int .i64)) (Kd.pair (Kd.slice 37 k37) (Kd.slice 41 k41)))) (wf := (fun p : Int => (Lit.int .i64 p).wf = true)) (wf' := (fun p : (List Int) × (List (S37)) × (List (S41)) => (p.1.length ≤ 9223372036854775807 ∧ p.1.length * 8 ≤ 140737488351232 ∧ ∀ y ∈ p.1, (Lit.int .i64 y).wf = true) ∧ (p.2.1.length ≤ 9223372036854775807 ∧ p.2.1.length * 32 ≤ 140737488351232 ∧ ∀ y ∈ p.2.1, wf37 y) ∧ (p.2.2.length ≤ 9223372036854775807 ∧ p.2.2.length * 16 ≤ 140737488351232 ∧ ∀ y ∈ p.2.2, wf41 y))) rfl opn3 ?_
  refine OpensF.cons (d := (Kd.slice 2 (Kd.int .i64))) (d' := (Kd.pair (Kd.slice 37 k37) (Kd.slice 41 k41))) (wf := (fun p : List Int => p.length ≤ 9223372036854775807 ∧ p.length * 8 ≤ 140737488351232 ∧ ∀ y ∈ p, (Lit.int .i64 y).wf = true)) (wf' := (fun p : (List (S37)) × (List (S41)) => (p.1.length ≤ 9223372036854775807 ∧ p.1.length * 32 ≤ 140737488351232 ∧ ∀ y ∈ p.1, wf37 y) ∧ (p.2.length ≤ 9223372036854775807 ∧ p.2.length * 16 ≤ 140737488351232 ∧ ∀ y ∈ p.2, wf41 y))) rfl opn23 ?_
  refine OpensF.cons (d := (Kd.slice 37 k37)) (d' := (Kd.slice 41 k41)) (wf := (fun p : List (S37) => p.length ≤ 9223372036854775807 ∧ p.length * 32 ≤ 140737488351232 ∧ ∀ y ∈ p, wf37 y)) (wf' := (fun p : (List (S41)) => (p.length ≤ 9223372036854775807 ∧ p.length * 16 ≤ 140737488351232 ∧ ∀ y ∈ p, wf41 y))) rfl opn24 ?_
  exact OpensF.one rfl opn25
theorem opn44 : Opens Try.prog 44 (Kd.slice 27 k27) (fun l => l.length ≤ 9223372036854775807 ∧ l.length * 120 ≤ 140737488351232 ∧ ∀ y ∈ l, wf27 y) := Opens.slice (by kernel_rfl) Try.underlying44 (by kernel_rfl) opn27
end Go.Proofs.Ytiaohbbafaaibab.P

/- OWN TEXT: what holds in an object that may be, over plain lists; a word more, a relocation less, a symbol twice. -/
set_option linter.unusedVariables false
set_option linter.unusedSimpArgs false
namespace Go.Proofs.Ytiaohbbafaaibab.P
open Go.RowKit Go.Maps Go.Proofs.YtiaohbbafaaibabW.PrintWords Go.Proofs.YtiaohbbafaaibabW.PrintLast Go.Proofs.YtiaohbbafaaibabW.PrintMore Go.Proofs.Ytiaohbbafaaibab.MapB

def plainE (code : List Int) (k : Nat) : Int := if (tgtS (rd code (k : Int))).2 = true then (if (tgtS (rd code (k : Int))).1 > (code.length : Int) then 22 else 0) else 0
structure OkO (nm : ByteArray) (code : List Int) (dat : Int) (data : List Int) (syms : List Sym) (rels : List Rel) : Prop where
  osize : (sizeS nm code dat data syms.length rels.length).1 = 0
  osyms : ∀ j, j < syms.length → symE syms (code.length : Int) j = 0
  orels : ∀ j, j < rels.length → relE code (syms.length : Int) rels j = 0
  oscan : ∀ k, k < code.length → plainE code k = 0
section
variable {nm : ByteArray} {code : List Int} {dat : Int} {data : List Int} {syms : List Sym} {rels : List Rel}
theorem scanS_iff {g : Nat → Int} {n : Nat} (h : (scanS g n n).1 = 0) : ∀ j, j < n → g j = 0 := by
  intro j hj
  have key : ∀ d i, i + d = n → (∀ q, q < i → g q = 0) → ∀ q, q < n → g q = 0 := by
    intro d
    induction d with
    | zero => intro i hi hz q hq; exact hz q (by omega)
    | succ d ih =>
      intro i hi hz q hq
      by_cases e : g i = 0
      · exact ih (i + 1) (by omega) (fun p hp => by
          by_cases e2 : p = i
          · rw [e2]; exact e
          · exact hz p (by omega)) q hq
      · rw [scanS_at (by omega) hz e] at h
        exact absurd h e
  exact key n 0 (by omega) (fun q hq => absurd hq (Nat.not_lt_zero _)) j hj
theorem okO_of (h : (chkO nm code dat data syms rels).1 = 0) : OkO nm code dat data syms rels := by
  unfold chkO at h
  by_cases h1 : (sizeS nm code dat data syms.length rels.length).1 = 0
  · rw [if_pos h1] at h
    by_cases h2 : (symsS syms (code.length : Int)).1 = 0
    · rw [if_pos h2] at h
      by_cases h3 : (relocsS code (syms.length : Int) rels).1 = 0
      · have hs := firstS_iff (g := symE syms (code.length : Int)) h2
        have hr : ∀ j, j < rels.length → relE code (syms.length : Int) rels j = 0 := by
          unfold relocsS at h3
          by_cases h4 : (firstS (relE code (syms.length : Int) rels) rels.length rels.length).1 = 0
          · exact firstS_iff h4
          · rw [if_neg h4] at h3; exact absurd h3 h4
        rw [relocs_scan hr] at h3
        have hk := scanS_iff h3
        exact ⟨h1, hs, hr, fun k hk' => (scan_plain hr k).symm.trans (hk k hk')⟩
      · rw [if_neg h3] at h; exact absurd h h3
    · rw [if_neg h2] at h; exact absurd h h2
  · rw [if_neg h1] at h; exact absurd h h1
theorem symE_ok {l : List Sym} {n : Int} {i : Nat} (h : symE l n i = 0) : nameS (sy l i).f0 = true ∧ nameSeen l i (keyN (sy l i).f0) = false ∧ 0 ≤ (sy l i).f1 ∧ (sy l i).f1 ≤ 3 ∧ 0 ≤ (sy l i).f2 ∧ (sy l i).f2 ≤ n ∧ ((sy l i).f1 = 3 → (sy l i).f2 = 0) := by
  rw [symE_eq] at h
  split at h
  · rename_i h0
    refine ⟨h0, ?_⟩
    split at h
    · exact absurd h (by decide)
    rename_i h1
    refine ⟨by simpa using h1, ?_⟩
    split at h
    · exact absurd h (by decide)
    split at h
    · exact absurd h (by decide)
    split at h
    · exact absurd h (by decide)
    split at h
    · exact absurd h (by decide)
    split at h
    · split at h
      · exact ⟨by omega, by omega, by omega, by omega, fun _ => by assumption⟩
      · exact absurd h (by decide)
    · exact ⟨by omega, by omega, by omega, by omega, fun e => by contradiction⟩
  · exact absurd h (by decide)
theorem symE_mk {l : List Sym} {n : Int} {i : Nat} (h0 : nameS (sy l i).f0 = true) (h1 : nameSeen l i (keyN (sy l i).f0) = false) (h2 : 0 ≤ (sy l i).f1) (h3 : (sy l i).f1 ≤ 3) (h4 : 0 ≤ (sy l i).f2) (h5 : (sy l i).f2 ≤ n) (h6 : (sy l i).f1 = 3 → (sy l i).f2 = 0) : symE l n i = 0 := by
  rw [symE_eq, if_pos h0, if_neg (by rw [h1]; decide), if_neg (by omega), if_neg (by omega), if_neg (by omega), if_neg (by omega)]
  by_cases c : (sy l i).f1 = 3
  · rw [if_pos c, if_pos (h6 c)]
  · rw [if_neg c]
theorem relE_mk {l : List Rel} {ns : Int} {i : Nat} (h1 : lastR l i < (rl l i).f0) (h2 : (rl l i).f0 < (code.length : Int)) (h3 : 0 ≤ (rl l i).f1) (h4 : (rl l i).f1 < ns) (h5 : (tgtS (rd code (rl l i).f0)).2 = true) (h6 : (tgtS (rd code (rl l i).f0)).1 = 0) : relE code ns l i = 0 := by
  rw [relE_eq, if_neg (by omega), if_neg (by omega), if_neg (by omega), if_neg (by omega), if_pos h5, if_pos h6]
theorem lastR_rise {ns : Int} (h : ∀ j, j < rels.length → relE code ns rels j = 0) : ∀ i, i < rels.length → ∀ j, j < i → (rl rels j).f0 < (rl rels i).f0
  | 0, _, j, hj => absurd hj (Nat.not_lt_zero _)
  | i + 1, hi, j, hj => by
    have h1 : (rl rels i).f0 < (rl rels (i + 1)).f0 := (relE_ok (h (i + 1) hi)).1
    by_cases e : j = i
    · rw [e]; exact h1
    · have := lastR_rise h i (by omega) j (by omega)
      omega
theorem atN_at (p : Int) : ∀ (l : List Rel) (b i : Nat), (h : i < l.length) → l[i].f0 = p → (∀ j, (hj : j < i) → (l[j]'(by omega)).f0 ≠ p) → atN p l b = ((b + i : Nat) : Int)
  | s :: r, b, 0, h, hn, _ => by
    unfold atN
    rw [if_pos (by rw [← hn]; rfl)]
    rfl
  | s :: r, b, i + 1, h, hn, hb => by
    unfold atN
    have h0 : s.f0 ≠ p := hb 0 (by omega)
    rw [if_neg h0, atN_at p r (b + 1) i (by simpa using h) (by simpa using hn) (fun j hj => by have := hb (j + 1) (by omega); simpa using this)]
    congr 1
    omega
theorem OkO.at (h : OkO nm code dat data syms rels) {i : Nat} (hi : i < rels.length) : atN (rl rels i).f0 rels 0 = (i : Int) := by
  have := atN_at (rl rels i).f0 rels 0 i hi (by rw [rl_at hi]) (fun j hj e => by
    have := lastR_rise h.orels i hi j hj
    rw [rl_at (show j < rels.length by omega), e] at this
    omega)
  rw [this]
  simp
theorem OkO.of (h : OkO nm code dat data syms rels) {i : Nat} (hi : i < syms.length) : ofN (sy syms i).f0 syms 0 = (i : Int) := (ofN_seen hi).2 (symE_ok (h.osyms i hi)).2.1
theorem rd_app {l m : List Int} {x : Int} (h0 : 0 ≤ x) (h1 : x < (l.length : Int)) : rd (l ++ m) x = rd l x := by
  unfold rd
  rw [List.getD_eq_getElem?_getD, List.getD_eq_getElem?_getD, List.getElem?_append_left (by omega)]
theorem rel_lo (h : OkO nm code dat data syms rels) {j : Nat} (hj : j < rels.length) : 0 ≤ (rl rels j).f0 := by
  have h1 := (relE_ok (h.orels j hj)).1
  have h2 := lastR_lo code (syms.length : Int) rels j (fun q hq => h.orels q (by omega))
  omega
set_option maxRecDepth 100000 in
theorem tgt_one : (tgtS 1).2 = false := by kernel_rfl
theorem sizeS_mk {ns nr : Nat} (h0 : nameS nm = true) (h1 : code.length ≤ 16384) (h2 : ns ≤ 256) (h3 : nr ≤ code.length) (h4 : 0 ≤ dat) (h5 : dat + (data.length : Int) ≤ 4096) : (sizeS nm code dat data ns nr).1 = 0 := by
  unfold sizeS
  rw [if_pos h0, if_neg (by omega), if_neg (by omega), if_neg (by omega), if_neg (by omega), if_neg (by omega), if_neg (by omega)]
/-- one word more, that is no instruction. -/
theorem OkO.word (h : OkO nm code dat data syms rels) (hl : code.length < 16384) : OkO nm (code ++ [1]) dat data syms rels := by
  obtain ⟨a0, a1, a2, a3, a4, a5⟩ := sizeS_ok h.osize
  have hlen : (code ++ [1]).length = code.length + 1 := by simp
  refine ⟨sizeS_mk a0 (by omega) a2 (by omega) a4 a5, fun j hj => ?_, fun j hj => ?_, fun k hk => ?_⟩
  · obtain ⟨b0, b1, b2, b3, b4, b5, b6⟩ := symE_ok (h.osyms j hj)
    exact symE_mk b0 b1 b2 b3 b4 (by omega) b6
  · obtain ⟨b0, b1, b2, b3, b4, b5⟩ := relE_ok (h.orels j hj)
    have hlo := rel_lo h hj
    exact relE_mk b0 (by omega) b2 b3 (by rw [rd_app hlo b1]; exact b4) (by rw [rd_app hlo b1]; exact b5)
  · unfold plainE
    by_cases e : k < code.length
    · have hs := h.oscan k e
      unfold plainE at hs
      rw [rd_app (by omega) (by omega)]
      by_cases c : (tgtS (rd code (k : Int))).2 = true
      · rw [if_pos c] at hs ⊢
        by_cases c2 : (tgtS (rd code (k : Int))).1 > (code.length : Int)
        · rw [if_pos c2] at hs; exact absurd hs (by decide)
        · rw [if_neg (by omega)]
      · rw [if_neg c]
    · obtain rfl : k = code.length := by omega
      have : rd (code ++ [1]) (code.length : Int) = 1 := by unfold rd; simp
      rw [this, tgt_one, if_neg (by decide)]
theorem rl_take {n j : Nat} (hj : j < n) : rl (rels.take n) j = rl rels j := by
  unfold rl rd_T41
  simp only [List.getD_eq_getElem?_getD, Int.toNat_natCast, List.getElem?_take_of_lt hj]
theorem lastR_take {n j : Nat} (hj : j ≤ n) : lastR (rels.take n) j = lastR rels j := by
  cases j with
  | zero => rfl
  | succ j => show (rl (rels.take n) j).f0 = (rl rels j).f0; rw [rl_take (by omega)]
/-- a relocation less: the last. -/
theorem OkO.less (h : OkO nm code dat data syms rels) {n : Nat} (hn : n ≤ rels.length) : OkO nm code dat data syms (rels.take n) := by
  obtain ⟨a0, a1, a2, a3, a4, a5⟩ := sizeS_ok h.osize
  have hlen : (rels.take n).length = n := by simp; omega
  refine ⟨sizeS_mk a0 a1 a2 (by omega) a4 a5, h.osyms, fun j hj => ?_, h.oscan⟩
  rw [hlen] at hj
  obtain ⟨b0, b1, b2, b3, b4, b5⟩ := relE_ok (h.orels j (by omega))
  refine relE_mk ?_ ?_ ?_ ?_ ?_ ?_
  · rw [rl_take hj, lastR_take (by omega)]; exact b0
  · rw [rl_take hj]; exact b1
  · rw [rl_take hj]; exact b2
  · rw [rl_take hj]; exact b3
  · rw [rl_take hj]; exact b4
  · rw [rl_take hj]; exact b5
theorem sy_app {s : Sym} {j : Nat} (hj : j < syms.length) : sy (syms ++ [s]) j = sy syms j := by
  rw [sy_at (by simp; omega), sy_at hj, List.getElem_append_left hj]
theorem seen_app {s : Sym} : ∀ j, j ≤ syms.length → nameSeen (syms ++ [s]) j = nameSeen syms j
  | 0, _ => rfl
  | j + 1, h => by
    show addS (nameSeen (syms ++ [s]) j) (keyN (sy (syms ++ [s]) j).f0) = addS (nameSeen syms j) (keyN (sy syms j).f0)
    rw [seen_app j (by omega), sy_app (by omega)]
/-- a symbol twice: the second is told. -/
theorem OkO.twice (h : OkO nm code dat data syms rels) (hl : syms.length < 256) {p : Nat} (hp : p < syms.length) {s : Sym} (hs : s.f0 = (sy syms p).f0) : chkO nm code dat data (syms ++ [s]) rels = (26, (syms.length : Int)) := by
  obtain ⟨a0, a1, a2, a3, a4, a5⟩ := sizeS_ok h.osize
  have hlen : (syms ++ [s]).length = syms.length + 1 := by simp
  have hlast : sy (syms ++ [s]) syms.length = s := by rw [sy_at (by omega)]; simp
  have hsy : symsS (syms ++ [s]) (code.length : Int) = (26, (syms.length : Int)) := by
    have h26 : symE (syms ++ [s]) (code.length : Int) syms.length = 26 := by
      rw [symE_eq, hlast, if_pos (by rw [hs]; exact (symE_ok (h.osyms p hp)).1), if_pos (by rw [seen_app _ (Nat.le_refl _), seen_iff]; exact ⟨p, hp, hs.symm⟩)]
    have := firstS_at (g := symE (syms ++ [s]) (code.length : Int)) (n := (syms ++ [s]).length) (i := syms.length) (by omega) (fun j hj => by
      obtain ⟨b0, b1, b2, b3, b4, b5, b6⟩ := symE_ok (h.osyms j hj)
      rw [← sy_app (s := s) hj] at b0 b1 b2 b3 b4 b5 b6
      rw [← seen_app (s := s) j (by omega)] at b1
      exact symE_mk b0 b1 b2 b3 b4 b5 b6) (by rw [h26]; decide)
    rw [h26] at this
    exact this
  unfold chkO
  rw [if_pos (sizeS_mk a0 a1 (by omega) a3 a4 a5), hsy]
  exact if_neg (show ¬ (26 : Int) = 0 by decide)
end
end Go.Proofs.Ytiaohbbafaaibab.P

/- OWN TEXT: the first of a kind and name, the objects' own checks, the rows: plain laws, without the document's answer. -/
set_option linter.unusedVariables false
set_option linter.unusedSimpArgs false
namespace Go.Proofs.Ytiaohbbafaaibab.P
open Go.RowKit Go.Maps Go.Proofs.YtiaohbbafaaibabW.PrintWords Go.Proofs.YtiaohbbafaaibabW.PrintLast Go.Proofs.YtiaohbbafaaibabW.PrintMore Go.Proofs.Ytiaohbbafaaibab.Arr Go.Proofs.Ytiaohbbafaaibab.MapB Go.Proofs.Ytiaohbbafaaibab.SymM


structure Small (l : List ObjT) : Prop where
  len : l.length ≤ 1000000
  code : ∀ p, p < l.length → (ob l p).f1.length ≤ 100000000
  syms : ∀ p, p < l.length → (ob l p).f4.length ≤ 100000000
  rels : ∀ p, p < l.length → (ob l p).f5.length ≤ 100000000
  words : ∀ p, p < l.length → wordsO (ob l p).f1 = true
theorem symF_keep {syms : List Sym} {s : ByteArray} {kind a : Int} {q : Nat} (h : symF syms s kind q = some a) : ∀ d, symF syms s kind (q + d) = some a
  | 0 => h
  | d + 1 => by
    show (match symF syms s kind (q + d) with | some a => some a | none => _) = some a
    rw [symF_keep h d]
theorem symF_up {syms : List Sym} {s : ByteArray} {kind a : Int} {q q' : Nat} (h : symF syms s kind q = some a) (hq : q ≤ q') : symF syms s kind q' = some a := by
  have := symF_keep h (q' - q)
  rwa [show q + (q' - q) = q' by omega] at this
theorem rowF_keep {l : List ObjT} {s : ByteArray} {kind : Int} {x : Int × Int} {q : Nat} (h : rowF l s kind q = some x) : ∀ d, rowF l s kind (q + d) = some x
  | 0 => h
  | d + 1 => by
    show (match rowF l s kind (q + d) with | some a => some a | none => _) = some x
    rw [rowF_keep h d]
theorem rowF_up {l : List ObjT} {s : ByteArray} {kind : Int} {x : Int × Int} {q q' : Nat} (h : rowF l s kind q = some x) (hq : q ≤ q') : rowF l s kind q' = some x := by
  have := rowF_keep h (q' - q)
  rwa [show q + (q' - q) = q' by omega] at this
theorem rowF_step {l : List ObjT} {s : ByteArray} {kind : Int} {p : Nat} (h : rowF l s kind p = none) : rowF l s kind (p + 1) = (symF (ob l p).f4 s kind (ob l p).f4.length).map fun a => ((p : Int), a) := by
  show (match rowF l s kind p with | some x => some x | none => _) = _
  rw [h]
theorem symF_step {syms : List Sym} {s : ByteArray} {kind : Int} {j : Nat} (h : symF syms s kind j = none) : symF syms s kind (j + 1) = if (sy syms j).f0 = s ∧ (sy syms j).f1 = kind then some (sy syms j).f2 else none := by
  show (match symF syms s kind j with | some a => some a | none => _) = _
  rw [h]
theorem firstF_hit {l : List ObjT} {s : ByteArray} {kind a : Int} {i k p q : Nat} (hr : rowF l s kind p = none) (hs : symF (ob l p).f4 s kind (q + 1) = some a) (hp : (p < i ∧ q < (ob l p).f4.length) ∨ (p = i ∧ q < k)) : firstF l s kind i k = some ((p : Int), a) := by
  unfold firstF
  rcases hp with ⟨h1, h2⟩ | ⟨rfl, h2⟩
  · have h3 : rowF l s kind (p + 1) = some ((p : Int), a) := by rw [rowF_step hr, symF_up hs (by omega)]; rfl
    rw [rowF_up h3 (by omega)]
  · rw [hr, symF_up hs (by omega)]; rfl
theorem firstF_all (l : List ObjT) (s : ByteArray) (kind : Int) : firstF l s kind l.length 0 = rowF l s kind l.length := by
  unfold firstF
  cases rowF l s kind l.length with
  | some x => rfl
  | none => rfl
theorem objSeen_iff (l : List ObjT) (s : ByteArray) : ∀ i, objSeen l i (keyN s) = true ↔ ∃ j, j < i ∧ (ob l j).f0 = s
  | 0 => by simp [objSeen]
  | i + 1 => by
    show ((keyN s).sameKey (keyN (ob l i).f0) || objSeen l i (keyN s)) = true ↔ _
    rw [Bool.or_eq_true, key_inj, objSeen_iff l s i]
    constructor
    · rintro (h | ⟨j, h1, h2⟩)
      · exact ⟨i, Nat.lt_succ_self i, h.symm⟩
      · exact ⟨j, by omega, h2⟩
    · rintro ⟨j, h1, h2⟩
      by_cases e : j = i
      · rw [e] at h2; exact .inl h2.symm
      · exact .inr ⟨j, by omega, h2⟩
theorem objCheck {l : List ObjT} (hS : Small l) {p : Nat} (hp : p < l.length) : object_Check.f (ob l p).f0 (ob l p).f1 (ob l p).f2 (ob l p).f3 (ob l p).f4 (ob l p).f5 = some (chkO (ob l p).f0 (ob l p).f1 (ob l p).f2 (ob l p).f3 (ob l p).f4 (ob l p).f5) := by
  unfold object_Check.f
  rw [if_pos (hS.words p hp)]
theorem chkR_ne (l : List ObjT) : ∀ n x, chkR l n = some (some x) → x.1 ≠ 0
  | 0, x, h => by cases h
  | n + 1, x, h => by
    cases hc : chkR l n with
    | none => simp only [chkR, hc] at h; cases h
    | some o =>
      cases o with
      | some y =>
        simp only [chkR, hc] at h
        injection h with h; injection h with h
        rw [← h]; exact chkR_ne l n y hc
      | none =>
        rw [chkR_step l n hc] at h
        split at h
        · cases h
        · split at h
          · injection h with h; injection h with h
            rw [← h]; assumption
          · split at h
            · injection h with h; injection h with h
              rw [← h]; exact (show ¬ (26 : Int) = 0 by decide)
            · injection h with h; cases h
/-- the objects' own checks passed. -/
structure Fine (l : List ObjT) : Prop where
  each : ∀ p, p < l.length → OkO (ob l p).f0 (ob l p).f1 (ob l p).f2 (ob l p).f3 (ob l p).f4 (ob l p).f5
  names : ∀ p, p < l.length → ∀ q, q < p → ¬ (ob l q).f0 = (ob l p).f0
theorem chkR_back (l : List ObjT) {n p : Nat} (h : chkR l n = some none) (hp : p ≤ n) : chkR l p = some none := by
  cases hc : chkR l p with
  | none =>
    have := chkR_none l p (n - p) hc
    rw [show p + (n - p) = n by omega, h] at this; cases this
  | some o =>
    cases o with
    | none => rfl
    | some x =>
      have := chkR_some l p (n - p) x hc
      rw [show p + (n - p) = n by omega, h] at this; cases this
theorem fine_of {l : List ObjT} (hS : Small l) (h : chkR l l.length = some none) : Fine l := by
  have key : ∀ p, p < l.length → (chkO (ob l p).f0 (ob l p).f1 (ob l p).f2 (ob l p).f3 (ob l p).f4 (ob l p).f5).1 = 0 ∧ ∀ q, q < p → ¬ (ob l q).f0 = (ob l p).f0 := by
    intro p hp
    have h1 := chkR_step l p (chkR_back l h (Nat.le_of_lt hp))
    rw [chkR_back l h (show p + 1 ≤ l.length by omega), objCheck hS hp] at h1
    generalize chkO (ob l p).f0 (ob l p).f1 (ob l p).f2 (ob l p).f3 (ob l p).f4 (ob l p).f5 = x at h1 ⊢
    obtain ⟨e, n⟩ := x
    simp only at h1
    by_cases he : e = 0
    · subst he
      refine ⟨rfl, fun q hq hqn => ?_⟩
      rw [if_neg (by decide), if_pos ((objSeen_iff l _ p).2 ⟨q, hq, hqn⟩)] at h1
      injection h1 with h1; cases h1
    · rw [if_pos he] at h1
      injection h1 with h1; cases h1
  exact ⟨fun p hp => okO_of (key p hp).1, fun p hp => (key p hp).2⟩
theorem bound_row {L : List Ent} {l : List ObjT} {p q : Nat} (h : ¬ unbound L l p q) : ∃ x, symX L (p : Int) (sy (ob l p).f4 q) = some x ∧ rowL L (ob l p).f4 (p : Int) (q + 1) = rowL L (ob l p).f4 (p : Int) q ++ [x] := by
  unfold unbound at h
  cases hx : symX L (p : Int) (sy (ob l p).f4 q) with
  | none => exact absurd hx h
  | some x =>
    refine ⟨x, rfl, ?_⟩
    show rowL L (ob l p).f4 (p : Int) q ++ (symX L (p : Int) (sy (ob l p).f4 q)).toList = _
    rw [hx]; rfl
theorem rowL_length {L : List Ent} {l : List ObjT} {p : Nat} : ∀ q, (∀ q', q' < q → ¬ unbound L l p q') → (rowL L (ob l p).f4 (p : Int) q).length = q
  | 0, _ => rfl
  | q + 1, h => by
    obtain ⟨x, _, hx⟩ := bound_row (h q (by omega))
    rw [hx, List.length_append, rowL_length q (fun q' h' => h q' (by omega))]
    rfl
theorem rowsL_length (L : List Ent) (l : List ObjT) : ∀ n, (rowsL L l n).length = n
  | 0 => rfl
  | n + 1 => by
    show (rowsL L l n ++ [_]).length = _
    rw [List.length_append, rowsL_length L l n]; rfl
end Go.Proofs.Ytiaohbbafaaibab.P

/- OWN TEXT: what binding means, over plain lists: where a bound symbol stands; one more Wanted symbol. -/
set_option linter.unusedVariables false
set_option linter.unusedSimpArgs false
namespace Go.Proofs.Ytiaohbbafaaibab.P
open Go.RowKit Go.Maps Go.Proofs.YtiaohbbafaaibabW.PrintWords Go.Proofs.YtiaohbbafaaibabW.PrintLast Go.Proofs.YtiaohbbafaaibabW.PrintMore Go.Proofs.Ytiaohbbafaaibab.Arr Go.Proofs.Ytiaohbbafaaibab.MapB Go.Proofs.Ytiaohbbafaaibab.SymM

theorem resolve_ok (l : List ObjT) (hn : l.length ≤ 32) (hc : chkR l l.length = some none) (h0 : NoneBad l (twice l)) (h : NoneBad l (unbound (gObj l l.length) l)) : resolveR l = some (rowsL (gObj l l.length) l l.length, 0, 0, 0) := by
  unfold resolveR
  rw [if_neg (by omega), hc, aObj_none l l.length h0]
  simp only
  rw [if_neg (by decide), rowsX_none _ l l.length h]
theorem ok_of {l : List ObjT} {d : List (List DefT)} {n m : Int} (h : resolveR l = some (d, 0, n, m)) : l.length ≤ 32 ∧ chkR l l.length = some none ∧ NoneBad l (twice l) ∧ NoneBad l (unbound (gObj l l.length) l) ∧ d = rowsL (gObj l l.length) l l.length := by
  by_cases c : (l.length : Int) > 32
  · unfold resolveR at h
    rw [if_pos c] at h
    simp at h
  · have hl : l.length ≤ 32 := by omega
    cases hc : chkR l l.length with
    | none => unfold resolveR at h; rw [if_neg c, hc] at h; cases h
    | some o =>
      cases o with
      | some x =>
        unfold resolveR at h
        rw [if_neg c, hc] at h
        obtain ⟨x1, x2, x3⟩ := x
        simp only [Option.some.injEq, Prod.mk.injEq] at h
        exact absurd h.2.1 (chkR_ne l _ _ hc)
      | none =>
        obtain ⟨x, hx, ht⟩ := resolve_told l hl hc
        rw [h] at hx
        have hx := Option.some.inj hx
        cases ht with
        | two hb => simp at hx
        | un h0 hb => simp at hx
        | ok h0 hn =>
          simp only [Prod.mk.injEq] at hx
          exact ⟨hl, rfl, h0, hn, hx.1⟩
theorem rowsL_get (L : List Ent) (l : List ObjT) (i : Nat) : ∀ n, i < n → (rowsL L l n).getD i [] = rowL L (ob l i).f4 (i : Int) (ob l i).f4.length
  | n + 1, h => by
    show (rowsL L l n ++ [_]).getD i [] = _
    have hl := rowsL_length L l n
    by_cases e : i = n
    · subst e
      rw [List.getD_eq_getElem?_getD, List.getElem?_append_right (by omega), hl, Nat.sub_self]
      rfl
    · rw [List.getD_eq_getElem?_getD, List.getElem?_append_left (by omega), ← List.getD_eq_getElem?_getD]
      exact rowsL_get L l i n (by omega)
theorem rowL_get {L : List Ent} {l : List ObjT} {p k : Nat} {x z : DefT} (hx : symX L (p : Int) (sy (ob l p).f4 k) = some x) : ∀ n, k < n → (∀ q, q < n → ¬ unbound L l p q) → (rowL L (ob l p).f4 (p : Int) n).getD k z = x
  | n + 1, h, hn => by
    obtain ⟨y, hy, hrow⟩ := bound_row (hn n (Nat.lt_succ_self n))
    have hl := rowL_length n (fun q hq => hn q (by omega))
    rw [hrow]
    by_cases e : k = n
    · subst e
      rw [List.getD_eq_getElem?_getD, List.getElem?_append_right (by omega), hl, Nat.sub_self]
      rw [hx] at hy
      rw [Option.some.inj hy]
      rfl
    · rw [List.getD_eq_getElem?_getD, List.getElem?_append_left (by omega), ← List.getD_eq_getElem?_getD]
      exact rowL_get hx n (by omega) (fun q hq => hn q (by omega))
theorem symF_is {syms : List Sym} {s : ByteArray} {kind a : Int} : ∀ n, symF syms s kind n = some a → ∃ q, q < n ∧ (sy syms q).f0 = s ∧ (sy syms q).f1 = kind ∧ (sy syms q).f2 = a
  | n + 1, h => by
    cases hs : symF syms s kind n with
    | some b =>
      rw [symF_keep hs 1] at h
      obtain ⟨q, h1, h2⟩ := symF_is n hs
      rw [Option.some.inj h] at h2
      exact ⟨q, by omega, h2⟩
    | none =>
      rw [symF_step hs] at h
      split at h
      · rename_i c
        exact ⟨n, Nat.lt_succ_self n, c.1, c.2, Option.some.inj h⟩
      · cases h
theorem rowF_is {l : List ObjT} {s : ByteArray} {kind : Int} {x : Int × Int} : ∀ n, rowF l s kind n = some x → ∃ p q, p < n ∧ q < (ob l p).f4.length ∧ (sy (ob l p).f4 q).f0 = s ∧ (sy (ob l p).f4 q).f1 = kind ∧ x = ((p : Int), (sy (ob l p).f4 q).f2)
  | n + 1, h => by
    cases hs : rowF l s kind n with
    | some b =>
      rw [rowF_keep hs 1] at h
      obtain ⟨p, q, h1, h2⟩ := rowF_is n hs
      rw [Option.some.inj h] at h2
      exact ⟨p, q, by omega, h2⟩
    | none =>
      rw [rowF_step hs] at h
      cases ha : symF (ob l n).f4 s kind (ob l n).f4.length with
      | none => rw [ha] at h; cases h
      | some a =>
        rw [ha] at h
        obtain ⟨q, h1, h2, h3, h4⟩ := symF_is _ ha
        refine ⟨n, q, Nat.lt_succ_self n, h1, h2, h3, ?_⟩
        rw [h4]
        exact (Option.some.inj h).symm
theorem findF_is {l : List ObjT} {s : ByteArray} (h : (findF l s l.length).2.2 = true) : ∃ p q, p < l.length ∧ q < (ob l p).f4.length ∧ findF l s l.length = ((p : Int), (sy (ob l p).f4 q).f2, true) := by
  unfold findF at h ⊢
  cases h1 : rowF l s 1 l.length with
  | some x =>
    obtain ⟨p, q, a, b, _, _, e⟩ := rowF_is _ h1
    subst e
    exact ⟨p, q, a, b, rfl⟩
  | none =>
    rw [h1] at h
    cases h2 : rowF l s 2 l.length with
    | some x =>
      obtain ⟨p, q, a, b, _, _, e⟩ := rowF_is _ h2
      subst e
      exact ⟨p, q, a, b, rfl⟩
    | none => rw [h2] at h; cases h
theorem find_f {l : List ObjT} (hS : Small l) (s : ByteArray) : symbol_Find.f l s = some (findF l s l.length) := by
  unfold symbol_Find.f
  rw [if_pos, findR_gObj]
  rw [Bool.and_eq_true, decide_eq_true_eq, List.all_eq_true]
  refine ⟨by have := hS.len; omega, fun i hi => decide_eq_true ?_⟩
  have := hS.syms i (List.mem_range.1 hi)
  omega
theorem resolve_f {l : List ObjT} (hl : l.length ≤ 1000000) (hs : ∀ p, p < l.length → (ob l p).f4.length ≤ 100000000) : symbol_Resolve.f l = resolveR l := by
  unfold symbol_Resolve.f
  rw [if_pos]
  rw [Bool.and_eq_true, decide_eq_true_eq, List.all_eq_true]
  refine ⟨hl, fun i hi => decide_eq_true ?_⟩
  have := hs i (List.mem_range.1 hi)
  omega
/-- a Global symbol that is not there before is what its name stands for. -/
theorem own_first {l : List ObjT} (h0 : NoneBad l (twice l)) {i k : Nat} (hi : i < l.length) (hk : k < (ob l i).f4.length) (h1 : (sy (ob l i).f4 k).f1 = 1) : rowF l (sy (ob l i).f4 k).f0 1 l.length = some ((i : Int), (sy (ob l i).f4 k).f2) := by
  have hf : firstF l (sy (ob l i).f4 k).f0 1 i k = none := by
    cases hq : firstF l (sy (ob l i).f4 k).f0 1 i k with
    | none => rfl
    | some x => exact absurd ⟨h1, by rw [hq]; rfl⟩ (h0 i hi k hk)
  have hr : rowF l (sy (ob l i).f4 k).f0 1 i = none := by
    unfold firstF at hf
    cases hq : rowF l (sy (ob l i).f4 k).f0 1 i with
    | none => rfl
    | some x => rw [hq] at hf; cases hf
  have hs : symF (ob l i).f4 (sy (ob l i).f4 k).f0 1 k = none := by
    unfold firstF at hf
    rw [hr] at hf
    cases hq : symF (ob l i).f4 (sy (ob l i).f4 k).f0 1 k with
    | none => rfl
    | some x => rw [hq] at hf; cases hf
  have hs1 : symF (ob l i).f4 (sy (ob l i).f4 k).f0 1 (k + 1) = some (sy (ob l i).f4 k).f2 := by rw [symF_step hs, if_pos ⟨rfl, h1⟩]
  have := firstF_hit (i := l.length) (k := 0) hr hs1 (.inl ⟨hi, hk⟩)
  rwa [firstF_all] at this
section
variable {l l' : List ObjT}
theorem seen_congr : ∀ n, (∀ i, i < n → ob l' i = ob l i) → objSeen l' n = objSeen l n
  | 0, _ => rfl
  | n + 1, h => by
    show addS (objSeen l' n) (keyN (ob l' n).f0) = addS (objSeen l n) (keyN (ob l n).f0)
    rw [seen_congr n (fun i hi => h i (by omega)), h n (Nat.lt_succ_self n)]
theorem chkR_congr : ∀ n, (∀ i, i < n → ob l' i = ob l i) → chkR l' n = chkR l n
  | 0, _ => rfl
  | n + 1, h => by
    unfold chkR
    rw [chkR_congr n (fun i hi => h i (by omega)), seen_congr n (fun i hi => h i (by omega)), h n (Nat.lt_succ_self n)]
theorem rowF_congr (s : ByteArray) (kind : Int) : ∀ n, (∀ i, i < n → ob l' i = ob l i) → rowF l' s kind n = rowF l s kind n
  | 0, _ => rfl
  | n + 1, h => by
    unfold rowF
    rw [rowF_congr s kind n (fun i hi => h i (by omega)), h n (Nat.lt_succ_self n)]
theorem gObj_congr : ∀ n, (∀ i, i < n → ob l' i = ob l i) → gObj l' n = gObj l n
  | 0, _ => rfl
  | n + 1, h => by
    unfold gObj
    rw [gObj_congr n (fun i hi => h i (by omega)), h n (Nat.lt_succ_self n)]
theorem rowsL_congr (L : List Ent) : ∀ n, (∀ i, i < n → ob l' i = ob l i) → rowsL L l' n = rowsL L l n
  | 0, _ => rfl
  | n + 1, h => by
    unfold rowsL
    rw [rowsL_congr L n (fun i hi => h i (by omega)), h n (Nat.lt_succ_self n)]
end
theorem ob_left {l : List ObjT} (x : ObjT) {i : Nat} (h : i < l.length) : ob (l ++ [x]) i = ob l i := by
  unfold ob rd_T27
  rw [Int.toNat_natCast, List.getD_eq_getElem?_getD, List.getD_eq_getElem?_getD, List.getElem?_append_left h]
theorem ob_last (l : List ObjT) (x : ObjT) : ob (l ++ [x]) l.length = x := by
  unfold ob rd_T27
  rw [Int.toNat_natCast, List.getD_eq_getElem?_getD, List.getElem?_append_right (Nat.le_refl _), Nat.sub_self]
  rfl
theorem newName_ok : nameS newName = true := by decide +kernel
theorem new_check {s : ByteArray} (h : nameS s = true) : object_Check.f newName [] 0 [] [⟨s, 3, 0⟩] [] = some (0, 0) := by
  unfold object_Check.f
  rw [if_pos (by rfl)]
  have h1 : sizeS newName [] 0 [] ([⟨s, 3, 0⟩] : List Sym).length ([] : List Rel).length = (0, 0) := by
    unfold sizeS
    rw [if_pos newName_ok]
    rfl
  have h2 : symsS [⟨s, 3, 0⟩] (([] : List Int).length : Int) = (0, 0) := by
    unfold symsS
    refine firstS_zero (fun j hj => ?_)
    have : j = 0 := by simp at hj; omega
    subst this
    refine symE_mk ?_ rfl ?_ ?_ ?_ ?_ ?_
    · exact h
    · show (0 : Int) ≤ 3; decide
    · show (3 : Int) ≤ 3; decide
    · show (0 : Int) ≤ 0; decide
    · show (0 : Int) ≤ 0; decide
    · intro _; rfl
  unfold chkO
  rw [h1, h2]
  rfl
theorem bound_of {l : List ObjT} (hS : Small l) (h8 : l.length ≤ 8) {d : List (List DefT)} {n m : Int} (h : resolveR l = some (d, 0, n, m)) : Bound l d := by
  obtain ⟨hl, hc, h0, hN, hd⟩ := ok_of h
  have hF := fine_of hS hc
  have hget : ∀ i k, i < l.length → k < (ob l i).f4.length → ∃ x, symX (gObj l l.length) (i : Int) (sy (ob l i).f4 k) = some x ∧ dx d i k = x := by
    intro i k hi hk
    obtain ⟨x, hx, _⟩ := bound_row (hN i hi k hk)
    refine ⟨x, hx, ?_⟩
    show (rd_L15 d (i : Int)).getD ((k : Int)).toNat _ = x
    rw [Int.toNat_natCast]
    show (d.getD ((i : Int)).toNat []).getD k _ = x
    rw [Int.toNat_natCast, hd, rowsL_get _ l i _ hi]
    exact rowL_get hx _ hk (hN i hi)
  have hkind : ∀ i k, i < l.length → k < (ob l i).f4.length → (sy (ob l i).f4 k).f1 ≠ 0 → (findF l (sy (ob l i).f4 k).f0 l.length).2.2 = true ∧ dx d i k = ⟨(findF l (sy (ob l i).f4 k).f0 l.length).1, (findF l (sy (ob l i).f4 k).f0 l.length).2.1⟩ := by
    intro i k hi hk hz
    obtain ⟨x, hx, he⟩ := hget i k hi hk
    unfold symX at hx
    rw [if_neg hz, findR_gObj] at hx
    split at hx
    · rename_i hf
      exact ⟨hf, by rw [he]; exact (Option.some.inj hx).symm⟩
    · cases hx
  refine ⟨by rw [hd, rowsL_length], fun i hi => ?_, fun i hi => by have := hS.syms i hi; omega, fun i k hi hk => ⟨?_⟩, ?_⟩
  · show (d.getD ((i : Int)).toNat []).length = _
    rw [Int.toNat_natCast, hd, rowsL_get _ l i _ hi]
    exact rowL_length _ (hN i hi)
  · by_cases hz : (sy (ob l i).f4 k).f1 = 0
    · obtain ⟨x, hx, he⟩ := hget i k hi hk
      unfold symX at hx
      rw [if_pos hz] at hx
      have hs := symE_ok ((hF.each i hi).osyms k hk)
      exact ⟨i, (sy (ob l i).f4 k).f2, by rw [he]; exact (Option.some.inj hx).symm, hi, hs.2.2.2.2.1, hs.2.2.2.2.2.1, fun _ => ⟨rfl, rfl⟩, fun h => absurd hz h, _, find_f hS _⟩
    · obtain ⟨hf, he⟩ := hkind i k hi hk hz
      obtain ⟨p, q, hp, hq, hfe⟩ := findF_is hf
      have hs := symE_ok ((hF.each p hp).osyms q hq)
      rw [hfe] at he
      refine ⟨p, (sy (ob l p).f4 q).f2, he, hp, hs.2.2.2.2.1, hs.2.2.2.2.2.1, fun hor => ?_, fun _ => by rw [find_f hS, hfe], _, find_f hS _⟩
      have h1 : (sy (ob l i).f4 k).f1 = 1 := by omega
      have hr := own_first h0 hi hk h1
      unfold findF at hfe
      rw [hr] at hfe
      simp only [Prod.mk.injEq] at hfe
      exact ⟨by omega, hfe.2.1.symm⟩
  · intro p k hp hk h1 hne
    have hl1 : (l ++ [newObj (sy (ob l p).f4 k).f0]).length = l.length + 1 := by rw [List.length_append]; rfl
    have hob : ∀ i, i < l.length → ob (l ++ [newObj (sy (ob l p).f4 k).f0]) i = ob l i := fun i hi => ob_left _ hi
    have hol := ob_last l (newObj (sy (ob l p).f4 k).f0)
    have hnm := (symE_ok ((hF.each p hp).osyms k hk)).1
    have hc' : chkR (l ++ [newObj (sy (ob l p).f4 k).f0]) (l.length + 1) = some none := by
      have hcl : chkR (l ++ [newObj (sy (ob l p).f4 k).f0]) l.length = some none := by rw [chkR_congr l.length hob]; exact hc
      have hseen : ¬ objSeen (l ++ [newObj (sy (ob l p).f4 k).f0]) l.length (keyN (newObj (sy (ob l p).f4 k).f0).f0) = true := by
        rw [objSeen_iff]
        rintro ⟨j, hj, hj2⟩
        rw [hob j hj] at hj2
        exact hne j hj hj2
      have hck : object_Check.f (newObj (sy (ob l p).f4 k).f0).f0 (newObj (sy (ob l p).f4 k).f0).f1 (newObj (sy (ob l p).f4 k).f0).f2 (newObj (sy (ob l p).f4 k).f0).f3 (newObj (sy (ob l p).f4 k).f0).f4 (newObj (sy (ob l p).f4 k).f0).f5 = some (0, 0) := new_check hnm
      rw [chkR_step _ _ hcl, hol, hck]
      simp only
      rw [if_neg (by decide), if_neg hseen]
    have hg : gObj (l ++ [newObj (sy (ob l p).f4 k).f0]) (l.length + 1) = gObj l l.length := by
      show gSym (gObj (l ++ [newObj (sy (ob l p).f4 k).f0]) l.length) (ob (l ++ [newObj (sy (ob l p).f4 k).f0]) l.length).f4 _ _ = _
      rw [hol, gObj_congr l.length hob]
      rfl
    have hrow : rowF l (sy (ob l p).f4 k).f0 1 l.length = some ((p : Int), (sy (ob l p).f4 k).f2) := own_first h0 hp hk h1
    have hfd : findF l (sy (ob l p).f4 k).f0 l.length = ((p : Int), (sy (ob l p).f4 k).f2, true) := by unfold findF; rw [hrow]
    have hdx : dx d p k = ⟨(p : Int), (sy (ob l p).f4 k).f2⟩ := by
      obtain ⟨_, he⟩ := hkind p k hp hk (by omega)
      rw [he, hfd]
    have hnew : symX (gObj l l.length) (l.length : Int) (⟨(sy (ob l p).f4 k).f0, 3, 0⟩ : Sym) = some (dx d p k) := by
      unfold symX
      rw [if_neg (show ¬ (3 : Int) = 0 by decide), findR_gObj, hfd, hdx]
      rfl
    have ht' : NoneBad (l ++ [newObj (sy (ob l p).f4 k).f0]) (twice (l ++ [newObj (sy (ob l p).f4 k).f0])) := by
      intro i hi q hq hb
      by_cases e : i = l.length
      · subst e
        rw [hol] at hq
        have : q = 0 := by
          have hq' : q < 1 := hq
          omega
        subst this
        unfold twice at hb
        rw [hol] at hb
        exact absurd hb.1 (show ¬ (3 : Int) = 1 by decide)
      · have hi' : i < l.length := by omega
        rw [hob i hi'] at hq
        refine h0 i hi' q hq ?_
        unfold twice firstF at hb ⊢
        rw [hob i hi', rowF_congr _ _ i (fun j hj => hob j (by omega))] at hb
        exact hb
    have hu' : NoneBad (l ++ [newObj (sy (ob l p).f4 k).f0]) (unbound (gObj (l ++ [newObj (sy (ob l p).f4 k).f0]) (l ++ [newObj (sy (ob l p).f4 k).f0]).length) (l ++ [newObj (sy (ob l p).f4 k).f0])) := by
      intro i hi q hq hb
      rw [hl1, hg] at hb
      by_cases e : i = l.length
      · subst e
        rw [hol] at hq
        have : q = 0 := by
          have hq' : q < 1 := hq
          omega
        subst this
        unfold unbound at hb
        rw [hol] at hb
        have hb' : symX (gObj l l.length) (l.length : Int) (⟨(sy (ob l p).f4 k).f0, 3, 0⟩ : Sym) = none := hb
        rw [hnew] at hb'
        cases hb'
      · have hi' : i < l.length := by omega
        rw [hob i hi'] at hq
        refine hN i hi' q hq ?_
        unfold unbound at hb ⊢
        rw [hob i hi'] at hb
        exact hb
    rw [resolve_f (by omega) (fun i hi => by
      by_cases e : i = l.length
      · rw [e, hol]; show 1 ≤ 100000000; omega
      · rw [hob i (by omega)]; exact hS.syms i (by omega)), resolve_ok _ (by omega) (by rw [hl1]; exact hc') ht' hu', hl1, hg]
    have : rowsL (gObj l l.length) (l ++ [newObj (sy (ob l p).f4 k).f0]) (l.length + 1) = d ++ [[dx d p k]] := by
      show rowsL (gObj l l.length) (l ++ [newObj (sy (ob l p).f4 k).f0]) l.length ++ [rowL (gObj l l.length) (ob (l ++ [newObj (sy (ob l p).f4 k).f0]) l.length).f4 (l.length : Int) (ob (l ++ [newObj (sy (ob l p).f4 k).f0]) l.length).f4.length] = _
      rw [rowsL_congr _ l.length hob, ← hd, hol]
      congr 1
      show [rowL (gObj l l.length) [(⟨(sy (ob l p).f4 k).f0, 3, 0⟩ : Sym)] (l.length : Int) 1] = _
      show [([] : List DefT) ++ (symX (gObj l l.length) (l.length : Int) (⟨(sy (ob l p).f4 k).f0, 3, 0⟩ : Sym)).toList] = _
      rw [hnew]
      rfl
    rw [this]
end Go.Proofs.Ytiaohbbafaaibab.P
