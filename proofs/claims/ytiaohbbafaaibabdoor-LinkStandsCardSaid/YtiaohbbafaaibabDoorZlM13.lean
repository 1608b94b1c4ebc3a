/- OWN TEXT and printed parts of this claim, laid together: HStdW, HStdK, HStd, Opn, Opns, LnkW. -/
import Derived.Test.YtiaohbbafaaibabDoorZlM12
import Derived.Test.YtiaohbbafaaibabDoorZlM6
import Derived.Test.YtiaohbbafaaibabDoorZlM2
import Derived.Test.YtiaohbbafaaibabDoorZlM5
import Derived.Test.YtiaohbbafaaibabDoorZlM11
import Derived.Test.YtiaohbbafaaibabDoorZlWWords
import Derived.SizedLaws
import Derived.Deep.Slices
import Derived.Deep.Fields
import Derived.ChangeSame
import Derived.OpenShut
import Derived.Test.YtiaohbbafaaibabDoorZlM0
/- OWN TEXT: the law LinkStands, walked: the words' round. -/
namespace Go.Proofs.YtiaohbbafaaibabDoor.P
open Go.RowKit Go.Maps Go.Proofs.YtiaohbbafaaibabDoorW.PrintWords Go.Proofs.YtiaohbbafaaibabDoorW.PrintLast Go.Proofs.YtiaohbbafaaibabDoorW.PrintMore Go.Proofs.YtiaohbbafaaibabDoor.Arr Go.Proofs.YtiaohbbafaaibabDoor.MapB Go.Proofs.YtiaohbbafaaibabDoor.SymM
set_option linter.unusedVariables false
set_option linter.unusedSimpArgs false
set_option maxHeartbeats 60000000 in
set_option maxRecDepth 100000 in
theorem standW : standB.2.1 := by
 intro c0 l entry mem w kh hu1 hu2 hu3 HGL HLC H64 HV kc d r3 r4 HSM HCP HCOS cb TT MM EN _ w1 _ _ _ w3 i_ n_ AT cT AM cM g7 w7_ w7b_ oo aa HRS HTT HMM HEN _ HER HST ki HKI HCI w5 AT2 cT2 AM2 cM2 w6 _ _ _ w7 cB _ _ _ w8 cD w2 Ac cc w9 g19 w19_ w19b_ BF HB HTC HMC BX _ _ _ _ u21 u24 u25 _ _ _ _ _ _ _ _ _ _ _ u37 u38 u39 u40 u41 _ _ _ _ _ _ _ _ _ _ _ _ _ _ _ _ _ _ _ _ _ _ _ _ _ _ _ _ _ _ _ _ _ _ _ _ _ _ _ _ _ _ _ _ _ _ _ _ _ _ _ _ _ u192 _ _ _ _ _ _ _ _ _ _ _ _ _ _ _ _ _ _ _ _ _ _ _ _ _ _ _ _ _ _ _ _ _ _ _ _ _ _ _ _ _ _ _ _ _ _ _ _ _ _ _ _ _ _ _ _ _ _ _ _ _ _ _ _ _ _ _ _ _ _ _ _ _ _ _ _ _ _ _ _ _ _ _ _ _ _ _ _ _ _ _ _ _ _ _ _ _ _ _ _ _ _ _ _ _ _ _ _ _ _ _ _ _ _ _ _ _ _ _ _ _ _ _ _ _ _ _ _ _ _ _ _ _ _ _ _ _ _ _ _ _ i ad A1 c1 A3 c3 A4 c4 A5 c5 HC x0 x1 x2 x3 x4 x5 HXE HCO H64i HWO HFI HSN HBL HLT nx HNX hltb HWI ab HBA edd Bd dd HDC HCB HZD HCD p0 q0 _ _ _ w17 B1 d1 B3 d3 B4 d4 B5 d5 g24 w24_ w24b_ BO HL9 HRD HO1 HO3 HO4 HO5 HLW wc u139 u140 u141 u142 u143 u144 u145 u146 u147 u148 u149 u150 u151 u152 u153 u154 u155 u156 u157 u158 u159 u160 u161 u162 u163 u164 u165 u166 u167 u168 u169 u170 u171 u172 u173 u174 u175 u176 u177 u178 u179 u180 u181 u182 u183 u184 u185 u186 u187 u188 u189 u190 u191 _ _ _ _ _ _ _ _ _ _ _ _ _ _ _ _ _ _ _ _ _ _ _ _ _ _ _ _ _ _ _ _ _ _ _ _ _ _ _ _ _ _ _ _ _ _ _ _ _ _ _ _ _ _ _ _ _ _ _ _ _ _ _ _ _ _ _ _ _ _ _ _ _ _ _ _ _ _ _ _ _ _ _ _ _ _ _ _ _ _ _ _ _ _ _ _ _ _ _ _ _ _ _ _ _ _ _ u300 u301 u302 u303 u304 u305 u306 u307 u308 u309 u310 u311 u312 u313 u314 u315 u316 u317 u318 u319 u320 u321 u322 u323 u324 u325 u326 u327 u328 u329 u330 u331 u332 u333 hcut _ _ wr u6 u26 u27 u28 u29 u30 u31 u32 u33 u34 u35 u36 u193 u194 u195 u196 u197 u198 u199 u200 u201 u202 u203 u204 u205 u206 u207 u208 u209 u210 u211 u212 u213 u214 u215 u216 u217 u218 u219 u220 u221 u222 u223 u224 u225 u226 u227 u228 u229 u230 u231 u232 u233 u234 u235 u236 u237 u238 u239 u240 u241 u242 u243 u244 u245 u246 u247 u248 u249 u250 u251 u252 u253 u254 u255 u256 u257 u258 u259 u260 u261 u262 u263 u264 u265 u266 u267 u268 u269 u270 u271 u272 u273 u274 u275 u276 u277 u278 u279 u280 u281 u282 u283 u284 u285 u286 u287 u288 u289 u290 u291 u292 u293 u294 u295 u296 u297 u298 u299 k hkle HLI ho1 hlk
 have hb1 := HBL.out
 have hnx := HNX.out
 have hwn : wrap64 (nx + (k : Int)) = ((baseL l i + k : Nat) : Int) := by rw [wrap64_id (by omega) (by omega)]; omega
 have p3 : (0 : Int) ≤ wrap64 (nx + (k : Int)) := by rw [hwn]; omega
 have q3 : wrap64 (nx + (k : Int)) < (TT.length : Int) := by rw [hwn]; omega
 have hkx : k < (ob l i).f1.length := by rw [HXE.out]; exact hlk
 obtain ⟨at_, eat, hwc⟩ := Kd.at_int HTC.out.2.2 (wrap64 (nx + (k : Int))) p3 q3
 subst eat
 have hW : rd TT (wrap64 (nx + (k : Int))) = finW l d i k := by rw [hwn, HST.out.tx]; exact fin_get HST.out.lk HST.out.big HLT.out hkx
 rw [hW] at hwc
 obtain ⟨b1_, eb1, hcc⟩ := Kd.at_int HO1.out.2.2 (k : Int) (by omega) (by omega)
 subst eb1
 rw [Int.toNat_natCast] at hcc
 have hrc : rd (ob l i).f1 (k : Int) = rd x1 (k : Int) := by rw [HXE.out]
 have hcr := code_in HST.out.lk HLT.out hkx
 rw [hrc] at hcr
 obtain ⟨c, hce⟩ : ∃ c, rd x1 (k : Int) = c := ⟨_, rfl⟩
 rw [hce] at hcc hcr hrc
 have HRC := Aside0.mk hrc
 obtain ⟨kt, hkt⟩ := (tgt1 hcr.1 hcr.2).rounds
 obtain ⟨tg, th, htg⟩ : ∃ tg th, tgtS c = (tg, th) := ⟨_, _, rfl⟩
 rw [htg] at hkt
 have HKT := Aside0.mk hkt
 have HTG := Aside0.mk htg
 have HCR := Aside0.mk hcr
 have HKX := Aside0.mk hkx
 have HLK := Aside0.mk hlk
 have HWC := Aside0.mk (pw_cell_below HL9.out hwc)
 have HCC := Aside0.mk hcc
 have HWN := Aside0.mk hwn
 have HWK := Aside0.mk (show wrap64 ((k : Int) + 1) = ((k + 1 : Nat) : Int) by rw [wrap64_id (by omega) (by omega)]; rfl)
 have hltk : decide ((k : Int) < (x1.length : Int)) = true := decide_eq_true (by omega)
 have p4 : ((0 : Int) ≤ (k : Int)) = True := eq_true (by omega)
 have q4 : ((k : Int) < (x1.length : Int)) = True := eq_true (by omega)
 replace p3 := eq_true p3
 replace q3 := eq_true q3
 have hx0 := blk_cell (blk_below (blk_below BX.out HL9.out) HLI.out) 0
 have hwc := pw_cell_below HLI.out HWC.out
 have hcc := pw_cell_below HLI.out HCC.out
 obtain ⟨W_, hWe⟩ : ∃ W_, finW l d i k = W_ := ⟨_, rfl⟩
 rw [hWe] at hwc
 have HWE := Aside0.mk hWe
 clear hb1 hnx hwn hW hrc hcr hce hkt htg hkx hlk hkle hWe
 cases th with
 | false =>
  obtain rfl : W_ = c := by rw [← HWE.out, fin_same (by rw [HRC.out, HTG.out]), HRC.out]
  go_wp2_with (first | (go_at_call 23; refine (isa_Target.calls kt W_ tg false _ HKT.out).mono ?_; rintro e_ wt ⟨rfl, hb_⟩; replace HLI := Aside0.mk (below_then HLI.out HLI.out.size hb_); clear ho1 hx0 hwc hcc hb_; have ho1 := blk_cell (blk_below BO.out HLI.out) 1; have hx0 := blk_cell (blk_below (blk_below BX.out HL9.out) HLI.out) 0; have hwc := (show _ = some (Value.int .u32 W_) from HWE.out ▸ pw_cell_below HLI.out HWC.out); have hcc := pw_cell_below HLI.out HCC.out; ))
  go_roundw
  case measure => have hq := HLK.out; (try rw [HWK.out]); simp only [intOf]; omega
  case rel => exact ⟨k + 1, by first | rfl | (rw [HWK.out]; done), HLK.out, HLI⟩
 | true =>
  have htc : (tgtS (rd (ob l i).f1 (k : Int))).2 = true := by rw [HRC.out, HTG.out]
  obtain ⟨hT1, hA1⟩ := fin_aimed HST.out.lk HST.out.big HLT.out HKX.out htc
  have hdr2 := dest_range HST.out.lk HST.out.big HLT.out HKX.out htc
  have hwr := (fin_range HST.out.lk HST.out.big HLT.out HKX.out)
  rw [HWE.out] at hT1 hA1 hwr
  rw [HRC.out] at hA1
  obtain ⟨kw, hkw⟩ := (tgt1 hwr.1 hwr.2).rounds
  rw [hT1] at hkw
  obtain ⟨dst, hds⟩ : ∃ dst, destW l d i k = dst := ⟨_, rfl⟩
  rw [hds] at hkw
  have HDS := Aside0.mk hds
  have HKW := Aside0.mk hkw
  obtain ⟨ao, ae, hao⟩ : ∃ ao ae, aimS c 0 = (ao, ae) := ⟨_, _, rfl⟩
  rw [hao] at hA1
  have HA1 := Aside0.mk (show isa_Aim.f W_ 0 = some (ao, ae) by unfold isa_Aim.f; rw [if_pos hwr.1, if_pos hwr.2, hA1])
  have HA2 := Aside0.mk (show isa_Aim.f c 0 = some (ao, ae) by unfold isa_Aim.f; rw [if_pos HCR.out.1, if_pos HCR.out.2, hao])
  obtain ⟨ka, hka⟩ := (ato1 x5 (by have := HSN.out; omega) x0 x1 x2 x3 x4 (k : Int)).rounds
  have HKA := Aside0.mk hka
  have htr := tgtS_range (w := c) (by rw [HTG.out])
  rw [HTG.out] at htr
  have HTR := Aside0.mk htr
  have hdw := hds
  unfold destW at hdw
  rw [HRC.out, HTG.out, HXE.out] at hdw
  simp only at hdw
  obtain ⟨ra, hra⟩ : ∃ ra, atN (k : Int) x5 0 = ra := ⟨_, rfl⟩
  rw [hra] at hka hdw
  replace HKA := Aside0.mk hka
  have HRA := Aside0.mk hra
  have HDW := Aside0.mk hdw
  have ho0 := blk_cell (blk_below BO.out HLI.out) 0
  have ho2 := blk_cell (blk_below BO.out HLI.out) 2
  have ho3 := blk_cell (blk_below BO.out HLI.out) 3
  have ho4 := blk_cell (blk_below BO.out HLI.out) 4
  have ho5 := blk_cell (blk_below BO.out HLI.out) 5
  clear htc hT1 hA1 hdr2 hwr hkw hds hao hka htr hdw hra
  go_upto_region 30 with (first | (go_at_call 23; refine (isa_Target.calls kt c tg true _ HKT.out).mono ?_; rintro e_ wt ⟨rfl, hb_⟩; replace HLI := Aside0.mk (below_then HLI.out HLI.out.size hb_); clear ho1 hx0 hwc hcc ho0 ho2 ho3 ho4 ho5 hb_; have ho1 := blk_cell (blk_below BO.out HLI.out) 1; have hx0 := blk_cell (blk_below (blk_below BX.out HL9.out) HLI.out) 0; have hwc := (show _ = some (Value.int .u32 W_) from HWE.out ▸ pw_cell_below HLI.out HWC.out); have hcc := pw_cell_below HLI.out HCC.out; have ho0 := blk_cell (blk_below BO.out HLI.out) 0; have ho2 := blk_cell (blk_below BO.out HLI.out) 2; have ho3 := blk_cell (blk_below BO.out HLI.out) 3; have ho4 := blk_cell (blk_below BO.out HLI.out) 4; have ho5 := blk_cell (blk_below BO.out HLI.out) 5; ) | (go_at_call 12; refine (pleatref00_CopyObject.calls x0 _ _ x1 x2 _ _ x3 _ _ x4 _ _ x5 x0 x1 x2 x3 x4 x5 _ (Kd.C_below HO1.out.2.2 HLI.out) HO1.out.2.1 (Kd.C_below HO3.out.2.2 HLI.out) HO3.out.2.1 (Kd.C_below HO4.out.2.2 HLI.out) HO4.out.2.1 (Kd.C_below HO5.out.2.2 HLI.out) HO5.out.2.1 HCO.out).mono ?_; rintro e_ w29 ⟨v1_, v3_, v4_, v5_, rfl, h1_, h3_, h4_, h5_, hb_⟩; obtain ⟨E1, f1_, e1_⟩ := Kd.R_slice h1_; obtain ⟨E3, f3_, e3_⟩ := Kd.R_slice h3_; obtain ⟨E4, f4_, e4_⟩ := Kd.R_slice h4_; obtain ⟨E5, f5_, e5_⟩ := Kd.R_slice h5_; subst e1_ e3_ e4_ e5_; have HQ := Aside0.mk (And.intro h1_ (And.intro h3_ (And.intro h4_ h5_))); replace HLI := Aside0.mk (below_then HLI.out HLI.out.size hb_); clear ho1 hx0 hwc hcc ho0 ho2 ho3 ho4 ho5 hb_ h1_ h3_ h4_ h5_; have ho1 := blk_cell (blk_below BO.out HLI.out) 1; have hx0 := blk_cell (blk_below (blk_below BX.out HL9.out) HLI.out) 0; have hwc := (show _ = some (Value.int .u32 W_) from HWE.out ▸ pw_cell_below HLI.out HWC.out); have hcc := pw_cell_below HLI.out HCC.out; have ho0 := blk_cell (blk_below BO.out HLI.out) 0; have ho2 := blk_cell (blk_below BO.out HLI.out) 2; have ho3 := blk_cell (blk_below BO.out HLI.out) 3; have ho4 := blk_cell (blk_below BO.out HLI.out) 4; have ho5 := blk_cell (blk_below BO.out HLI.out) 5; ) | (go_at_call 24; refine (object_At.calls ka x0 _ _ x1 x2 _ _ x3 _ _ x4 _ _ x5 (k : Int) ra _ (Kd.R_reads' HQ.out.1).2.2 (Kd.R_reads' HQ.out.1).2.1 (Kd.R_reads' HQ.out.2.1).2.2 (Kd.R_reads' HQ.out.2.1).2.1 (Kd.R_reads' HQ.out.2.2.1).2.2 (Kd.R_reads' HQ.out.2.2.1).2.1 (Kd.R_reads' HQ.out.2.2.2).2.2 (Kd.R_reads' HQ.out.2.2.2).2.1 HKA.out).mono ?_; rintro e_ w29b ⟨rfl, hb_⟩; replace HLI := Aside0.mk (below_then HLI.out HLI.out.size hb_); clear ho1 hx0 hwc hcc ho0 ho2 ho3 ho4 ho5 hb_ HQ; have ho1 := blk_cell (blk_below BO.out HLI.out) 1; have hx0 := blk_cell (blk_below (blk_below BX.out HL9.out) HLI.out) 0; have hwc := (show _ = some (Value.int .u32 W_) from HWE.out ▸ pw_cell_below HLI.out HWC.out); have hcc := pw_cell_below HLI.out HCC.out; have ho0 := blk_cell (blk_below BO.out HLI.out) 0; have ho2 := blk_cell (blk_below BO.out HLI.out) 2; have ho3 := blk_cell (blk_below BO.out HLI.out) 3; have ho4 := blk_cell (blk_below BO.out HLI.out) 4; have ho5 := blk_cell (blk_below BO.out HLI.out) 5; ))
  have hras : ra < (x5.length : Int) := by
   by_cases h : ra < 0
   ·
    omega
   ·
    obtain ⟨j_, hj, e_, _⟩ := atN_some (p := (k : Int)) x5 0 (by have := HRA.out; omega)
    have := HRA.out
    omega
  have hr30 : decide (ra ≥ (x5.length : Int)) = false := decide_eq_false (by omega)
  have hr31 : ((x5.length : Int) ≤ ra) = False := eq_false (by omega)
  go_upto_if 238 with (fail)
  try simp only [Act.put, List.setIfInBounds_toArray, List.set_cons_zero, List.set_cons_succ]
  go_cut [27] (fun s27 wx => s27 = .int .i64 dst ∧ Aside0 (Below w24b_.heap.size w24b_ wx))
  case first =>
   by_cases hrn : ra < 0
   ·
    have hr32 : decide (ra ≥ 0) = false := decide_eq_false (by omega)
    have hr33 : ((0 : Int) ≤ ra) = False := eq_false (by omega)
    have hd1 := HDW.out
    rw [if_pos hrn] at hd1
    have HD1 := Aside0.mk (show wrap64 (tg + nx) = dst by
     have h1 := HNX.out
     have h2 := HTR.out
     have h3 := HBL.out
     rw [wrap64_id (by omega) (by omega)]
     omega)
    clear hd1
    go_wp2
    go_meet
    exact ⟨by rw [HD1.out], HLI⟩
   ·
    have hr32 : decide (ra ≥ 0) = true := decide_eq_true (by omega)
    have hr33 : ((0 : Int) ≤ ra) = True := eq_true (by omega)
    have hr34 : (ra < (x5.length : Int)) = True := eq_true hras
    have hd1 := HDW.out
    rw [if_neg hrn] at hd1
    have hrj : ra.toNat < (ob l i).f5.length := by rw [HXE.out]; show ra.toNat < x5.length; omega
    have hrel := HST.out.lk.lok.rel i HLT.out ra.toNat hrj
    obtain ⟨b5_, eb5, _, hz1⟩ := at_T68 HO5.out.2.2 ra (by omega) hras
    subst eb5
    obtain ⟨r, hr⟩ : ∃ r, rd_T68 x5 ra = r := ⟨_, rfl⟩
    have hRL : rlN (ob l i).f5 ra.toNat = r := by rw [HXE.out]; show rd_T68 x5 ((ra.toNat : Nat) : Int) = r; rw [Int.toNat_of_nonneg (by omega)]; exact hr
    have hRL2 : rlN x5 ra.toNat = r := by show rd_T68 x5 ((ra.toNat : Nat) : Int) = r; rw [Int.toNat_of_nonneg (by omega)]; exact hr
    rw [hr] at hz1
    rw [hRL] at hrel
    rw [hRL2] at hd1
    obtain ⟨r0, r1⟩ := r
    simp only at hz1 hrel hd1
    rw [HXE.out] at hrel
    have hrl4 : r1 < (x4.length : Int) := hrel.2.2.2
    obtain ⟨edf, eB, hf0, hf1⟩ := at_T59 HCD.out r1 hrel.2.2.1 hrl4
    subst eB
    obtain ⟨q, hq⟩ : ∃ q, rd_T59 (rd_L17 d (i : Int)) r1 = q := ⟨_, rfl⟩
    have hDX : dx d i r1.toNat = q := by unfold dx; rw [Int.toNat_of_nonneg hrel.2.2.1]; exact hq
    have hdst := HST.out.lk.lok.dst i HLT.out r1.toNat (by rw [HXE.out]; show r1.toNat < x4.length; omega)
    rw [hDX] at hdst hd1
    rw [hq] at hf0 hf1
    obtain ⟨so, sa⟩ := q
    simp only at hf0 hf1 hdst hd1
    obtain ⟨ab2, eab2, hcs⟩ := Kd.at_int HBA.out.2.2 so hdst.1 hdst.2.1
    obtain rfl := Option.some.inj eab2
    rw [rd_BL hdst.1 hdst.2.1] at hcs
    have hb2 := big_not HST.out.big (i := so.toNat) (by omega)
    obtain ⟨bo, hbo⟩ : ∃ bo : Int, (baseL l so.toNat : Int) = bo := ⟨_, rfl⟩
    rw [hbo] at hcs hd1
    have hle2 := hdst.2.2.2
    have HD1 := Aside0.mk (show wrap64 (bo + sa) = dst by rw [wrap64_id (by omega) (by omega)]; omega)
    have hzd := pw_cell_below HLI.out (pw_cell_below HL9.out HZD.out)
    replace hf0 := pw_cell_below HLI.out (pw_cell_below HL9.out hf0)
    replace hf1 := pw_cell_below HLI.out (pw_cell_below HL9.out hf1)
    replace hz1 := pw_cell_below HLI.out hz1
    have HCS := Aside0.mk hcs
    have p5 : ((0 : Int) ≤ (i : Int)) = True := eq_true (by omega)
    have p6 : ((0 : Int) ≤ r1) = True := eq_true hrel.2.2.1
    have q6 : (r1 < (x4.length : Int)) = True := eq_true hrl4
    have p7 : ((0 : Int) ≤ so) = True := eq_true hdst.1
    have q7 : (so < (l.length : Int)) = True := eq_true hdst.2.1
    have p8 : decide (so < 0) = false := decide_eq_false (by omega)
    have p9 : (so < 0) = False := eq_false (by omega)
    have q8 : decide (so ≥ (l.length : Int)) = false := decide_eq_false (by omega)
    have q9 : ((l.length : Int) ≤ so) = False := eq_false (by omega)
    have hrn0 : 0 ≤ ra := by omega
    clear hrn hd1 hrj hrel hr hRL hRL2 hrl4 hq hDX hdst hb2 hbo hle2 hcs hwc hcc hx0 ho0 ho1 ho2 ho3 ho4
    go_wp2
    have HLd := Aside0.mk (below_then HLI.out HLI.out.size (below_drew (Below.refl _ _)))
    have hbo5 := ho5
    refine start_ (n := 14) (S := fun w' => w'.cell? (edd.add i) = some (.slice (some edf) x4.length dd) ∧ w'.cell? ⟨g24, 5, none⟩ = some (.slice (some b5_) x5.length d5) ∧ w'.cell? ⟨(b5_.add (ra.toNat * 2)).block, (b5_.add (ra.toNat * 2)).off + 1, none⟩ = some (.int .i64 r1) ∧ w'.cell? (edf.add (r1.toNat * 2)) = some (.int .i64 so) ∧ w'.cell? ⟨(edf.add (r1.toNat * 2)).block, (edf.add (r1.toNat * 2)).off + 1, none⟩ = some (.int .i64 sa)) (ds := [13]) #[false, false, false, false, false, false, false, false, false, false, false, false, false, false] (by kernel_rfl) rfl rfl ⟨hzd, ho5.trans rfl, hz1, hf0, hf1⟩ (fun hHeld => ?_)
    refine pure_ (i := 0) (N := some 239) (v := ?_) (a' := ?_) #[true, false, false, false, false, false, false, false, false, false, false, false, false, false] rfl rfl (by kernel_rfl) (fun _ _ _ h => h) (Or.inl ⟨by rfl, ?_⟩) ?_ ?_
    rotate_left; · intro w'; go_simp; with_reducible rfl
    rotate_left; · simp only [Act.put, List.setIfInBounds_toArray, List.set_cons_zero, List.set_cons_succ, i64_w, i32_w]; rfl
    refine pure_ (i := 1) (N := some 240) (v := ?_) (a' := ?_) #[true, true, false, false, false, false, false, false, false, false, false, false, false, false] rfl rfl (by kernel_rfl) (fun _ _ _ h => h) (Or.inl ⟨by rfl, ?_⟩) ?_ ?_
    rotate_left; · intro w'; go_simp; with_reducible rfl
    rotate_left; · simp only [Act.put, List.setIfInBounds_toArray, List.set_cons_zero, List.set_cons_succ, i64_w, i32_w]; rfl
    refine pure_ (i := 2) (N := some 241) (v := ?_) (a' := ?_) #[true, true, true, false, false, false, false, false, false, false, false, false, false, false] rfl rfl (by kernel_rfl) (fun _ _ _ h => h) (Or.inl ⟨by rfl, ?_⟩) ?_ ?_
    rotate_left; · intro w'; go_simp; with_reducible rfl
    rotate_left; · simp only [Act.put, List.setIfInBounds_toArray, List.set_cons_zero, List.set_cons_succ, i64_w, i32_w]; rfl
    refine take_ (i := 3) (N := some 242) (v := ?_) (a' := ?_) #[true, true, true, true, false, false, false, false, false, false, false, false, false, false] rfl rfl (by kernel_rfl) (fun _ _ _ h => h) (Or.inl ⟨by rfl, ?_⟩) hHeld ?_ ?_
    rotate_left; · rintro w' ⟨s0, s1, s2, s3, s4⟩; go_simp; with_reducible rfl
    rotate_left; · simp only [Act.put, List.setIfInBounds_toArray, List.set_cons_zero, List.set_cons_succ, i64_w, i32_w]; rfl
    refine pure_ (i := 4) (N := some 243) (v := ?_) (a' := ?_) #[true, true, true, true, true, false, false, false, false, false, false, false, false, false] rfl rfl (by kernel_rfl) (fun _ _ _ h => h) (Or.inl ⟨by rfl, ?_⟩) ?_ ?_
    rotate_left; · intro w'; go_simp; with_reducible rfl
    rotate_left; · simp only [Act.put, List.setIfInBounds_toArray, List.set_cons_zero, List.set_cons_succ, i64_w, i32_w]; rfl
    refine take_ (i := 5) (N := some 244) (v := ?_) (a' := ?_) #[true, true, true, true, true, true, false, false, false, false, false, false, false, false] rfl rfl (by kernel_rfl) (fun _ _ _ h => h) (Or.inl ⟨by rfl, ?_⟩) hHeld ?_ ?_
    rotate_left; · rintro w' ⟨s0, s1, s2, s3, s4⟩; go_simp; with_reducible rfl
    rotate_left; · simp only [Act.put, List.setIfInBounds_toArray, List.set_cons_zero, List.set_cons_succ, i64_w, i32_w]; rfl
    refine pure_ (i := 6) (N := some 245) (v := ?_) (a' := ?_) #[true, true, true, true, true, true, true, false, false, false, false, false, false, false] rfl rfl (by kernel_rfl) (fun _ _ _ h => h) (Or.inl ⟨by rfl, ?_⟩) ?_ ?_
    rotate_left; · intro w'; go_simp; with_reducible rfl
    rotate_left; · simp only [Act.put, List.setIfInBounds_toArray, List.set_cons_zero, List.set_cons_succ, i64_w, i32_w]; rfl
    refine pure_ (i := 7) (N := some 246) (v := ?_) (a' := ?_) #[true, true, true, true, true, true, true, true, false, false, false, false, false, false] rfl rfl (by kernel_rfl) (fun _ _ _ h => h) (Or.inl ⟨by rfl, ?_⟩) ?_ ?_
    rotate_left; · intro w'; go_simp; with_reducible rfl
    rotate_left; · simp only [Act.put, List.setIfInBounds_toArray, List.set_cons_zero, List.set_cons_succ, i64_w, i32_w]; rfl
    refine pure_ (i := 8) (N := some 247) (v := ?_) (a' := ?_) #[true, true, true, true, true, true, true, true, true, false, false, false, false, false] rfl rfl (by kernel_rfl) (fun _ _ _ h => h) (Or.inl ⟨by rfl, ?_⟩) ?_ ?_
    rotate_left; · intro w'; go_simp; with_reducible rfl
    rotate_left; · simp only [Act.put, List.setIfInBounds_toArray, List.set_cons_zero, List.set_cons_succ, i64_w, i32_w]; rfl
    refine take_ (i := 9) (N := some 248) (v := ?_) (a' := ?_) #[true, true, true, true, true, true, true, true, true, true, false, false, false, false] rfl rfl (by kernel_rfl) (fun _ _ _ h => h) (Or.inl ⟨by rfl, ?_⟩) hHeld ?_ ?_
    rotate_left; · rintro w' ⟨s0, s1, s2, s3, s4⟩; go_simp; with_reducible rfl
    rotate_left; · simp only [Act.put, List.setIfInBounds_toArray, List.set_cons_zero, List.set_cons_succ, i64_w, i32_w]; rfl
    refine pure_ (i := 10) (N := some 249) (v := ?_) (a' := ?_) #[true, true, true, true, true, true, true, true, true, true, true, false, false, false] rfl rfl (by kernel_rfl) (fun _ _ _ h => h) (Or.inl ⟨by rfl, ?_⟩) ?_ ?_
    rotate_left; · intro w'; go_simp; with_reducible rfl
    rotate_left; · simp only [Act.put, List.setIfInBounds_toArray, List.set_cons_zero, List.set_cons_succ, i64_w, i32_w]; rfl
    refine take_ (i := 11) (N := some 250) (v := ?_) (a' := ?_) #[true, true, true, true, true, true, true, true, true, true, true, true, false, false] rfl rfl (by kernel_rfl) (fun _ _ _ h => h) (Or.inl ⟨by rfl, ?_⟩) hHeld ?_ ?_
    rotate_left; · rintro w' ⟨s0, s1, s2, s3, s4⟩; go_simp; with_reducible rfl
    rotate_left; · simp only [Act.put, List.setIfInBounds_toArray, List.set_cons_zero, List.set_cons_succ, i64_w, i32_w]; rfl
    clear hzd hz1 hf0 hf1 ho5 hbo5
    refine one_ (i := 12) (N := some 30) #[true, true, true, true, true, true, true, true, true, true, true, true, true, false] rfl rfl (by kernel_rfl) (by decide) (fun K hK => ?_)
    refine value_ (w1 := ?_) (v := ?_) (by rfl) rfl ?_ ?_
    rotate_left 2
    ·
     go_simp
     constructor
     ·
      rfl
     ·
      rfl
    refine hK.out _ _ ⟨cell_al hHeld.1 _, cell_al hHeld.2.1 _, cell_al hHeld.2.2.1 _, cell_al hHeld.2.2.2.1 _, cell_al hHeld.2.2.2.2 _⟩ (fun hHeld => ?_)
    clear hK K
    refine norm_ (a' := ?_) ?_ ?_
    rotate_left; · show Act.put _ (some 30) _ = _; simp only [Act.put, List.setIfInBounds_toArray, List.set_cons_zero, List.set_cons_succ, i64_w, i32_w]; rfl
    refine last_ (i := 13) (N := none) #[true, true, true, true, true, true, true, true, true, true, true, true, true, true] rfl rfl (by kernel_rfl) (by decide) (fun K hK => ?_)
    obtain ⟨gd, hgd⟩ : ∃ gd, w29b.heap.size = gd := ⟨_, rfl⟩
    have BD := Aside0.mk (show (w29b.drew.alloc (.cells #[.int .i64 0, .int .i64 0] 59)).heap[w29b.heap.size]? = _ from World.alloc_heap_new w29b.drew _)
    rw [hgd] at BD ⊢
    have GD := Aside0.mk (show w24b_.heap.size ≤ gd by rw [← hgd]; exact HLI.out.size)
    have HLa := Aside0.mk (below_then HLd.out HLd.out.size (below_alloc (Below.refl _ _) (.cells #[.int .i64 0, .int .i64 0] 59)))
    refine step_whole rfl rfl rfl gd #[.int .i64 0, .int .i64 0] #[.int .i64 so, .int .i64 sa] 59 rfl rfl BD.out (by kernel_rfl) rfl (def_one _ _) ?_
    intro w33 hp_
    have HLn := Aside0.mk (hp_.below HLa.out GD.out)
    have BDn := Aside0.mk hp_.blk
    refine hK.out _ _ ?_
    clear hK K HLd HLa HLI BD hp_ hHeld hgd
    refine done_ (by kernel_rfl) ?_
    have HLI := HLn
    have BD := BDn
    clear HLn BDn
    have hd0 := blk_cell BD.out 0
    have hd1 := blk_cell BD.out 1
    have hcs := pw_cell_below HLI.out (pw_cell_below HL9.out HCS.out)
    go_wp2
    try simp only [Act.put, List.setIfInBounds_toArray, List.set_cons_zero, List.set_cons_succ]
    go_big_quiet (fail)
    go_wp2
    go_meet
    exact ⟨by first | rw [HD1.out] | (rw [i64_w, HD1.out]), ⟨pw_below_drewN HLI.out _⟩⟩
  case rest =>
   obtain ⟨rfl, hcut⟩ := hcut
   clear HLI ho1 ho0 ho2 ho3 ho4 ho5 hx0 hwc hcc hr30 hr31 hras
   have HLI := hcut
   clear hcut
   have ho1 := blk_cell (blk_below BO.out HLI.out) 1
   have hcc := pw_cell_below HLI.out HCC.out
   go_upto_region 39 with (first | (go_at_call 23; refine (isa_Target.calls kw W_ dst true _ HKW.out).mono ?_; rintro e_ wt ⟨rfl, hb_⟩; replace HLI := Aside0.mk (below_then HLI.out HLI.out.size hb_); clear ho1 hcc hb_; have ho1 := blk_cell (blk_below BO.out HLI.out) 1; have hcc := pw_cell_below HLI.out HCC.out; ) | (go_at_call 25; refine (isa_Aim.calls W_ 0 ao ae _ HA1.out).mono ?_; rintro e_ wa ⟨rfl, hb_⟩; replace HLI := Aside0.mk (below_then HLI.out HLI.out.size hb_); clear ho1 hcc hb_; have ho1 := blk_cell (blk_below BO.out HLI.out) 1; have hcc := pw_cell_below HLI.out HCC.out; ))
   go_wp2_with (first | (go_at_call 25; refine (isa_Aim.calls c 0 ao ae _ HA2.out).mono ?_; rintro e_ wa ⟨rfl, hb_⟩; replace HLI := Aside0.mk (below_then HLI.out HLI.out.size hb_); clear ho1 hcc hb_; have ho1 := blk_cell (blk_below BO.out HLI.out) 1; have hcc := pw_cell_below HLI.out HCC.out; ))
   go_roundw
   case measure => have hq := HLK.out; (try rw [HWK.out]); simp only [intOf]; omega
   case rel => exact ⟨k + 1, by first | rfl | (rw [HWK.out]; done), HLK.out, HLI⟩
end Go.Proofs.YtiaohbbafaaibabDoor.P

/- OWN TEXT: the law LinkStands, walked: behind the words. -/
namespace Go.Proofs.YtiaohbbafaaibabDoor.P
open Go.RowKit Go.Maps Go.Proofs.YtiaohbbafaaibabDoorW.PrintWords Go.Proofs.YtiaohbbafaaibabDoorW.PrintLast Go.Proofs.YtiaohbbafaaibabDoorW.PrintMore Go.Proofs.YtiaohbbafaaibabDoor.Arr Go.Proofs.YtiaohbbafaaibabDoor.MapB Go.Proofs.YtiaohbbafaaibabDoor.SymM
set_option linter.unusedVariables false
set_option linter.unusedSimpArgs false
set_option maxHeartbeats 60000000 in
set_option maxRecDepth 100000 in
theorem standK : standB.2.2.1 := by
 intro c0 l entry mem w kh hu1 hu2 hu3 HGL HLC H64 HV kc d r3 r4 HSM HCP HCOS cb TT MM EN _ w1 _ _ _ w3 i_ n_ AT cT AM cM g7 w7_ w7b_ oo aa HRS HTT HMM HEN _ HER HST ki HKI HCI w5 AT2 cT2 AM2 cM2 w6 _ _ _ w7 cB _ _ _ w8 cD w2 Ac cc w9 g19 w19_ w19b_ BF HB HTC HMC BX _ _ _ _ u21 u24 u25 _ _ _ _ _ _ _ _ _ _ _ u37 u38 u39 u40 u41 _ _ _ _ _ _ _ _ _ _ _ _ _ _ _ _ _ _ _ _ _ _ _ _ _ _ _ _ _ _ _ _ _ _ _ _ _ _ _ _ _ _ _ _ _ _ _ _ _ _ _ _ _ u192 _ _ _ _ _ _ _ _ _ _ _ _ _ _ _ _ _ _ _ _ _ _ _ _ _ _ _ _ _ _ _ _ _ _ _ _ _ _ _ _ _ _ _ _ _ _ _ _ _ _ _ _ _ _ _ _ _ _ _ _ _ _ _ _ _ _ _ _ _ _ _ _ _ _ _ _ _ _ _ _ _ _ _ _ _ _ _ _ _ _ _ _ _ _ _ _ _ _ _ _ _ _ _ _ _ _ _ _ _ _ _ _ _ _ _ _ _ _ _ _ _ _ _ _ _ _ _ _ _ _ _ _ _ _ _ _ _ _ _ _ _ i ad A1 c1 A3 c3 A4 c4 A5 c5 HC x0 x1 x2 x3 x4 x5 HXE HCO H64i HWO HFI HSN HBL HLT nx HNX hltb HWI ab HBA edd Bd dd HDC HCB HZD HCD p0 q0 _ _ _ w17 B1 d1 B3 d3 B4 d4 B5 d5 g24 w24_ w24b_ BO HL9 HRD HO1 HO3 HO4 HO5 HLW wc u139 u140 u141 u142 u143 u144 u145 u146 u147 u148 u149 u150 u151 u152 u153 u154 u155 u156 u157 u158 u159 u160 u161 u162 u163 u164 u165 u166 u167 u168 u169 u170 u171 u172 u173 u174 u175 u176 u177 u178 u179 u180 u181 u182 u183 u184 u185 u186 u187 u188 u189 u190 u191 _ _ _ _ _ _ _ _ _ _ _ _ _ _ _ _ _ _ _ _ _ _ _ _ _ _ _ _ _ _ _ _ _ _ _ _ _ _ _ _ _ _ _ _ _ _ _ _ _ _ _ _ _ _ _ _ _ _ _ _ _ _ _ _ _ _ _ _ _ _ _ _ _ _ _ _ _ _ _ _ _ _ _ _ _ _ _ _ _ _ _ _ _ _ _ _ _ _ _ _ _ _ _ _ _ _ _ u300 u301 u302 u303 u304 u305 u306 u307 u308 u309 u310 u311 u312 u313 u314 u315 u316 u317 u318 u319 u320 u321 u322 u323 u324 u325 u326 u327 u328 u329 u330 u331 u332 u333 hcut _ _ wr u6 u26 u27 u28 u29 u30 u31 u32 u33 u34 u35 u36 u193 u194 u195 u196 u197 u198 u199 u200 u201 u202 u203 u204 u205 u206 u207 u208 u209 u210 u211 u212 u213 u214 u215 u216 u217 u218 u219 u220 u221 u222 u223 u224 u225 u226 u227 u228 u229 u230 u231 u232 u233 u234 u235 u236 u237 u238 u239 u240 u241 u242 u243 u244 u245 u246 u247 u248 u249 u250 u251 u252 u253 u254 u255 u256 u257 u258 u259 u260 u261 u262 u263 u264 u265 u266 u267 u268 u269 u270 u271 u272 u273 u274 u275 u276 u277 u278 u279 u280 u281 u282 u283 u284 u285 u286 u287 u288 u289 u290 u291 u292 u293 u294 u295 u296 u297 u298 u299 k hkle HLI ho1 hlk
 obtain rfl : k = x1.length := by omega
 have hltk : decide ((x1.length : Int) < (x1.length : Int)) = false := by simp
 clear hlk hkle ho1
 have HL9n := Aside0.mk (below_then HL9.out HL9.out.size HLI.out); have HRDn := Aside0.mk (Kd.R_below HRD.out HLI.out); have HO1n := Aside0.mk (And.intro HO1.out.1 (And.intro HO1.out.2.1 (Kd.C_below HO1.out.2.2 HLI.out))); have HO3n := Aside0.mk (And.intro HO3.out.1 (And.intro HO3.out.2.1 (Kd.C_below HO3.out.2.2 HLI.out))); have HO4n := Aside0.mk (And.intro HO4.out.1 (And.intro HO4.out.2.1 (Kd.C_below HO4.out.2.2 HLI.out))); have HO5n := Aside0.mk (And.intro HO5.out.1 (And.intro HO5.out.2.1 (Kd.C_below HO5.out.2.2 HLI.out))); have BOn := Aside0.mk (blk_below BO.out HLI.out); clear HL9 HRD HO1 HO3 HO4 HO5 BO  HLI; have HL9 := HL9n; clear HL9n; have HRD := HRDn; clear HRDn; have HO1 := HO1n; clear HO1n; have HO3 := HO3n; clear HO3n; have HO4 := HO4n; clear HO4n; have HO5 := HO5n; clear HO5n; have BO := BOn; clear BOn
 have hb1 := HBL.out
 have hnx := HNX.out
 have hwn : wrap64 (nx + (x1.length : Int)) = ((baseL l i + x1.length : Nat) : Int) := by rw [wrap64_id (by omega) (by omega)]; omega
 have p3 : (0 : Int) ≤ wrap64 (nx + (x1.length : Int)) := by rw [hwn]; omega
 have q3 : wrap64 (nx + (x1.length : Int)) < (TT.length : Int) := by rw [hwn]; omega
 obtain ⟨at_, eat, hwc⟩ := Kd.at_int HTC.out.2.2 (wrap64 (nx + (x1.length : Int))) p3 q3
 subst eat
 have hW : rd TT (wrap64 (nx + (x1.length : Int))) = 0 := by
  rw [hwn, HST.out.tx]
  have h_ := fin_trap HST.out.lk HLT.out
  rw [HXE.out] at h_
  exact h_
 rw [hW] at hwc
 have HWC := Aside0.mk hwc
 replace hwc := pw_cell_below HL9.out HWC.out
 replace p3 := eq_true p3
 replace q3 := eq_true q3
 have HNN := Aside0.mk (show wrap64 (wrap64 (nx + (x1.length : Int)) + 1) = ((baseL l (i + 1) : Nat) : Int) by
  rw [hwn, wrap64_id (by omega) (by omega), baseL_succ, HXE.out]
  show ((baseL l i + x1.length : Nat) : Int) + 1 = ((baseL l i + x1.length + 1 : Nat) : Int)
  omega)
 clear hwn hW hb1 hnx
 have hx0 := blk_cell (blk_below BX.out HL9.out) 0
 have ho0 := blk_cell BO.out 0
 have ho1 := blk_cell BO.out 1
 have ho2 := blk_cell BO.out 2
 have ho3 := blk_cell BO.out 3
 have ho4 := blk_cell BO.out 4
 have ho5 := blk_cell BO.out 5
 have HCK := Aside0.mk (show object_Check.f x0 x1 x2 x3 x4 x5 = some (0, 0) by unfold object_Check.f; rw [if_pos HWO.out, HFI.out.chk])
 have HWK := Aside0.mk (HFI.out.wok HWO.out)
 obtain ⟨hrc, s_, hro⟩ := written_read x0 x1 x2 x3 x4 x5 HWK.out HFI.out.fewer H64i.out (by rw [HFI.out.chk])
 have hbyL := writeB_by x0 x1 x2 x3 x4 x5
 have hlenL : (writeB x0 x1 x2 x3 x4 x5).length ≤ 1000000000 := Nat.le_trans (writeB_short HWK.out) (by decide)
 obtain ⟨LL, hLL⟩ : ∃ LL, LL = writeB x0 x1 x2 x3 x4 x5 := ⟨_, rfl⟩
 rw [← hLL] at hrc hro hbyL hlenL
 have HLL := Aside0.mk hLL
 have HRC := Aside0.mk hrc
 have HRO := Aside0.mk hro
 have HBY := Aside0.mk hbyL
 have HLE := Aside0.mk hlenL
 clear hrc hro hbyL hlenL hLL
 go_upto_region 50 with (first | (go_at_call 9; refine (write_ok.calls x0 _ _ x1 x2 _ _ x3 _ _ x4 _ _ x5 _ 0 HO1.out.2.2 HO1.out.2.1 HO3.out.2.2 HO3.out.2.1 HO4.out.2.2 HO4.out.2.1 HO5.out.2.2 HO5.out.2.1 HCK.out HWK.out).mono ?_; rintro e_ w46 ⟨vb, rfl, hr_, hb_⟩; rw [← HLL.out] at hr_; obtain ⟨Ab, cb_, eb⟩ := Kd.R_slice hr_; subst eb; have HBk := Aside0.mk (Kd.R_reads' hr_); replace HL9 := Aside0.mk (below_then HL9.out HL9.out.size hb_); have HRDn := Aside0.mk (Kd.R_below HRD.out hb_); have HO1n := Aside0.mk (And.intro HO1.out.1 (And.intro HO1.out.2.1 (Kd.C_below HO1.out.2.2 hb_))); have HO3n := Aside0.mk (And.intro HO3.out.1 (And.intro HO3.out.2.1 (Kd.C_below HO3.out.2.2 hb_))); have HO4n := Aside0.mk (And.intro HO4.out.1 (And.intro HO4.out.2.1 (Kd.C_below HO4.out.2.2 hb_))); have HO5n := Aside0.mk (And.intro HO5.out.1 (And.intro HO5.out.2.1 (Kd.C_below HO5.out.2.2 hb_))); have BOn := Aside0.mk (blk_below BO.out hb_); clear HRD HO1 HO3 HO4 HO5 BO hwc hx0 ho0 ho1 ho2 ho3 ho4 ho5 hb_ hr_; have HRD := HRDn; clear HRDn; have HO1 := HO1n; clear HO1n; have HO3 := HO3n; clear HO3n; have HO4 := HO4n; clear HO4n; have HO5 := HO5n; clear HO5n; have BO := BOn; clear BOn; have hwc := pw_cell_below HL9.out HWC.out; have hx0 := blk_cell (blk_below BX.out HL9.out) 0; have ho0 := blk_cell BO.out 0; have ho1 := blk_cell BO.out 1; have ho2 := blk_cell BO.out 2; have ho3 := blk_cell BO.out 3; have ho4 := blk_cell BO.out 4; have ho5 := blk_cell BO.out 5; ) | (go_at_call 7; refine (wread.calls Ab cb_ LL _ HBk.out.2.2 HBk.out.2.1 (by have := HLE.out; omega) HBY.out (pw_cell_below (below_then HB.out HB.out.size HL9.out) HGL.out)).mono ?_; rintro e_ w47 ⟨ov, rfl, hb_, hok_, _⟩; obtain ⟨v1, v3, v4, v5, rfl, h1_, h3_, h4_, h5_⟩ := hok_ (by rw [HRC.out]); rw [HRO.out] at h1_ h3_ h4_ h5_ ⊢; rw [HRC.out]; obtain ⟨E1, f1_, e1_⟩ := Kd.R_slice h1_; obtain ⟨E3, f3_, e3_⟩ := Kd.R_slice h3_; obtain ⟨E4, f4_, e4_⟩ := Kd.R_slice h4_; obtain ⟨E5, f5_, e5_⟩ := Kd.R_slice h5_; subst e1_ e3_ e4_ e5_; have HE1 := Aside0.mk (Kd.R_lower h1_ HL9.out.size); have HE3 := Aside0.mk (Kd.R_lower h3_ HL9.out.size); have HE4 := Aside0.mk (Kd.R_lower h4_ HL9.out.size); have HE5 := Aside0.mk (Kd.R_lower h5_ HL9.out.size); clear hok_; replace HL9 := Aside0.mk (below_then HL9.out HL9.out.size hb_); have HRDn := Aside0.mk (Kd.R_below HRD.out hb_); have HO1n := Aside0.mk (And.intro HO1.out.1 (And.intro HO1.out.2.1 (Kd.C_below HO1.out.2.2 hb_))); have HO3n := Aside0.mk (And.intro HO3.out.1 (And.intro HO3.out.2.1 (Kd.C_below HO3.out.2.2 hb_))); have HO4n := Aside0.mk (And.intro HO4.out.1 (And.intro HO4.out.2.1 (Kd.C_below HO4.out.2.2 hb_))); have HO5n := Aside0.mk (And.intro HO5.out.1 (And.intro HO5.out.2.1 (Kd.C_below HO5.out.2.2 hb_))); have BOn := Aside0.mk (blk_below BO.out hb_); have HBkn := Aside0.mk (And.intro HBk.out.1 (And.intro HBk.out.2.1 (Kd.C_below HBk.out.2.2 hb_))); clear HRD HO1 HO3 HO4 HO5 BO HBk hwc hx0 ho0 ho1 ho2 ho3 ho4 ho5 hb_ h1_ h3_ h4_ h5_; have HRD := HRDn; clear HRDn; have HO1 := HO1n; clear HO1n; have HO3 := HO3n; clear HO3n; have HO4 := HO4n; clear HO4n; have HO5 := HO5n; clear HO5n; have BO := BOn; clear BOn; have HBk := HBkn; clear HBkn; have hwc := pw_cell_below HL9.out HWC.out; have hx0 := blk_cell (blk_below BX.out HL9.out) 0; have ho0 := blk_cell BO.out 0; have ho1 := blk_cell BO.out 1; have ho2 := blk_cell BO.out 2; have ho3 := blk_cell BO.out 3; have ho4 := blk_cell BO.out 4; have ho5 := blk_cell BO.out 5; ) | ((with_reducible refine gate_dst (N := 39) rfl ?_); refine box_event ?hg (N := 39) ?hd (cs := #[.string (⟨#[]⟩ : ByteArray), .slice none 0 0, .int .i64 0, .slice none 0 0, .slice none 0 0, .slice none 0 0]) (t := 27) ?hr ?_; (case hd => rfl); (case hg => rfl); (case hr => first | (go_simp; done) | (go_simp; rfl)); intro g39 hg_ w39_ BK_ hb_; have BZ := Aside0.mk BK_; have LZ := Aside0.mk hb_; have GZ := Aside0.mk (Nat.le_of_eq hg_.symm); clear BK_ hb_ hg_) | ((with_reducible refine gate_store (t := 27) rfl ?_); refine wpList_store_whole rfl rfl rfl g39 _ #[.string x0, .slice E1 x1.length f1_, .int .i64 x2, .slice E3 x3.length f3_, .slice E4 x4.length f4_, .slice E5 x5.length f5_] _ rfl rfl BZ.out (by kernel_rfl) rfl (obj_oneS _ _ _ _ _ _ _ _ _ _ _ _ _ _) ?_; intro w39b_ hp_; have hb_ := hp_.below LZ.out GZ.out; have BY := Aside0.mk hp_.blk; clear BZ LZ GZ hp_; replace HL9 := Aside0.mk (below_then HL9.out HL9.out.size hb_); have HRDn := Aside0.mk (Kd.R_below HRD.out hb_); have HO1n := Aside0.mk (And.intro HO1.out.1 (And.intro HO1.out.2.1 (Kd.C_below HO1.out.2.2 hb_))); have HO3n := Aside0.mk (And.intro HO3.out.1 (And.intro HO3.out.2.1 (Kd.C_below HO3.out.2.2 hb_))); have HO4n := Aside0.mk (And.intro HO4.out.1 (And.intro HO4.out.2.1 (Kd.C_below HO4.out.2.2 hb_))); have HO5n := Aside0.mk (And.intro HO5.out.1 (And.intro HO5.out.2.1 (Kd.C_below HO5.out.2.2 hb_))); have BOn := Aside0.mk (blk_below BO.out hb_); have HBkn := Aside0.mk (And.intro HBk.out.1 (And.intro HBk.out.2.1 (Kd.C_below HBk.out.2.2 hb_))); have HE1n := Aside0.mk (Kd.R_below HE1.out hb_); have HE3n := Aside0.mk (Kd.R_below HE3.out hb_); have HE4n := Aside0.mk (Kd.R_below HE4.out hb_); have HE5n := Aside0.mk (Kd.R_below HE5.out hb_); clear HRD HO1 HO3 HO4 HO5 BO HBk HE1 HE3 HE4 HE5 hwc hx0 ho0 ho1 ho2 ho3 ho4 ho5 hb_; have HRD := HRDn; clear HRDn; have HO1 := HO1n; clear HO1n; have HO3 := HO3n; clear HO3n; have HO4 := HO4n; clear HO4n; have HO5 := HO5n; clear HO5n; have BO := BOn; clear BOn; have HBk := HBkn; clear HBkn; have HE1 := HE1n; clear HE1n; have HE3 := HE3n; clear HE3n; have HE4 := HE4n; clear HE4n; have HE5 := HE5n; clear HE5n; have hwc := pw_cell_below HL9.out HWC.out; have hx0 := blk_cell (blk_below BX.out HL9.out) 0; have ho0 := blk_cell BO.out 0; have ho1 := blk_cell BO.out 1; have ho2 := blk_cell BO.out 2; have ho3 := blk_cell BO.out 3; have ho4 := blk_cell BO.out 4; have ho5 := blk_cell BO.out 5; have hy0 := blk_cell BY.out 0; have hy1 := blk_cell BY.out 1; have hy2 := blk_cell BY.out 2; have hy3 := blk_cell BY.out 3; have hy4 := blk_cell BY.out 4; have hy5 := blk_cell BY.out 5))
 obtain ⟨Ar, cr, er⟩ := Kd.R_slice HRD.out
 subst er
 have hxl : (l.take i).length = i := by rw [List.length_take]; have := HLT.out; omega
 obtain ⟨XL, hXL⟩ : ∃ XL, l.take i = XL := ⟨_, rfl⟩
 rw [hXL] at HRD hxl ⊢
 have HXL := Aside0.mk hXL
 have HXN := Aside0.mk hxl
 clear hXL hxl
 go_wp2_with (first | (at_builtin; go_loud (refine Kd.R_append k27 (w0 := w19b_) w19b_.heap.size rfl (.tmp 330) (.tmp 332) 43 27 (.agg #[(.string ⟨#[]⟩), (.slice none 0 0), (.int .i64 0), (.slice none 0 0), (.slice none 0 0), (.slice none 0 0)]) 120 rfl Tryd.underlying43 info_objL rfl (by decide) (by omega) (.slice Ar XL.length cr) XL (⟨x0, x1, x2, x3, x4, x5⟩ : ObjT) [.string x0, .slice E1 x1.length f1_, .int .i64 x2, .slice E3 x3.length f3_, .slice E4 x4.length f4_, .slice E5 x5.length f5_] (fun _ => True) (fun k_ => True ∧ some k_ ≠ (Value.slice Ar XL.length cr).ownBlock) rfl rfl ?aP (fun k_ hk => hk) (fun _ _ => trivial) HRD.out HL9.out HL9.out.size ?aL ?_; (case aP => exact k27_mkM _ _ _ (⟨x0, x1, x2, x3, x4, x5⟩ : ObjT) (Kd.R_apart' (HE1.out) (Kd.R_typed HRD.out) (by decide)) (Kd.R_apart' (HE3.out) (Kd.R_typed HRD.out) (by decide)) (Kd.R_apart' (HE4.out) (Kd.R_typed HRD.out) (by decide)) (Kd.R_apart' (HE5.out) (Kd.R_typed HRD.out) (by decide))); (case aL => have := HXN.out; have := HLT.out; have := HST.out.lk.len; omega); intro vr wr3 hro_ hbr_ _ _; have HRN := Aside0.mk hro_; have HLN := Aside0.mk hbr_; clear hro_ hbr_)))
 have HRF := Aside0.mk (show Kd.R k27 27 wr3 w19b_.heap.size (fun _ => True) vr (l.take (i + 1)) by rw [take_ob HLT.out, HXL.out, HXE.out]; exact HRN.out)
 go_roundw
 case measure => have hq := HLT.out; (try rw [HWI.out]); simp only [intOf]; omega
 case rel => exact ⟨i + 1, vr, rfl, by rw [HNN.out], by first | rfl | (rw [HWI.out]; done), HLT.out, HLN, HRF⟩
end Go.Proofs.YtiaohbbafaaibabDoor.P

/- OWN TEXT: the law LinkStands, walked: put together. -/
namespace Go.Proofs.YtiaohbbafaaibabDoor.P
open Go.RowKit Go.Maps Go.Proofs.YtiaohbbafaaibabDoorW.PrintWords Go.Proofs.YtiaohbbafaaibabDoorW.PrintLast Go.Proofs.YtiaohbbafaaibabDoorW.PrintMore Go.Proofs.YtiaohbbafaaibabDoor.Arr Go.Proofs.YtiaohbbafaaibabDoor.MapB Go.Proofs.YtiaohbbafaaibabDoor.SymM
set_option linter.unusedVariables false
set_option linter.unusedSimpArgs false
theorem stand.walk (A0 : Option Addr) (c0 : Nat) (l : List ObjT) (entry : ByteArray) (mem : Int) (w : World) (hC : Kd.C k27 w A0 l.length l) (hlc : l.length ≤ c0) (hgl : w.cell? ⟨0, 0, none⟩ = some (.iface 161 (.agg #[.pointer (some ⟨1, 79, none⟩)]))) (kh : Nat) (hv : Bool) (hhv : pleatlaw09_heavy.f kh l = some hv)
  (hlite : hv = false → Small l ∧ (∃ kc d r2 r3 r4, pleatref00_CopyObjects.f kc l = some l ∧ resolveR l = some (d, r2, r3, r4)) ∧ ∀ i, i < l.length → pleatref00_CopyObject.f (ob l i).f0 (ob l i).f1 (ob l i).f2 (ob l i).f3 (ob l i).f4 (ob l i).f5 = some ((ob l i).f0, (ob l i).f1, (ob l i).f2, (ob l i).f3, (ob l i).f4, (ob l i).f5))
  (h64 : ∀ i, i < l.length → ∀ x ∈ (ob l i).f3, -9223372036854775808 ≤ x ∧ x < 9223372036854775808) :
  Calls Tryd.prog 4 #[.slice A0 l.length c0, .string entry, .int .i64 mem] w fun e w' => e = .returned (.bool true) ∧ Below w.heap.size w w' :=
 standA.2 ⟨standB.2.2.2 ⟨stand18⟩ ⟨standW⟩ ⟨standK⟩⟩ A0 c0 l entry mem w hC hlc hgl kh hv hhv hlite h64
end Go.Proofs.YtiaohbbafaaibabDoor.P

/- OWN TEXT: an argument of whatever plain type (whole numbers, bools, strings, slices, structs of these), read as a value of the print's own kinds. -/
set_option linter.unusedVariables false
set_option linter.unusedSimpArgs false
namespace Go.Proofs.YtiaohbbafaaibabDoor.Opn
open Go.ChangeShapes Go.WideShapes Go.Deep Go.RowKit Go.Proofs.YtiaohbbafaaibabDoorW.PrintWords

def Opens (P : Program) (t : TypeId) {α : Type} (d : Kd α) (wf : α → Prop) : Prop :=
 P.cellsOf t = d.sz ∧ ∀ (H : Type) (enc : TypeId × Value → H) (w : World) (base : Nat) (spare : Nat → Bool) (held : Bool) (fuel : Nat) (cs : List Value) (x : DataW H × List MemPlace),
  DataW.trod enc P w base spare held fuel t cs = some x → (∀ n ∈ x.1.weights P t, n ≤ reachBytes) → ∃ a : α, d.K w a cs ∧ wf a

theorem Opens.int {P : Program} {t : TypeId} {k : IntKind} (hc : P.cellsOf t = 1) (hu : P.underlying t = some (.int k)) : Opens P t (Kd.int k) (fun n => (Lit.int k n).wf = true) :=
 ⟨hc, fun H enc w base spare held fuel cs x h _ => by
  obtain ⟨n, rfl, rfl, hw⟩ := DataW.trod_int hu h
  exact ⟨n, rfl, hw⟩⟩
theorem Opens.bool {P : Program} {t : TypeId} (hc : P.cellsOf t = 1) (hu : P.underlying t = some .bool) : Opens P t Kd.bool (fun _ => True) :=
 ⟨hc, fun H enc w base spare held fuel cs x h _ => by
  obtain ⟨b, rfl, rfl⟩ := DataW.trod_bool hu h
  exact ⟨b, rfl, trivial⟩⟩
theorem Opens.string {P : Program} {t : TypeId} (hc : P.cellsOf t = 1) (hu : P.underlying t = some .string) : Opens P t Kd.string (fun s => s.size ≤ 140737488351232) :=
 ⟨hc, fun H enc w base spare held fuel cs x h hz => by
  obtain ⟨s, rfl, rfl, _⟩ := DataW.trod_string hu h
  have := hz s.data.toList.length (by simp [DataW.weights])
  rw [Array.length_toList] at this
  exact ⟨s, rfl, this⟩⟩

theorem weightsAll_mem {H : Type} {P : Program} {e : TypeId} : ∀ {l : List (DataW H)} {d : DataW H}, d ∈ l → ∀ n ∈ d.weights P e, n ∈ DataW.weightsAll P e l
  | d0 :: r, d, hd, n, hn => by
    simp only [DataW.weightsAll, List.mem_append]
    rcases List.mem_cons.1 hd with rfl | hd
    · exact .inl hn
    · exact .inr (weightsAll_mem hd n hn)

theorem Opens.slice {P : Program} {t e : TypeId} {α : Type} {d : Kd α} {wf : α → Prop} {B : Nat} (hc : P.cellsOf t = 1) (hu : P.underlying t = some (.slice e)) (hB : P.bytesOf e = B) (he : Opens P e d wf) :
  Opens P t (Kd.slice e d) (fun l => l.length ≤ 9223372036854775807 ∧ l.length * B ≤ 140737488351232 ∧ ∀ x ∈ l, wf x) :=
 ⟨hc, fun H enc w base spare held fuel cs x h hz => by
  rcases open_slice hu h with ⟨rfl, rfl⟩ | ⟨a, len, cap, m, n, D, Pl, rfl, hb, hl, hm, hmm, rfl, hi⟩
  ·
   exact ⟨[], ⟨none, 0, rfl, Nat.le_refl _, rfl, by simp, fun h => absurd h (Nat.lt_irrefl 0)⟩, by simp, by simp, fun x hx => by cases hx⟩
  ·
   have hlm : len ≤ m := by rw [hmm]; split <;> omega
   have hw0 : ∀ n ∈ (DataW.slice ((List.range len).map D) ((List.range (m - len)).map fun j => D (len + j))).weights P t, n ≤ reachBytes := hz
   have h1 : (len + (m - len)) * P.bytesOf e ≤ reachBytes := by
    have := hw0 _ (by simp only [DataW.weights, hu]; exact List.mem_cons_self)
    simpa using this
   have hel : ∀ i, i < len → ∃ (a' : α) (c : List Value), w.cells? base (a.add (i * P.cellsOf e)) (P.cellsOf e) = some c ∧ d.K w a' c ∧ wf a' := fun i hi' => by
    obtain ⟨c, hcc, ht⟩ := hi i (Nat.lt_of_lt_of_le hi' hlm)
    obtain ⟨a', hk, hwf⟩ := he.2 H enc w base spare held n c _ ht (fun q hq => hw0 q (by
     simp only [DataW.weights, hu]
     exact List.mem_cons_of_mem _ (List.mem_append_left _ (weightsAll_mem (List.mem_map.2 ⟨i, List.mem_range.2 hi', rfl⟩) q hq))))
    exact ⟨a', c, hcc, hk, hwf⟩
   have hl' : ∃ l : List α, l.length = len ∧ ∀ i x, l[i]? = some x → ∃ c, w.cells? base (a.add (i * P.cellsOf e)) (P.cellsOf e) = some c ∧ d.K w x c ∧ wf x := by
    clear hw0 h1 hi hlm hl hz hmm h
    induction len with
    | zero => exact ⟨[], rfl, fun i x hx => by simp at hx⟩
    | succ len ih =>
     obtain ⟨l, hl, hp⟩ := ih (fun i hi => hel i (Nat.lt_succ_of_lt hi))
     obtain ⟨a', c, h1, h2, h3⟩ := hel len (Nat.lt_succ_self len)
     refine ⟨l ++ [a'], by simp [hl], fun i x hx => ?_⟩
     rcases Nat.lt_or_ge i l.length with h | h
     ·
      rw [List.getElem?_append_left h] at hx
      exact hp i x hx
     ·
      rw [List.getElem?_append_right h] at hx
      have hi0 : i - l.length = 0 := by
       rcases Nat.eq_zero_or_pos (i - l.length) with h0 | h0
       ·
        exact h0
       ·
        rw [List.getElem?_eq_none (by simp; omega)] at hx; cases hx
      rw [hi0] at hx
      simp at hx
      subst hx
      obtain rfl : i = len := by omega
      exact ⟨c, h1, h2, h3⟩
   obtain ⟨l, hll, hp⟩ := hl'
   subst hll
   refine ⟨l, ⟨some a, cap, rfl, hl, rfl, by simp only [maxLen] at hm; omega, fun _ => ⟨a, rfl, fun j p hj => ?_⟩⟩, ?_, ?_, ?_⟩
   ·
    obtain ⟨c, h1, h2, _⟩ := hp j p hj
    obtain ⟨_, hcl, hcell⟩ := World.cells?_some h1
    refine ⟨c, by rw [hcl, he.1], h2, fun i u hu' => ?_⟩
    have hi2 : i < P.cellsOf e := by
     rw [← hcl]
     exact (List.getElem?_eq_some_iff.1 hu').1
    rw [← he.1, ← Go.Deep.add_add, hcell i hi2, hu']
   ·
    simp only [maxLen] at hm; omega
   ·
    rw [← hB]
    refine Nat.le_trans (Nat.mul_le_mul_right _ (show l.length ≤ l.length + (m - l.length) by omega)) ?_
    exact h1
   ·
    intro x hx
    obtain ⟨i, hi'⟩ := List.getElem?_of_mem hx
    obtain ⟨_, _, _, h3⟩ := hp i x hi'
    exact h3⟩

def OpensF (P : Program) (fs : List Field) (off : Nat) {α : Type} (d : Kd α) (wf : α → Prop) : Prop :=
 (fs.map fun f => P.cellsOf f.type).sum = d.sz ∧ ∀ (H : Type) (enc : TypeId × Value → H) (w : World) (base : Nat) (spare : Nat → Bool) (held : Bool) (fuel : Nat) (cs : List Value) (xs : List (DataW H × List MemPlace)),
  cs.length = off + d.sz → xs.length = fs.length → (∀ (i : Nat) (f : Field), fs[i]? = some f → DataW.trod enc P w base spare held fuel f.type ((cs.drop f.offset).take (P.cellsOf f.type)) = xs[i]?) →
  (∀ n ∈ DataW.weightsEach P (fs.map (·.type)) (xs.map (·.1)), n ≤ reachBytes) → ∃ a : α, d.K w a (cs.drop off) ∧ wf a

theorem OpensF.one {P : Program} {f : Field} {off : Nat} {α : Type} {d : Kd α} {wf : α → Prop} (ho : f.offset = off) (h : Opens P f.type d wf) : OpensF P [f] off d wf := by
 refine ⟨by simp [h.1], fun H enc w base spare held fuel cs xs hl hx hf hz => ?_⟩
 match xs, hx with
 | [x], _ =>
  have h0 := hf 0 f rfl
  rw [ho, h.1, List.take_of_length_le (by rw [List.length_drop]; omega)] at h0
  exact h.2 H enc w base spare held fuel _ x h0 (fun n hn => hz n (by simp only [List.map_cons, DataW.weightsEach, List.mem_append]; exact .inl hn))

theorem OpensF.cons {P : Program} {f : Field} {fs : List Field} {off : Nat} {α β : Type} {d : Kd α} {d' : Kd β} {wf : α → Prop} {wf' : β → Prop} (ho : f.offset = off) (h : Opens P f.type d wf) (hs : OpensF P fs (off + d.sz) d' wf') :
  OpensF P (f :: fs) off (Kd.pair d d') (fun x => wf x.1 ∧ wf' x.2) := by
 refine ⟨by simp [h.1, hs.1, Kd.pair], fun H enc w base spare held fuel cs xs hl hx hf hz => ?_⟩
 match xs, hx with
 | x :: xs, hx =>
  have hsz : (Kd.pair d d').sz = d.sz + d'.sz := rfl
  have h0 := hf 0 f rfl
  rw [ho, h.1] at h0
  obtain ⟨a, hk, hw⟩ := h.2 H enc w base spare held fuel _ x h0 (fun n hn => hz n (by simp only [List.map_cons, DataW.weightsEach, List.mem_append]; exact .inl hn))
  obtain ⟨b, hk', hw'⟩ := hs.2 H enc w base spare held fuel cs xs (by omega) (by simpa using hx) (fun i g hg => hf (i + 1) g hg) (fun n hn => hz n (by simp only [List.map_cons, DataW.weightsEach, List.mem_append]; exact .inr hn))
  exact ⟨(a, b), ⟨(cs.drop off).take d.sz, cs.drop (off + d.sz), by rw [← List.drop_drop, List.take_append_drop], hk, hk'⟩, hw, hw'⟩

theorem Opens.struct {P : Program} {t : TypeId} {fs : Array Field} {α β : Type} {d : Kd α} {wf : α → Prop} (f : β → α) (g : α → β) (hfg : ∀ a, f (g a) = a) (hc : P.cellsOf t = d.sz) (hu : P.underlying t = some (.struct fs)) (h : OpensF P fs.toList 0 d wf) :
  Opens P t (Kd.iso d f) (fun x => wf (f x)) := by
 refine ⟨hc, fun H enc w base spare held fuel cs x hx hz => ?_⟩
 obtain ⟨xs, n, rfl, rfl, hl, hlen, hf⟩ := DataW.trod_struct hu hx
 obtain ⟨a, hk, hw⟩ := h.2 H enc w base spare held n cs xs (by omega) (by simpa using hlen) (fun i fl hfl => hf i fl (by simpa using hfl)) (fun q hq => hz q (by simp only [DataW.weights, hu]; exact hq))
 refine ⟨g a, ?_, by show wf (f (g a)); rw [hfg]; exact hw⟩
 show d.K w (f (g a)) cs
 rw [hfg]
 simpa using hk

theorem Opens.arg {P : Program} {t : TypeId} {α : Type} {d : Kd α} {wf : α → Prop} (ho : Opens P t d wf) {H : Type} {enc : TypeId × Value → H} {ts : List TypeId} {ds : List (DataW H)} {w : World} {base : Nat} {spare : Nat → Bool} {held : Bool} {v : Value} {x : DataW H} {ps : List MemPlace} {j : Nat}
  (hsz : (DataW.weightsEach P ts ds).all (· ≤ reachBytes) = true) (ht : ts[j]? = some t) (hd : ds[j]? = some x) (h : DataW.Trod enc P w base spare held t v x ps) : ∃ a : α, d.K w a v.cells.toList ∧ wf a := by
 obtain ⟨fuel, hf⟩ := h
 refine ho.2 H enc w base spare held fuel _ _ hf (fun n hn => ?_)
 have := List.all_eq_true.1 hsz _ (DataW.weights_mem_each ht hd n hn)
 simpa using this

theorem slice_of {P : Program} {w : World} {r : Reach} {b0 : Nat} {t e : TypeId} {v : Value} {u : Value} (hs : P.underlying t = some (.slice e)) (hv : Value.okWide P w r b0 t v) (h : v.cells.toList = [u]) : v = u := by
 obtain ⟨a, len, cap, rfl⟩ := okWide_slice hs hv
 simpa [Value.cells] using h

end Go.Proofs.YtiaohbbafaaibabDoor.Opn

/- OWN TEXT, written by rows.py: what an argument of each parameter type of this seat's laws reads as. -/
namespace Go.Proofs.YtiaohbbafaaibabDoor.P
open Go.RowKit Go.Proofs.YtiaohbbafaaibabDoorW.PrintWords Go.Proofs.YtiaohbbafaaibabDoorW.PrintLast Go.Proofs.YtiaohbbafaaibabDoorW.PrintMore Go.Proofs.YtiaohbbafaaibabDoor.Opn
set_option linter.unusedVariables false
set_option linter.unusedSimpArgs false
theorem opn9 : Opens Tryd.prog 9 Kd.string (fun s => s.size ≤ 140737488351232) := Opens.string (by kernel_rfl) Tryd.underlying9
theorem opn63 : Opens Tryd.prog 63 (Kd.int .u32) (fun n => (Lit.int .u32 n).wf = true) := Opens.int (by kernel_rfl) Tryd.underlying63
theorem opn22 : Opens Tryd.prog 22 (Kd.slice 63 (Kd.int .u32)) (fun l => l.length ≤ 9223372036854775807 ∧ l.length * 4 ≤ 140737488351232 ∧ ∀ y ∈ l, (Lit.int .u32 y).wf = true) := Opens.slice (by kernel_rfl) Tryd.underlying22 (by kernel_rfl) opn63
theorem opn3 : Opens Tryd.prog 3 (Kd.int .i64) (fun n => (Lit.int .i64 n).wf = true) := Opens.int (by kernel_rfl) Tryd.underlying3
theorem opn2 : Opens Tryd.prog 2 (Kd.int .i64) (fun n => (Lit.int .i64 n).wf = true) := Opens.int (by kernel_rfl) Tryd.underlying2
theorem opn23 : Opens Tryd.prog 23 (Kd.slice 2 (Kd.int .i64)) (fun l => l.length ≤ 9223372036854775807 ∧ l.length * 8 ≤ 140737488351232 ∧ ∀ y ∈ l, (Lit.int .i64 y).wf = true) := Opens.slice (by kernel_rfl) Tryd.underlying23 (by kernel_rfl) opn2
theorem opn73 : Opens Tryd.prog 73 (Kd.int .i8) (fun n => (Lit.int .i8 n).wf = true) := Opens.int (by kernel_rfl) Tryd.underlying73
def wf75 (x : S75) : Prop := (x.f0.size ≤ 140737488351232) ∧ ((Lit.int .i8 x.f1).wf = true) ∧ ((Lit.int .i64 x.f2).wf = true)
set_option maxRecDepth 100000 in
theorem opn75 : Opens Tryd.prog 75 k75 wf75 := by
 refine Opens.struct (d := (Kd.pair Kd.string (Kd.pair (Kd.int .i8) (Kd.int .i64)))) (wf := (fun p : (ByteArray) × (Int) × (Int) => (p.1.size ≤ 140737488351232) ∧ ((Lit.int .i8 p.2.1).wf = true) ∧ ((Lit.int .i64 p.2.2).wf = true))) (fun x : S75 => (x.f0, x.f1, x.f2)) (fun p => ⟨p.1, p.2.1, p.2.2⟩) (fun _ => rfl) (by kernel_rfl) Tryd.underlying75 ?_
 refine OpensF.cons (d := Kd.string) (d' := (Kd.pair (Kd.int .i8) (Kd.int .i64))) (wf := (fun p : ByteArray => p.size ≤ 140737488351232)) (wf' := (fun p : (Int) × (Int) => ((Lit.int .i8 p.1).wf = true) ∧ ((Lit.int .i64 p.2).wf = true))) rfl opn9 ?_
 refine OpensF.cons (d := (Kd.int .i8)) (d' := (Kd.int .i64)) (wf := (fun p : Int => (Lit.int .i8 p).wf = true)) (wf' := (fun p : (Int) => ((Lit.int .i64 p).wf = true))) rfl opn73 ?_
 exact OpensF.one rfl opn3
theorem opn24 : Opens Tryd.prog 24 (Kd.slice 75 k75) (fun l => l.length ≤ 9223372036854775807 ∧ l.length * 32 ≤ 140737488351232 ∧ ∀ y ∈ l, wf75 y) := Opens.slice (by kernel_rfl) Tryd.underlying24 (by kernel_rfl) opn75
def wf68 (x : S68) : Prop := ((Lit.int .i64 x.f0).wf = true) ∧ ((Lit.int .i64 x.f1).wf = true)
set_option maxRecDepth 100000 in
theorem opn68 : Opens Tryd.prog 68 k68 wf68 := by
 refine Opens.struct (d := (Kd.pair (Kd.int .i64) (Kd.int .i64))) (wf := (fun p : (Int) × (Int) => ((Lit.int .i64 p.1).wf = true) ∧ ((Lit.int .i64 p.2).wf = true))) (fun x : S68 => (x.f0, x.f1)) (fun p => ⟨p.1, p.2⟩) (fun _ => rfl) (by kernel_rfl) Tryd.underlying68 ?_
 refine OpensF.cons (d := (Kd.int .i64)) (d' := (Kd.int .i64)) (wf := (fun p : Int => (Lit.int .i64 p).wf = true)) (wf' := (fun p : (Int) => ((Lit.int .i64 p).wf = true))) rfl opn3 ?_
 exact OpensF.one rfl opn3
theorem opn25 : Opens Tryd.prog 25 (Kd.slice 68 k68) (fun l => l.length ≤ 9223372036854775807 ∧ l.length * 16 ≤ 140737488351232 ∧ ∀ y ∈ l, wf68 y) := Opens.slice (by kernel_rfl) Tryd.underlying25 (by kernel_rfl) opn68
def wf27 (x : S27) : Prop := (x.f0.size ≤ 140737488351232) ∧ (x.f1.length ≤ 9223372036854775807 ∧ x.f1.length * 4 ≤ 140737488351232 ∧ ∀ y ∈ x.f1, (Lit.int .u32 y).wf = true) ∧ ((Lit.int .i64 x.f2).wf = true) ∧ (x.f3.length ≤ 9223372036854775807 ∧ x.f3.length * 8 ≤ 140737488351232 ∧ ∀ y ∈ x.f3, (Lit.int .i64 y).wf = true) ∧ (x.f4.length ≤ 9223372036854775807 ∧ x.f4.length * 32 ≤ 140737488351232 ∧ ∀ y ∈ x.f4, wf75 y) ∧ (x.f5.length ≤ 9223372036854775807 ∧ x.f5.length * 16 ≤ 140737488351232 ∧ ∀ y ∈ x.f5, wf68 y)
set_option maxRecDepth 100000 in
theorem opn27 : Opens Tryd.prog 27 k27 wf27 := by
 refine Opens.struct (d := (Kd.pair Kd.string (Kd.pair (Kd.slice 63 (Kd.int .u32)) (Kd.pair (Kd.int .i64) (Kd.pair (Kd.slice 2 (Kd.int .i64)) (Kd.pair (Kd.slice 75 k75) (Kd.slice 68 k68))))))) (wf := (fun p : (ByteArray) × (List Int) × (Int) × (List Int) × (List (S75)) × (List (S68)) => (p.1.size ≤ 140737488351232) ∧ (p.2.1.length ≤ 9223372036854775807 ∧ p.2.1.length * 4 ≤ 140737488351232 ∧ ∀ y ∈ p.2.1, (Lit.int .u32 y).wf = true) ∧ ((Lit.int .i64 p.2.2.1).wf = true) ∧ (p.2.2.2.1.length ≤ 9223372036854775807 ∧ p.2.2.2.1.length * 8 ≤ 140737488351232 ∧ ∀ y ∈ p.2.2.2.1, (Lit.int .i64 y).wf = true) ∧ (p.2.2.2.2.1.length ≤ 9223372036854775807 ∧ p.2.2.2.2.1.length * 32 ≤ 140737488351232 ∧ ∀ y ∈ p.2.2.2.2.1, wf75 y) ∧ (p.2.2.2.2.2.length ≤ 9223372036854775807 ∧ p.2.2.2.2.2.length * 16 ≤ 140737488351232 ∧ ∀ y ∈ p.2.2.2.2.2, wf68 y))) (fun x : S27 => (x.f0, x.f1, x.f2, x.f3, x.f4, x.f5)) (fun p => ⟨p.1, p.2.1, p.2.2.1, p.2.2.2.1, p.2.2.2.2.1, p.2.2.2.2.2⟩) (fun _ => rfl) (by kernel_rfl) Tryd.underlying27 ?_
 refine OpensF.cons (d := Kd.string) (d' := (Kd.pair (Kd.slice 63 (Kd.int .u32)) (Kd.pair (Kd.int .i64) (Kd.pair (Kd.slice 2 (Kd.int .i64)) (Kd.pair (Kd.slice 75 k75) (Kd.slice 68 k68)))))) (wf := (fun p : ByteArray => p.size ≤ 140737488351232)) (wf' := (fun p : (List Int) × (Int) × (List Int) × (List (S75)) × (List (S68)) => (p.1.length ≤ 9223372036854775807 ∧ p.1.length * 4 ≤ 140737488351232 ∧ ∀ y ∈ p.1, (Lit.int .u32 y).wf = true) ∧ ((Lit.int .i64 p.2.1).wf = true) ∧ (p.2.2.1.length ≤ 9223372036854775807 ∧ p.2.2.1.length * 8 ≤ 140737488351232 ∧ ∀ y ∈ p.2.2.1, (Lit.int .i64 y).wf = true) ∧ (p.2.2.2.1.length ≤ 9223372036854775807 ∧ p.2.2.2.1.length * 32 ≤ 140737488351232 ∧ ∀ y ∈ p.2.2.2.1, wf75 y) ∧ (p.2.2.2.2.length ≤ 9223372036854775807 ∧ p.2.2.2.2.length * 16 ≤ 140737488351232 ∧ ∀ y ∈ p.2.2.2.2, wf68 y))) rfl opn9 ?_
 refine OpensF.cons (d := (Kd.slice 63 (Kd.int .u32))) (d' := (Kd.pair (Kd.int .i64) (Kd.pair (Kd.slice 2 (Kd.int .i64)) (Kd.pair (Kd.slice 75 k75) (Kd.slice 68 k68))))) (wf := (fun p : List Int => p.length ≤ 9223372036854775807 ∧ p.length * 4 ≤ 140737488351232 ∧ ∀ y ∈ p, (Lit.int .u32 y).wf = true)) (wf' := (fun p : (Int) × (List Int) × (List (S75)) × (List (S68)) => ((Lit.int .i64 p.1).wf = true) ∧ (p.2.1.length ≤ 9223372036854775807 ∧ p.2.1.length * 8 ≤ 140737488351232 ∧ ∀ y ∈ p.2.1, (Lit.int .i64 y).wf = true) ∧ (p.2.2.1.length ≤ 9223372036854775807 ∧ p.2.2.1.length * 32 ≤ 140737488351232 ∧ ∀ y ∈ p.2.2.1, wf75 y) ∧ (p.2.2.2.length ≤ 9223372036854775807 ∧ p.2.2.2.length * 16 ≤ 140737488351232 ∧ ∀ y ∈ p.2.2.2, wf68 y))) rfl opn22 ?_
 refine OpensF.cons (d := (Kd.int .i64)) (d' := (Kd.pair (Kd.slice 2 (Kd.int .i64)) (Kd.pair (Kd.slice 75 k75) (Kd.slice 68 k68)))) (wf := (fun p : Int => (Lit.int .i64 p).wf = true)) (wf' := (fun p : (List Int) × (List (S75)) × (List (S68)) => (p.1.length ≤ 9223372036854775807 ∧ p.1.length * 8 ≤ 140737488351232 ∧ ∀ y ∈ p.1, (Lit.int .i64 y).wf = true) ∧ (p.2.1.length ≤ 9223372036854775807 ∧ p.2.1.length * 32 ≤ 140737488351232 ∧ ∀ y ∈ p.2.1, wf75 y) ∧ (p.2.2.length ≤ 9223372036854775807 ∧ p.2.2.length * 16 ≤ 140737488351232 ∧ ∀ y ∈ p.2.2, wf68 y))) rfl opn3 ?_
 refine OpensF.cons (d := (Kd.slice 2 (Kd.int .i64))) (d' := (Kd.pair (Kd.slice 75 k75) (Kd.slice 68 k68))) (wf := (fun p : List Int => p.length ≤ 9223372036854775807 ∧ p.length * 8 ≤ 140737488351232 ∧ ∀ y ∈ p, (Lit.int .i64 y).wf = true)) (wf' := (fun p : (List (S75)) × (List (S68)) => (p.1.length ≤ 9223372036854775807 ∧ p.1.length * 32 ≤ 140737488351232 ∧ ∀ y ∈ p.1, wf75 y) ∧ (p.2.length ≤ 9223372036854775807 ∧ p.2.length * 16 ≤ 140737488351232 ∧ ∀ y ∈ p.2, wf68 y))) rfl opn23 ?_
 refine OpensF.cons (d := (Kd.slice 75 k75)) (d' := (Kd.slice 68 k68)) (wf := (fun p : List (S75) => p.length ≤ 9223372036854775807 ∧ p.length * 32 ≤ 140737488351232 ∧ ∀ y ∈ p, wf75 y)) (wf' := (fun p : (List (S68)) => (p.length ≤ 9223372036854775807 ∧ p.length * 16 ≤ 140737488351232 ∧ ∀ y ∈ p, wf68 y))) rfl opn24 ?_
 exact OpensF.one rfl opn25
end Go.Proofs.YtiaohbbafaaibabDoor.P

/- OWN TEXT: what the condition gives the law of link, over plain lists of objects. -/
set_option linter.unusedVariables false
set_option linter.unusedSimpArgs false
namespace Go.Proofs.YtiaohbbafaaibabDoor.P
open Go.RowKit Go.Maps Go.Proofs.YtiaohbbafaaibabDoorW.PrintWords Go.Proofs.YtiaohbbafaaibabDoorW.PrintLast Go.Proofs.YtiaohbbafaaibabDoorW.PrintMore Go.Proofs.YtiaohbbafaaibabDoor.Opn Go.Proofs.YtiaohbbafaaibabDoor.Arr Go.Proofs.YtiaohbbafaaibabDoor.MapB Go.Proofs.YtiaohbbafaaibabDoor.SymM
theorem ob_mem9 {l : List ObjT} {p : Nat} (h : p < l.length) : ob l p ∈ l := by
 have : ob l p = l[p] := by
  unfold ob rd_T27
  rw [Int.toNat_natCast, List.getD_eq_getElem?_getD, List.getElem?_eq_getElem h]
  rfl
 rw [this]
 exact List.getElem_mem h
theorem sy_mem9 {l : List Sym} {p : Nat} (h : p < l.length) : sy l p ∈ l := by
 rw [sy_at h]
 exact List.getElem_mem h
theorem bits_of9 {l : List ObjT} (h : ∀ y ∈ l, wf27 y) : Bits l ∧ (∀ p, p < l.length → wordsO (ob l p).f1 = true) ∧ ∀ i, i < l.length → ∀ x ∈ (ob l i).f3, -9223372036854775808 ≤ x ∧ x < 9223372036854775808 := by
 have hx : ∀ p, p < l.length → wf27 (ob l p) := fun p hp => h _ (ob_mem9 hp)
 refine ⟨⟨fun p hp => (hx p hp).1, fun p hp => ?_, fun p hp => ?_, fun p hp => ?_, fun p hp => ?_, fun p hp q hq => ?_⟩, fun p hp => ?_, fun p hp x hxm => ?_⟩
 ·
  have := (hx p hp).2.1.2.1; omega
 ·
  have := (hx p hp).2.2.2.1.2.1; omega
 ·
  have := (hx p hp).2.2.2.2.1.2.1; omega
 ·
  have := (hx p hp).2.2.2.2.2.2.1; omega
 ·
  exact ((hx p hp).2.2.2.2.1.2.2 _ (sy_mem9 hq)).1
 ·
  unfold wordsO
  rw [List.all_eq_true]
  intro y hy
  have := wf_u32 ((hx p hp).2.1.2.2 y hy)
  rw [Bool.and_eq_true, decide_eq_true_eq, decide_eq_true_eq]
  omega
 ·
  have := wf_i64 ((hx p hp).2.2.2.1.2.2 x hxm)
  omega
theorem chk_total9 {l : List ObjT} (hS : Small l) : ∀ n, n ≤ l.length → chkSy l n ≠ none
  | 0, _ => by intro h; cases h
  | n + 1, hn => by
    intro h
    cases hc : chkSy l n with
    | none => exact chk_total9 hS n (by omega) hc
    | some o =>
      cases o with
      | some x => simp only [chkSy, hc] at h; cases h
      | none =>
        rw [chkR_step l n hc, objCheck hS (by omega)] at h
        generalize chkO (ob l n).f0 (ob l n).f1 (ob l n).f2 (ob l n).f3 (ob l n).f4 (ob l n).f5 = x at h
        obtain ⟨e, m⟩ := x
        simp only at h
        split at h
        · cases h
        · split at h <;> cases h
theorem resolve_some9 {l : List ObjT} (hS : Small l) : ∃ d r2 r3 r4, resolveR l = some (d, r2, r3, r4) := by
 unfold resolveR
 split
 ·
  exact ⟨_, _, _, _, rfl⟩
 ·
  have h := chk_total9 hS _ (Nat.le_refl l.length)
  split
  ·
   rename_i hc; exact absurd hc h
  ·
   exact ⟨_, _, _, _, rfl⟩
  ·
   split
   ·
    exact ⟨_, _, _, _, rfl⟩
   ·
    split
    ·
     exact ⟨_, _, _, _, rfl⟩
    ·
     exact ⟨_, _, _, _, rfl⟩
theorem lite9 {l : List ObjT} (hw : ∀ p, p < l.length → wordsO (ob l p).f1 = true) (h : l.length ≤ 64 ∧ ∀ p, p < l.length → Within l 524288 p) : Small l ∧ (∃ kc d r2 r3 r4, pleatref00_CopyObjects.f kc l = some l ∧ resolveR l = some (d, r2, r3, r4)) ∧ ∀ i, i < l.length → pleatref00_CopyObject.f (ob l i).f0 (ob l i).f1 (ob l i).f2 (ob l i).f3 (ob l i).f4 (ob l i).f5 = some ((ob l i).f0, (ob l i).f1, (ob l i).f2, (ob l i).f3, (ob l i).f4, (ob l i).f5) := by
 have hS := small_of h.1 h.2 hw
 obtain ⟨kc, hkc⟩ := (copy8 (by omega) h.2).rounds
 obtain ⟨d, r2, r3, r4, hr⟩ := resolve_some9 hS
 refine ⟨hS, ⟨kc, d, r2, r3, r4, hkc, hr⟩, fun i hi => ?_⟩
 have hq := h.2 i hi
 unfold Within at hq
 exact copyO9 _ _ _ _ _ _ (by omega) (by omega) (by omega) (by omega)
end Go.Proofs.YtiaohbbafaaibabDoor.P
