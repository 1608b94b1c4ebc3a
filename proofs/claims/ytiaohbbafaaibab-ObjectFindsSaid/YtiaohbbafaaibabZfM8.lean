/- OWN TEXT and printed parts of this claim, laid together: P7. -/
import Derived.Test.YtiaohbbafaaibabZfM0
import Derived.Test.YtiaohbbafaaibabZfM7
import Derived.Test.YtiaohbbafaaibabZfM6
import Derived.Test.YtiaohbbafaaibabZfM5
/- What the Go functions named below come to, as plain functions, each with its proof; written by this session's prt.py over the kit's print. -/
namespace Go.Proofs.Ytiaohbbafaaibab.P
open Go.RowKit Go.Proofs.YtiaohbbafaaibabW.PrintWords Go.Proofs.YtiaohbbafaaibabW.PrintLast Go.Proofs.YtiaohbbafaaibabW.PrintMore
attribute [local go_sem] max2_int min2_int max_two min_two max_three min_three max_four min_four   -- for this text's walks alone
set_option linter.unusedVariables false
set_option linter.unusedSimpArgs false
/-! ### pleatlaw03_ObjectFinds: function 3 -/
mutual
def pleatlaw03_ObjectFinds.l0 : Nat → Int → Int → ByteArray → List Int → Int → List Int → List (S37) → List (S41) → Option (Bool)
 | 0, _, _, _, _, _, _, _, _ => none
 | k + 1, x1, x7, x227000, x227001, x227002, x227003, x227004, x227005 => if x7 < (x227004.length : Int) then ((pleatref00_CopyObject.f x227000 x227001 x227002 x227003 x227004 x227005).bind fun bt246 => (if 0 ≤ x7 then ((object_Of.f k bt246.1 bt246.2.1 bt246.2.2.1 bt246.2.2.2.1 bt246.2.2.2.2.1 bt246.2.2.2.2.2 ((rd_T37 x227004 x7).f0)).bind fun t261 => (if t261 = x7 then ((object_Name.f ((rd_T37 x227004 x7).f0)).bind fun t263 => (if t263 = true then (pleatlaw03_ObjectFinds.l0 k x1 (wrap64 (x7 + 1)) x227000 x227001 x227002 x227003 x227004 x227005) else (some false))) else (some false))) else (none))) else (pleatlaw03_ObjectFinds.l1 k x1 0 x227000 x227001 x227002 x227003 x227004 x227005)
def pleatlaw03_ObjectFinds.l1 : Nat → Int → Int → ByteArray → List Int → Int → List Int → List (S37) → List (S41) → Option (Bool)
 | 0, _, _, _, _, _, _, _, _ => none
 | k + 1, x1, x8, x227000, x227001, x227002, x227003, x227004, x227005 => if x8 < (x227005.length : Int) then ((pleatref00_CopyObject.f x227000 x227001 x227002 x227003 x227004 x227005).bind fun bt264 => (if 0 ≤ x8 then ((object_At.f k bt264.1 bt264.2.1 bt264.2.2.1 bt264.2.2.2.1 bt264.2.2.2.2.1 bt264.2.2.2.2.2 ((rd_T41 x227005 x8).f0)).bind fun t279 => (if t279 = x8 then (pleatlaw03_ObjectFinds.l1 k x1 (wrap64 (x8 + 1)) x227000 x227001 x227002 x227003 x227004 x227005) else (some false))) else (none))) else (if (x227001.length : Int) < 16384 then ((pleatref00_CopyObject.f x227000 x227001 x227002 x227003 x227004 x227005).bind fun bt280 => (if bt280.2.1.length < 35184372088832 then ((object_Check.f bt280.1 (bt280.2.1 ++ [1]) bt280.2.2.1 bt280.2.2.2.1 bt280.2.2.2.2.1 bt280.2.2.2.2.2).bind fun bt298 => (if bt298.1 = 0 then (pleatlaw03_ObjectFinds.j2 k x1 x227000 x227001 x227002 x227003 x227004 x227005) else (some false))) else (none))) else (pleatlaw03_ObjectFinds.j2 k x1 x227000 x227001 x227002 x227003 x227004 x227005))
def pleatlaw03_ObjectFinds.j2 : Nat → Int → ByteArray → List Int → Int → List Int → List (S37) → List (S41) → Option (Bool)
 | 0, _, _, _, _, _, _, _ => none
 | k + 1, x1, x227000, x227001, x227002, x227003, x227004, x227005 => if (x227005.length : Int) > 0 then ((pleatref00_CopyObject.f x227000 x227001 x227002 x227003 x227004 x227005).bind fun bt300 => (if 0 ≤ (wrap64 ((bt300.2.2.2.2.2.length : Int) - 1)) then (if (wrap64 ((bt300.2.2.2.2.2.length : Int) - 1)) ≤ (bt300.2.2.2.2.2.length : Int) then ((object_Check.f bt300.1 bt300.2.1 bt300.2.2.1 bt300.2.2.2.1 bt300.2.2.2.2.1 (bt300.2.2.2.2.2.take ((wrap64 ((bt300.2.2.2.2.2.length : Int) - 1)) : Int).toNat)).bind fun bt318 => (if bt318.1 = 0 then (pleatlaw03_ObjectFinds.j3 k x1 x227000 x227001 x227002 x227003 x227004 x227005) else (some false))) else (none)) else (none))) else (pleatlaw03_ObjectFinds.j3 k x1 x227000 x227001 x227002 x227003 x227004 x227005)
def pleatlaw03_ObjectFinds.j3 : Nat → Int → ByteArray → List Int → Int → List Int → List (S37) → List (S41) → Option (Bool)
 | 0, _, _, _, _, _, _, _ => none
 | k + 1, x1, x227000, x227001, x227002, x227003, x227004, x227005 => if (x227004.length : Int) > 0 then (pleatlaw03_ObjectFinds.j4 k x1 (decide ((x227004.length : Int) < 256)) x227000 x227001 x227002 x227003 x227004 x227005) else (pleatlaw03_ObjectFinds.j4 k x1 false x227000 x227001 x227002 x227003 x227004 x227005)
def pleatlaw03_ObjectFinds.j4 : Nat → Int → Bool → ByteArray → List Int → Int → List Int → List (S37) → List (S41) → Option (Bool)
 | 0, _, _, _, _, _, _, _, _ => none
 | k + 1, x1, x124, x227000, x227001, x227002, x227003, x227004, x227005 => if x124 = true then ((pleatref00_CopyObject.f x227000 x227001 x227002 x227003 x227004 x227005).bind fun bt320 => (if (x227004.length : Int) = 0 then (none) else (if 0 ≤ (Int.tmod (wrap64 (x1)) (x227004.length : Int)) then (if (Int.tmod (wrap64 (x1)) (x227004.length : Int)) < (x227004.length : Int) then (if bt320.2.2.2.2.1.length < 4398046511104 then ((object_Check.f bt320.1 bt320.2.1 bt320.2.2.1 bt320.2.2.2.1 (bt320.2.2.2.2.1 ++ [(⟨(rd_T37 x227004 (Int.tmod (wrap64 (x1)) (x227004.length : Int))).f0, (rd_T37 x227004 (Int.tmod (wrap64 (x1)) (x227004.length : Int))).f1, (rd_T37 x227004 (Int.tmod (wrap64 (x1)) (x227004.length : Int))).f2⟩ : S37)]) bt320.2.2.2.2.2).bind fun bt339 => (if bt339.1 = 26 then (if bt339.2 = (x227004.length : Int) then ((pleatlaw03_lives.f k).bind fun t341 => (some t341)) else (some false)) else (some false))) else (none)) else (none)) else (none)))) else ((pleatlaw03_lives.f k).bind fun t342 => (some t342))
end
def pleatlaw03_ObjectFinds.f (k : Nat) (a0_0 : ByteArray) (l0_1 : List Int) (a0_2 : Int) (l0_3 : List Int) (l0_4 : List (S37)) (l0_5 : List (S41)) (a1 : Int) : Option (Bool) := (pleatlaw03_heavy.f k a0_0 l0_1 a0_2 l0_3 l0_4 l0_5).bind fun t227 => (if t227 = true then ((pleatlaw03_lives.f k).bind fun t228 => (some t228)) else ((pleatref00_CopyObject.f a0_0 l0_1 a0_2 l0_3 l0_4 l0_5).bind fun bt229 => ((object_Check.f bt229.1 bt229.2.1 bt229.2.2.1 bt229.2.2.2.1 bt229.2.2.2.2.1 bt229.2.2.2.2.2).bind fun bt243 => (if bt243.1 = 0 then (pleatlaw03_ObjectFinds.l0 k a1 0 a0_0 l0_1 a0_2 l0_3 l0_4 l0_5) else ((pleatlaw03_lives.f k).bind fun t245 => (some t245))))))
theorem pleatlaw03_ObjectFinds.mono_l : ∀ k, (∀ y0 y1 y2 y3 y4 y5 y6 y7, LeO (pleatlaw03_ObjectFinds.l0 k y0 y1 y2 y3 y4 y5 y6 y7) (pleatlaw03_ObjectFinds.l0 (k + 1) y0 y1 y2 y3 y4 y5 y6 y7)) ∧ (∀ y0 y1 y2 y3 y4 y5 y6 y7, LeO (pleatlaw03_ObjectFinds.l1 k y0 y1 y2 y3 y4 y5 y6 y7) (pleatlaw03_ObjectFinds.l1 (k + 1) y0 y1 y2 y3 y4 y5 y6 y7)) ∧ (∀ y0 y1 y2 y3 y4 y5 y6, LeO (pleatlaw03_ObjectFinds.j2 k y0 y1 y2 y3 y4 y5 y6) (pleatlaw03_ObjectFinds.j2 (k + 1) y0 y1 y2 y3 y4 y5 y6)) ∧ (∀ y0 y1 y2 y3 y4 y5 y6, LeO (pleatlaw03_ObjectFinds.j3 k y0 y1 y2 y3 y4 y5 y6) (pleatlaw03_ObjectFinds.j3 (k + 1) y0 y1 y2 y3 y4 y5 y6)) ∧ (∀ y0 y1 y2 y3 y4 y5 y6 y7, LeO (pleatlaw03_ObjectFinds.j4 k y0 y1 y2 y3 y4 y5 y6 y7) (pleatlaw03_ObjectFinds.j4 (k + 1) y0 y1 y2 y3 y4 y5 y6 y7))
 | 0 => ⟨fun _ _ _ _ _ _ _ _ r h => by simp [pleatlaw03_ObjectFinds.l0] at h, fun _ _ _ _ _ _ _ _ r h => by simp [pleatlaw03_ObjectFinds.l1] at h, fun _ _ _ _ _ _ _ r h => by simp [pleatlaw03_ObjectFinds.j2] at h, fun _ _ _ _ _ _ _ r h => by simp [pleatlaw03_ObjectFinds.j3] at h, fun _ _ _ _ _ _ _ _ r h => by simp [pleatlaw03_ObjectFinds.j4] at h⟩
 | k + 1 => by
  obtain ⟨ih0, ih1, ih2, ih3, ih4⟩ := pleatlaw03_ObjectFinds.mono_l k
  refine ⟨?_, ?_, ?_, ?_, ?_⟩
  ·
   intro y0 y1 y2 y3 y4 y5 y6 y7
   unfold pleatlaw03_ObjectFinds.l0
   repeat' first
   | (with_reducible exact ih0 _ _ _ _ _ _ _ _)
   | (with_reducible exact ih1 _ _ _ _ _ _ _ _)
   | (with_reducible exact ih2 _ _ _ _ _ _ _)
   | (with_reducible exact ih3 _ _ _ _ _ _ _)
   | (with_reducible exact ih4 _ _ _ _ _ _ _ _)
   | (with_reducible exact object_At.mono _ _ _ _ _ _ _ _)
   | (with_reducible exact object_Of.mono _ _ _ _ _ _ _ _)
   | (with_reducible exact pleatlaw03_heavy.mono _ _ _ _ _ _ _)
   | (with_reducible exact pleatlaw03_lives.mono _)
   | (with_reducible exact LeO.refl _)
   | (with_reducible exact LeO.none _)
   | (with_reducible refine LeO.ite ?_ ?_)
   | (with_reducible refine LeO.bind ?_ (fun _ => ?_))
   | exact ih0 _ _ _ _ _ _ _ _
   | exact ih1 _ _ _ _ _ _ _ _
   | exact ih2 _ _ _ _ _ _ _
   | exact ih3 _ _ _ _ _ _ _
   | exact ih4 _ _ _ _ _ _ _ _
   | exact object_At.mono _ _ _ _ _ _ _ _
   | exact object_Of.mono _ _ _ _ _ _ _ _
   | exact pleatlaw03_heavy.mono _ _ _ _ _ _ _
   | exact pleatlaw03_lives.mono _
   | exact LeO.none _
   | refine LeO.ite ?_ ?_
   | refine LeO.bind ?_ (fun _ => ?_)
  ·
   intro y0 y1 y2 y3 y4 y5 y6 y7
   unfold pleatlaw03_ObjectFinds.l1
   repeat' first
   | (with_reducible exact ih0 _ _ _ _ _ _ _ _)
   | (with_reducible exact ih1 _ _ _ _ _ _ _ _)
   | (with_reducible exact ih2 _ _ _ _ _ _ _)
   | (with_reducible exact ih3 _ _ _ _ _ _ _)
   | (with_reducible exact ih4 _ _ _ _ _ _ _ _)
   | (with_reducible exact object_At.mono _ _ _ _ _ _ _ _)
   | (with_reducible exact object_Of.mono _ _ _ _ _ _ _ _)
   | (with_reducible exact pleatlaw03_heavy.mono _ _ _ _ _ _ _)
   | (with_reducible exact pleatlaw03_lives.mono _)
   | (with_reducible exact LeO.refl _)
   | (with_reducible exact LeO.none _)
   | (with_reducible refine LeO.ite ?_ ?_)
   | (with_reducible refine LeO.bind ?_ (fun _ => ?_))
   | exact ih0 _ _ _ _ _ _ _ _
   | exact ih1 _ _ _ _ _ _ _ _
   | exact ih2 _ _ _ _ _ _ _
   | exact ih3 _ _ _ _ _ _ _
   | exact ih4 _ _ _ _ _ _ _ _
   | exact object_At.mono _ _ _ _ _ _ _ _
   | exact object_Of.mono _ _ _ _ _ _ _ _
   | exact pleatlaw03_heavy.mono _ _ _ _ _ _ _
   | exact pleatlaw03_lives.mono _
   | exact LeO.none _
   | refine LeO.ite ?_ ?_
   | refine LeO.bind ?_ (fun _ => ?_)
  ·
   intro y0 y1 y2 y3 y4 y5 y6
   unfold pleatlaw03_ObjectFinds.j2
   repeat' first
   | (with_reducible exact ih0 _ _ _ _ _ _ _ _)
   | (with_reducible exact ih1 _ _ _ _ _ _ _ _)
   | (with_reducible exact ih2 _ _ _ _ _ _ _)
   | (with_reducible exact ih3 _ _ _ _ _ _ _)
   | (with_reducible exact ih4 _ _ _ _ _ _ _ _)
   | (with_reducible exact object_At.mono _ _ _ _ _ _ _ _)
   | (with_reducible exact object_Of.mono _ _ _ _ _ _ _ _)
   | (with_reducible exact pleatlaw03_heavy.mono _ _ _ _ _ _ _)
   | (with_reducible exact pleatlaw03_lives.mono _)
   | (with_reducible exact LeO.refl _)
   | (with_reducible exact LeO.none _)
   | (with_reducible refine LeO.ite ?_ ?_)
   | (with_reducible refine LeO.bind ?_ (fun _ => ?_))
   | exact ih0 _ _ _ _ _ _ _ _
   | exact ih1 _ _ _ _ _ _ _ _
   | exact ih2 _ _ _ _ _ _ _
   | exact ih3 _ _ _ _ _ _ _
   | exact ih4 _ _ _ _ _ _ _ _
   | exact object_At.mono _ _ _ _ _ _ _ _
   | exact object_Of.mono _ _ _ _ _ _ _ _
   | exact pleatlaw03_heavy.mono _ _ _ _ _ _ _
   | exact pleatlaw03_lives.mono _
   | exact LeO.none _
   | refine LeO.ite ?_ ?_
   | refine LeO.bind ?_ (fun _ => ?_)
  ·
   intro y0 y1 y2 y3 y4 y5 y6
   unfold pleatlaw03_ObjectFinds.j3
   repeat' first
   | (with_reducible exact ih0 _ _ _ _ _ _ _ _)
   | (with_reducible exact ih1 _ _ _ _ _ _ _ _)
   | (with_reducible exact ih2 _ _ _ _ _ _ _)
   | (with_reducible exact ih3 _ _ _ _ _ _ _)
   | (with_reducible exact ih4 _ _ _ _ _ _ _ _)
   | (with_reducible exact object_At.mono _ _ _ _ _ _ _ _)
   | (with_reducible exact object_Of.mono _ _ _ _ _ _ _ _)
   | (with_reducible exact pleatlaw03_heavy.mono _ _ _ _ _ _ _)
   | (with_reducible exact pleatlaw03_lives.mono _)
   | (with_reducible exact LeO.refl _)
   | (with_reducible exact LeO.none _)
   | (with_reducible refine LeO.ite ?_ ?_)
   | (with_reducible refine LeO.bind ?_ (fun _ => ?_))
   | exact ih0 _ _ _ _ _ _ _ _
   | exact ih1 _ _ _ _ _ _ _ _
   | exact ih2 _ _ _ _ _ _ _
   | exact ih3 _ _ _ _ _ _ _
   | exact ih4 _ _ _ _ _ _ _ _
   | exact object_At.mono _ _ _ _ _ _ _ _
   | exact object_Of.mono _ _ _ _ _ _ _ _
   | exact pleatlaw03_heavy.mono _ _ _ _ _ _ _
   | exact pleatlaw03_lives.mono _
   | exact LeO.none _
   | refine LeO.ite ?_ ?_
   | refine LeO.bind ?_ (fun _ => ?_)
  ·
   intro y0 y1 y2 y3 y4 y5 y6 y7
   unfold pleatlaw03_ObjectFinds.j4
   repeat' first
   | (with_reducible exact ih0 _ _ _ _ _ _ _ _)
   | (with_reducible exact ih1 _ _ _ _ _ _ _ _)
   | (with_reducible exact ih2 _ _ _ _ _ _ _)
   | (with_reducible exact ih3 _ _ _ _ _ _ _)
   | (with_reducible exact ih4 _ _ _ _ _ _ _ _)
   | (with_reducible exact object_At.mono _ _ _ _ _ _ _ _)
   | (with_reducible exact object_Of.mono _ _ _ _ _ _ _ _)
   | (with_reducible exact pleatlaw03_heavy.mono _ _ _ _ _ _ _)
   | (with_reducible exact pleatlaw03_lives.mono _)
   | (with_reducible exact LeO.refl _)
   | (with_reducible exact LeO.none _)
   | (with_reducible refine LeO.ite ?_ ?_)
   | (with_reducible refine LeO.bind ?_ (fun _ => ?_))
   | exact ih0 _ _ _ _ _ _ _ _
   | exact ih1 _ _ _ _ _ _ _ _
   | exact ih2 _ _ _ _ _ _ _
   | exact ih3 _ _ _ _ _ _ _
   | exact ih4 _ _ _ _ _ _ _ _
   | exact object_At.mono _ _ _ _ _ _ _ _
   | exact object_Of.mono _ _ _ _ _ _ _ _
   | exact pleatlaw03_heavy.mono _ _ _ _ _ _ _
   | exact pleatlaw03_lives.mono _
   | exact LeO.none _
   | refine LeO.ite ?_ ?_
   | refine LeO.bind ?_ (fun _ => ?_)
theorem pleatlaw03_ObjectFinds.mono : ∀ a0 a1 a2 a3 a4 a5 a6 k, LeO (pleatlaw03_ObjectFinds.f k a0 a1 a2 a3 a4 a5 a6) (pleatlaw03_ObjectFinds.f (k + 1) a0 a1 a2 a3 a4 a5 a6) := by
 intro a0 a1 a2 a3 a4 a5 a6 k
 obtain ⟨ih0, ih1, ih2, ih3, ih4⟩ := pleatlaw03_ObjectFinds.mono_l k
 unfold pleatlaw03_ObjectFinds.f
 repeat' first
   | (with_reducible exact ih0 _ _ _ _ _ _ _ _)
   | (with_reducible exact ih1 _ _ _ _ _ _ _ _)
   | (with_reducible exact ih2 _ _ _ _ _ _ _)
   | (with_reducible exact ih3 _ _ _ _ _ _ _)
   | (with_reducible exact ih4 _ _ _ _ _ _ _ _)
   | (with_reducible exact object_At.mono _ _ _ _ _ _ _ _)
   | (with_reducible exact object_Of.mono _ _ _ _ _ _ _ _)
   | (with_reducible exact pleatlaw03_heavy.mono _ _ _ _ _ _ _)
   | (with_reducible exact pleatlaw03_lives.mono _)
   | (with_reducible exact LeO.refl _)
   | (with_reducible exact LeO.none _)
   | (with_reducible refine LeO.ite ?_ ?_)
   | (with_reducible refine LeO.bind ?_ (fun _ => ?_))
   | exact ih0 _ _ _ _ _ _ _ _
   | exact ih1 _ _ _ _ _ _ _ _
   | exact ih2 _ _ _ _ _ _ _
   | exact ih3 _ _ _ _ _ _ _
   | exact ih4 _ _ _ _ _ _ _ _
   | exact object_At.mono _ _ _ _ _ _ _ _
   | exact object_Of.mono _ _ _ _ _ _ _ _
   | exact pleatlaw03_heavy.mono _ _ _ _ _ _ _
   | exact pleatlaw03_lives.mono _
   | exact LeO.none _
   | refine LeO.ite ?_ ?_
   | refine LeO.bind ?_ (fun _ => ?_)
def pleatlaw03_ObjectFinds.T9 : Bool × List (List Nat × List Nat) := (true, [([], []), ([0], [0]), ([], []), ([2], [2]), ([], []), ([3, 4], [3, 4]), ([5], [5]), ([6], [6]), ([1, 7, 1], [1, 7]), ([], []), ([8, 9], [8, 9]), ([10, 8], [10]), ([11], [11]), ([12, 11], [11, 12]), ([11], [11]), ([13, 14, 11], [11, 13, 14]), ([15, 11], [11, 15]), ([16, 11], [11, 16]), ([17, 11, 11], [11, 17]), ([18, 11], [11, 18]), ([11, 19], [11, 19])])
def pleatlaw03_ObjectFinds.B9 : List Nat := [0, 1, 0, 4, 0, 28, 60, 124, 255, 0, 1023, 2047, 4095, 8191, 4095, 32767, 65535, 131071, 262143, 524287, 1048575]
theorem pleatlaw03_ObjectFinds.tab9 : rtab .any (opsOf Try.f3 9) = pleatlaw03_ObjectFinds.T9 := by kernel_rfl
theorem pleatlaw03_ObjectFinds.bits9 : waitsOk pleatlaw03_ObjectFinds.T9.2 pleatlaw03_ObjectFinds.B9 = true := by kernel_rfl
def pleatlaw03_ObjectFinds.T14 : Bool × List (List Nat × List Nat) := (true, [([], []), ([0], [0]), ([], []), ([2], [2]), ([], []), ([3, 4], [3, 4]), ([5], [5]), ([6], [6]), ([1, 7, 1], [1, 7]), ([], []), ([8, 9], [8, 9])])
def pleatlaw03_ObjectFinds.B14 : List Nat := [0, 1, 0, 4, 0, 28, 60, 124, 255, 0, 1023]
theorem pleatlaw03_ObjectFinds.tab14 : rtab .any (opsOf Try.f3 14) = pleatlaw03_ObjectFinds.T14 := by kernel_rfl
theorem pleatlaw03_ObjectFinds.bits14 : waitsOk pleatlaw03_ObjectFinds.T14.2 pleatlaw03_ObjectFinds.B14 = true := by kernel_rfl
def pleatlaw03_ObjectFinds.T30 : Bool × List (List Nat × List Nat) := (true, [([], []), ([0], [0]), ([], []), ([2], [2]), ([], []), ([4], [4]), ([], []), ([6], [6]), ([7], [7]), ([5, 8], [5, 8]), ([3, 9], [3, 9]), ([10], [10]), ([11], [11]), ([1, 12], [1, 12]), ([0, 1, 2, 3, 4, 5, 6, 7, 8, 9, 10, 11, 12, 13], []), ([14, 13, 13, 0, 1, 2, 3, 4, 5, 6, 7, 8, 9, 10, 11, 12, 13], [13, 14])])
def pleatlaw03_ObjectFinds.B30 : List Nat := [0, 1, 0, 4, 0, 16, 0, 64, 192, 496, 1020, 2044, 4092, 8191, 16383, 32767]
theorem pleatlaw03_ObjectFinds.tab30 : rtab .any (opsOf Try.f3 30) = pleatlaw03_ObjectFinds.T30 := by kernel_rfl
theorem pleatlaw03_ObjectFinds.bits30 : waitsOk pleatlaw03_ObjectFinds.T30.2 pleatlaw03_ObjectFinds.B30 = true := by kernel_rfl
set_option maxHeartbeats 8000000 in
set_option maxRecDepth 100000 in
theorem pleatlaw03_ObjectFinds.callsT (k : Nat) (a0_0 : ByteArray) (A0_1 : Option Addr) (c0_1 : Nat) (l0_1 : List Int) (a0_2 : Int) (A0_3 : Option Addr) (c0_3 : Nat) (l0_3 : List Int) (A0_4 : Option Addr) (c0_4 : Nat) (l0_4 : List (S37)) (A0_5 : Option Addr) (c0_5 : Nat) (l0_5 : List (S41)) (a1 : Int) (r : Bool) (w : World) (hr0_1 : Kd.C (Kd.int .u32) w A0_1 l0_1.length l0_1) (hc0_1 : l0_1.length ≤ c0_1) (hr0_3 : Kd.C (Kd.int .i64) w A0_3 l0_3.length l0_3) (hc0_3 : l0_3.length ≤ c0_3) (hr0_4 : Kd.C k37 w A0_4 l0_4.length l0_4) (hc0_4 : l0_4.length ≤ c0_4) (hr0_5 : Kd.C k41 w A0_5 l0_5.length l0_5) (hc0_5 : l0_5.length ≤ c0_5) (h : pleatlaw03_ObjectFinds.f k a0_0 l0_1 a0_2 l0_3 l0_4 l0_5 a1 = some r) (hrt : r = true) :
  Calls Try.prog 3 #[.agg #[.string a0_0, .slice A0_1 l0_1.length c0_1, .int .i64 a0_2, .slice A0_3 l0_3.length c0_3, .slice A0_4 l0_4.length c0_4, .slice A0_5 l0_5.length c0_5], .int .u8 a1] w fun e w' => e = .returned (.bool r) ∧ Below w.heap.size w w' := by
 have HRT := Aside0.mk hrt
 clear hrt
 have hu27 := Try.underlying27
 have hu37 := Try.underlying37
 have HR0_1 := Aside0.mk hr0_1
 have HC0_1 := Aside0.mk hc0_1
 clear hr0_1 hc0_1
 have HR0_3 := Aside0.mk hr0_3
 have HC0_3 := Aside0.mk hc0_3
 clear hr0_3 hc0_3
 have HR0_4 := Aside0.mk hr0_4
 have HC0_4 := Aside0.mk hc0_4
 clear hr0_4 hc0_4
 have HR0_5 := Aside0.mk hr0_5
 have HC0_5 := Aside0.mk hc0_5
 clear hr0_5 hc0_5
 have HB := Aside0.mk (Below.refl w.heap.size w)
 have H : ((pleatlaw03_heavy.f k a0_0 l0_1 a0_2 l0_3 l0_4 l0_5).bind fun t227 => (if t227 = true then ((pleatlaw03_lives.f k).bind fun t228 => (some t228)) else ((pleatref00_CopyObject.f a0_0 l0_1 a0_2 l0_3 l0_4 l0_5).bind fun bt229 => ((object_Check.f bt229.1 bt229.2.1 bt229.2.2.1 bt229.2.2.2.1 bt229.2.2.2.2.1 bt229.2.2.2.2.2).bind fun bt243 => (if bt243.1 = 0 then (pleatlaw03_ObjectFinds.l0 k a1 0 a0_0 l0_1 a0_2 l0_3 l0_4 l0_5) else ((pleatlaw03_lives.f k).bind fun t245 => (some t245))))))) = some r := h
 clear h
 replace H := Option.bind_eq_some_iff.mp H
 obtain ⟨t227, A30, H⟩ := H
 try dsimp only at H
 have A3 := Aside0.mk A30
 clear A30
 by_cases c4 : t227 = true
 ·
  subst c4
  have H1 : ((pleatlaw03_lives.f k).bind fun t228 => (some t228)) = some r := by rw [if_pos rfl] at H; exact H
  clear H
  have H := H1
  clear H1
  replace H := Option.bind_eq_some_iff.mp H
  obtain ⟨t228, A50, H⟩ := H
  try dsimp only at H
  have A5 := Aside0.mk A50
  clear A50
  obtain rfl := Option.some.inj H
  go_enter Try.func3, Try.ntmps3
  go_wp2_with (first | ((with_reducible refine gate_dst (N := 2) rfl ?_); (try (refine gate_guard (by rfl) ?_; dsimp only)); refine box_event ?hg (N := 2) ?hd (cs := #[.string a0_0, .slice A0_1 l0_1.length c0_1, .int .i64 a0_2, .slice A0_3 l0_3.length c0_3, .slice A0_4 l0_4.length c0_4, .slice A0_5 l0_5.length c0_5]) (t := 27) ?hr ?_; (case hd => rfl); (case hg => rfl); (case hr => first | (go_simp; done) | (go_simp; rfl)); intro gb226 hg w6 hbox hb; have n0_ := Aside0.mk (below_step (by repeat (first | (with_reducible first | exact HB.out | apply below_alloc | apply pw_below_drewN | apply below_drew1) | exact HB.out)) hb); have n1_ := Aside0.mk (hbox); have n2_ := Aside0.mk ((by rw [hg]; exact (below_size (by repeat (first | (with_reducible first | exact HB.out | apply below_alloc | apply pw_below_drewN | apply below_drew1) | exact HB.out))) : w.heap.size ≤ gb226)); have n3_ := Aside0.mk ((by rw [hg]; exact (below_size (by repeat (first | (with_reducible first | exact HB.out | apply below_alloc | apply pw_below_drewN | apply below_drew1) | exact HB.out))) : w.heap.size ≤ gb226)); clear HB; have HB := n0_; have BK226 := n1_; have GW226 := n2_; have GE226 := n3_; clear n0_ n1_ n2_ n3_; clear hb hbox hg; have hcz7_0 : w6.cell? ⟨gb226, 0, none⟩ = some (.string a0_0) := (blk_cell BK226.out 0).trans rfl; have hcz7_1 : w6.cell? ⟨gb226, 1, none⟩ = some (.slice A0_1 l0_1.length c0_1) := (blk_cell BK226.out 1).trans rfl; have hcz7_2 : w6.cell? ⟨gb226, 2, none⟩ = some (.int .i64 a0_2) := (blk_cell BK226.out 2).trans rfl; have hcz7_3 : w6.cell? ⟨gb226, 3, none⟩ = some (.slice A0_3 l0_3.length c0_3) := (blk_cell BK226.out 3).trans rfl; have hcz7_4 : w6.cell? ⟨gb226, 4, none⟩ = some (.slice A0_4 l0_4.length c0_4) := (blk_cell BK226.out 4).trans rfl; have hcz7_5 : w6.cell? ⟨gb226, 5, none⟩ = some (.slice A0_5 l0_5.length c0_5) := (blk_cell BK226.out 5).trans rfl; have hfz7_0 := blk_frozen BK226.out 0; have hfz7_1 := blk_frozen BK226.out 1; have hfz7_2 := blk_frozen BK226.out 2; have hfz7_3 := blk_frozen BK226.out 3; have hfz7_4 := blk_frozen BK226.out 4; have hfz7_5 := blk_frozen BK226.out 5) | ((with_reducible refine gate_callee (f := 6) rfl ?_); refine goesL_ (some 19) rfl rfl Try.func6 (by kernel_rfl) rfl #[.agg #[.string a0_0, .slice A0_1 l0_1.length c0_1, .int .i64 a0_2, .slice A0_3 l0_3.length c0_3, .slice A0_4 l0_4.length c0_4, .slice A0_5 l0_5.length c0_5]] rfl (by (try simp only [List.map_toArray, List.map_cons, List.map_nil]); first | done | rfl | (simp only [List.length_drop, List.length_take]; rfl)) ?_; (with_reducible refine (pleatlaw03_heavy.calls k a0_0 _ _ l0_1 a0_2 _ _ l0_3 _ _ l0_4 _ _ l0_5 true _ ?side1 ?side2 ?side3 ?side4 ?side5 ?side6 ?side7 ?side8 A3.out).mono ?_); (case side1 => repeat (first | exact (Kd.C_below HR0_1.out HB.out) | (with_reducible refine Kd.C_alloc ?_ _) | (with_reducible refine Kd.C_drewN ?_ _) | (with_reducible refine Kd.C_drew ?_))); (case side2 => exact HC0_1.out); (case side3 => repeat (first | exact (Kd.C_below HR0_3.out HB.out) | (with_reducible refine Kd.C_alloc ?_ _) | (with_reducible refine Kd.C_drewN ?_ _) | (with_reducible refine Kd.C_drew ?_))); (case side4 => exact HC0_3.out); (case side5 => repeat (first | exact (Kd.C_below HR0_4.out HB.out) | (with_reducible refine Kd.C_alloc ?_ _) | (with_reducible refine Kd.C_drewN ?_ _) | (with_reducible refine Kd.C_drew ?_))); (case side6 => exact HC0_4.out); (case side7 => repeat (first | exact (Kd.C_below HR0_5.out HB.out) | (with_reducible refine Kd.C_alloc ?_ _) | (with_reducible refine Kd.C_drewN ?_ _) | (with_reducible refine Kd.C_drew ?_))); (case side8 => exact HC0_5.out); rintro e w8 ⟨rfl, hb⟩; refine ⟨_, rfl, ?_⟩; have n0_ := Aside0.mk (blk_below (g := gb226) (o := .cells #[.string a0_0, .slice A0_1 l0_1.length c0_1, .int .i64 a0_2, .slice A0_3 l0_3.length c0_3, .slice A0_4 l0_4.length c0_4, .slice A0_5 l0_5.length c0_5] 27 (0, 0)) (by (with_reducible repeat (first | refine blk_drewN ?_ _ | refine blk_drew ?_ | refine blk_alloc ?_ _)); exact BK226.out) hb); have n1_ := Aside0.mk (below_step (by repeat (first | (with_reducible first | exact HB.out | apply below_alloc | apply pw_below_drewN | apply below_drew1 | refine below_set ?_ GE226.out) | exact HB.out)) hb); clear BK226; clear HB; have BK226 := n0_; have HB := n1_; clear n0_ n1_; (try clear hb); (try clear hb2); (try clear hk); (try clear hi)) | ((with_reducible refine gate_callee (f := 7) rfl ?_); refine goesL_ (some 20) rfl rfl Try.func7 (by kernel_rfl) rfl #[] rfl (by (try simp only [List.map_toArray, List.map_cons, List.map_nil]); first | done | rfl | (simp only [List.length_drop, List.length_take]; rfl)) ?_; (with_reducible refine (pleatlaw03_lives.calls k  t228 _ A5.out).mono ?_); rintro e w9 ⟨rfl, hb⟩; refine ⟨_, rfl, ?_⟩; have n0_ := Aside0.mk (blk_below (g := gb226) (o := .cells #[.string a0_0, .slice A0_1 l0_1.length c0_1, .int .i64 a0_2, .slice A0_3 l0_3.length c0_3, .slice A0_4 l0_4.length c0_4, .slice A0_5 l0_5.length c0_5] 27 (0, 0)) (by (with_reducible repeat (first | refine blk_drewN ?_ _ | refine blk_drew ?_ | refine blk_alloc ?_ _)); exact BK226.out) hb); have n1_ := Aside0.mk (below_step (by repeat (first | (with_reducible first | exact HB.out | apply below_alloc | apply pw_below_drewN | apply below_drew1 | refine below_set ?_ GE226.out) | exact HB.out)) hb); clear BK226; clear HB; have BK226 := n0_; have HB := n1_; clear n0_ n1_; (try clear hb); (try clear hb2); (try clear hk); (try clear hi)))
  go_ret
  exact ⟨by first | rfl | (simp [errW_none, errW_some] <;> rfl) | (simp [*, errW_none, errW_some] <;> rfl), by repeat (first | (with_reducible first | exact HB.out | apply below_alloc | apply pw_below_drewN | apply below_drew1 | refine below_set ?_ GE226.out) | exact HB.out)⟩
 ·
  replace c4 := Bool.eq_false_iff.mpr c4
  subst c4
  have H1 : ((pleatref00_CopyObject.f a0_0 l0_1 a0_2 l0_3 l0_4 l0_5).bind fun bt229 => ((object_Check.f bt229.1 bt229.2.1 bt229.2.2.1 bt229.2.2.2.1 bt229.2.2.2.2.1 bt229.2.2.2.2.2).bind fun bt243 => (if bt243.1 = 0 then (pleatlaw03_ObjectFinds.l0 k a1 0 a0_0 l0_1 a0_2 l0_3 l0_4 l0_5) else ((pleatlaw03_lives.f k).bind fun t245 => (some t245))))) = some r := by rw [if_neg (show ¬ (false = true) by decide)] at H; exact H
  clear H
  have H := H1
  clear H1
  replace H := Option.bind_eq_some_iff.mp H
  obtain ⟨⟨t229, t230, t233, t234, t237, t240⟩, A100, H⟩ := H
  try dsimp only at H
  have A10 := Aside0.mk A100
  clear A100
  replace H := Option.bind_eq_some_iff.mp H
  obtain ⟨⟨t243, t244⟩, A110, H⟩ := H
  try dsimp only at H
  have A11 := Aside0.mk A110
  clear A110
  by_cases c12 : t243 = 0
  ·
   rw [if_pos c12] at H
   have c12b0 : (t243 == 0) = true := beq_iff_eq.mpr c12
   have c12b1 : (t243 != 0) = false := bne_eq_false_iff_eq.mpr c12
   clear c12
   have H' := Aside0.mk H
   clear H
   go_enter Try.func3, Try.ntmps3
   go_wp2_with (first | ((with_reducible refine gate_dst (N := 2) rfl ?_); (try (refine gate_guard (by rfl) ?_; dsimp only)); refine box_event ?hg (N := 2) ?hd (cs := #[.string a0_0, .slice A0_1 l0_1.length c0_1, .int .i64 a0_2, .slice A0_3 l0_3.length c0_3, .slice A0_4 l0_4.length c0_4, .slice A0_5 l0_5.length c0_5]) (t := 27) ?hr ?_; (case hd => rfl); (case hg => rfl); (case hr => first | (go_simp; done) | (go_simp; rfl)); intro gb226 hg w13 hbox hb; have n0_ := Aside0.mk (below_step (by repeat (first | (with_reducible first | exact HB.out | apply below_alloc | apply pw_below_drewN | apply below_drew1) | exact HB.out)) hb); have n1_ := Aside0.mk (hbox); have n2_ := Aside0.mk ((by rw [hg]; exact (below_size (by repeat (first | (with_reducible first | exact HB.out | apply below_alloc | apply pw_below_drewN | apply below_drew1) | exact HB.out))) : w.heap.size ≤ gb226)); have n3_ := Aside0.mk ((by rw [hg]; exact (below_size (by repeat (first | (with_reducible first | exact HB.out | apply below_alloc | apply pw_below_drewN | apply below_drew1) | exact HB.out))) : w.heap.size ≤ gb226)); clear HB; have HB := n0_; have BK226 := n1_; have GW226 := n2_; have GE226 := n3_; clear n0_ n1_ n2_ n3_; clear hb hbox hg; have hcz14_0 : w13.cell? ⟨gb226, 0, none⟩ = some (.string a0_0) := (blk_cell BK226.out 0).trans rfl; have hcz14_1 : w13.cell? ⟨gb226, 1, none⟩ = some (.slice A0_1 l0_1.length c0_1) := (blk_cell BK226.out 1).trans rfl; have hcz14_2 : w13.cell? ⟨gb226, 2, none⟩ = some (.int .i64 a0_2) := (blk_cell BK226.out 2).trans rfl; have hcz14_3 : w13.cell? ⟨gb226, 3, none⟩ = some (.slice A0_3 l0_3.length c0_3) := (blk_cell BK226.out 3).trans rfl; have hcz14_4 : w13.cell? ⟨gb226, 4, none⟩ = some (.slice A0_4 l0_4.length c0_4) := (blk_cell BK226.out 4).trans rfl; have hcz14_5 : w13.cell? ⟨gb226, 5, none⟩ = some (.slice A0_5 l0_5.length c0_5) := (blk_cell BK226.out 5).trans rfl; have hfz14_0 := blk_frozen BK226.out 0; have hfz14_1 := blk_frozen BK226.out 1; have hfz14_2 := blk_frozen BK226.out 2; have hfz14_3 := blk_frozen BK226.out 3; have hfz14_4 := blk_frozen BK226.out 4; have hfz14_5 := blk_frozen BK226.out 5) | ((with_reducible refine gate_callee (f := 6) rfl ?_); refine goesL_ (some 19) rfl rfl Try.func6 (by kernel_rfl) rfl #[.agg #[.string a0_0, .slice A0_1 l0_1.length c0_1, .int .i64 a0_2, .slice A0_3 l0_3.length c0_3, .slice A0_4 l0_4.length c0_4, .slice A0_5 l0_5.length c0_5]] rfl (by (try simp only [List.map_toArray, List.map_cons, List.map_nil]); first | done | rfl | (simp only [List.length_drop, List.length_take]; rfl)) ?_; (with_reducible refine (pleatlaw03_heavy.calls k a0_0 _ _ l0_1 a0_2 _ _ l0_3 _ _ l0_4 _ _ l0_5 false _ ?side1 ?side2 ?side3 ?side4 ?side5 ?side6 ?side7 ?side8 A3.out).mono ?_); (case side1 => repeat (first | exact (Kd.C_below HR0_1.out HB.out) | (with_reducible refine Kd.C_alloc ?_ _) | (with_reducible refine Kd.C_drewN ?_ _) | (with_reducible refine Kd.C_drew ?_))); (case side2 => exact HC0_1.out); (case side3 => repeat (first | exact (Kd.C_below HR0_3.out HB.out) | (with_reducible refine Kd.C_alloc ?_ _) | (with_reducible refine Kd.C_drewN ?_ _) | (with_reducible refine Kd.C_drew ?_))); (case side4 => exact HC0_3.out); (case side5 => repeat (first | exact (Kd.C_below HR0_4.out HB.out) | (with_reducible refine Kd.C_alloc ?_ _) | (with_reducible refine Kd.C_drewN ?_ _) | (with_reducible refine Kd.C_drew ?_))); (case side6 => exact HC0_4.out); (case side7 => repeat (first | exact (Kd.C_below HR0_5.out HB.out) | (with_reducible refine Kd.C_alloc ?_ _) | (with_reducible refine Kd.C_drewN ?_ _) | (with_reducible refine Kd.C_drew ?_))); (case side8 => exact HC0_5.out); rintro e w15 ⟨rfl, hb⟩; refine ⟨_, rfl, ?_⟩; have n0_ := Aside0.mk (blk_below (g := gb226) (o := .cells #[.string a0_0, .slice A0_1 l0_1.length c0_1, .int .i64 a0_2, .slice A0_3 l0_3.length c0_3, .slice A0_4 l0_4.length c0_4, .slice A0_5 l0_5.length c0_5] 27 (0, 0)) (by (with_reducible repeat (first | refine blk_drewN ?_ _ | refine blk_drew ?_ | refine blk_alloc ?_ _)); exact BK226.out) hb); have n1_ := Aside0.mk (below_step (by repeat (first | (with_reducible first | exact HB.out | apply below_alloc | apply pw_below_drewN | apply below_drew1 | refine below_set ?_ GE226.out) | exact HB.out)) hb); clear BK226; clear HB; have BK226 := n0_; have HB := n1_; clear n0_ n1_; (try clear hb); (try clear hb2); (try clear hk); (try clear hi); have hcz16_0 : w15.cell? ⟨gb226, 0, none⟩ = some (.string a0_0) := (blk_cell BK226.out 0).trans rfl; have hcz16_1 : w15.cell? ⟨gb226, 1, none⟩ = some (.slice A0_1 l0_1.length c0_1) := (blk_cell BK226.out 1).trans rfl; have hcz16_2 : w15.cell? ⟨gb226, 2, none⟩ = some (.int .i64 a0_2) := (blk_cell BK226.out 2).trans rfl; have hcz16_3 : w15.cell? ⟨gb226, 3, none⟩ = some (.slice A0_3 l0_3.length c0_3) := (blk_cell BK226.out 3).trans rfl; have hcz16_4 : w15.cell? ⟨gb226, 4, none⟩ = some (.slice A0_4 l0_4.length c0_4) := (blk_cell BK226.out 4).trans rfl; have hcz16_5 : w15.cell? ⟨gb226, 5, none⟩ = some (.slice A0_5 l0_5.length c0_5) := (blk_cell BK226.out 5).trans rfl; have hfz16_0 := blk_frozen BK226.out 0; have hfz16_1 := blk_frozen BK226.out 1; have hfz16_2 := blk_frozen BK226.out 2; have hfz16_3 := blk_frozen BK226.out 3; have hfz16_4 := blk_frozen BK226.out 4; have hfz16_5 := blk_frozen BK226.out 5) | ((with_reducible refine gate_callee (f := 9) rfl ?_); refine goesL_ (some 23) rfl rfl Try.func9 (by kernel_rfl) rfl #[.agg #[.string a0_0, .slice A0_1 l0_1.length c0_1, .int .i64 a0_2, .slice A0_3 l0_3.length c0_3, .slice A0_4 l0_4.length c0_4, .slice A0_5 l0_5.length c0_5]] rfl (by (try simp only [List.map_toArray, List.map_cons, List.map_nil]); first | done | rfl | (simp only [List.length_drop, List.length_take]; rfl)) ?_; (with_reducible refine (pleatref00_CopyObject.calls a0_0 _ _ l0_1 a0_2 _ _ l0_3 _ _ l0_4 _ _ l0_5 t229 t230 t233 t234 t237 t240 _ ?side1 ?side2 ?side3 ?side4 ?side5 ?side6 ?side7 ?side8 A10.out).mono ?_); (case side1 => repeat (first | exact (Kd.C_below HR0_1.out HB.out) | (with_reducible refine Kd.C_alloc ?_ _) | (with_reducible refine Kd.C_drewN ?_ _) | (with_reducible refine Kd.C_drew ?_))); (case side2 => exact HC0_1.out); (case side3 => repeat (first | exact (Kd.C_below HR0_3.out HB.out) | (with_reducible refine Kd.C_alloc ?_ _) | (with_reducible refine Kd.C_drewN ?_ _) | (with_reducible refine Kd.C_drew ?_))); (case side4 => exact HC0_3.out); (case side5 => repeat (first | exact (Kd.C_below HR0_4.out HB.out) | (with_reducible refine Kd.C_alloc ?_ _) | (with_reducible refine Kd.C_drewN ?_ _) | (with_reducible refine Kd.C_drew ?_))); (case side6 => exact HC0_4.out); (case side7 => repeat (first | exact (Kd.C_below HR0_5.out HB.out) | (with_reducible refine Kd.C_alloc ?_ _) | (with_reducible refine Kd.C_drewN ?_ _) | (with_reducible refine Kd.C_drew ?_))); (case side8 => exact HC0_5.out); rintro e w17 ⟨v231, v235, v238, v241, rfl, ho0, ho1, ho2, ho3, hb⟩; refine ⟨_, rfl, ?_⟩; have n0_ := Aside0.mk (Kd.R_lower ho0 (below_size (by repeat (first | (with_reducible first | exact HB.out | apply below_alloc | apply pw_below_drewN | apply below_drew1 | refine below_set ?_ GE226.out) | exact HB.out)))); have n1_ := Aside0.mk (Kd.R_lower ho1 (below_size (by repeat (first | (with_reducible first | exact HB.out | apply below_alloc | apply pw_below_drewN | apply below_drew1 | refine below_set ?_ GE226.out) | exact HB.out)))); have n2_ := Aside0.mk (Kd.R_lower ho2 (below_size (by repeat (first | (with_reducible first | exact HB.out | apply below_alloc | apply pw_below_drewN | apply below_drew1 | refine below_set ?_ GE226.out) | exact HB.out)))); have n3_ := Aside0.mk (Kd.R_lower ho3 (below_size (by repeat (first | (with_reducible first | exact HB.out | apply below_alloc | apply pw_below_drewN | apply below_drew1 | refine below_set ?_ GE226.out) | exact HB.out)))); have n4_ := Aside0.mk (blk_below (g := gb226) (o := .cells #[.string a0_0, .slice A0_1 l0_1.length c0_1, .int .i64 a0_2, .slice A0_3 l0_3.length c0_3, .slice A0_4 l0_4.length c0_4, .slice A0_5 l0_5.length c0_5] 27 (0, 0)) (by (with_reducible repeat (first | refine blk_drewN ?_ _ | refine blk_drew ?_ | refine blk_alloc ?_ _)); exact BK226.out) hb); have n5_ := Aside0.mk (below_step (by repeat (first | (with_reducible first | exact HB.out | apply below_alloc | apply pw_below_drewN | apply below_drew1 | refine below_set ?_ GE226.out) | exact HB.out)) hb); clear BK226; clear HB; have HO232 := n0_; have HO236 := n1_; have HO239 := n2_; have HO242 := n3_; have BK226 := n4_; have HB := n5_; clear n0_ n1_ n2_ n3_ n4_ n5_; (try clear hb); (try clear hb2); (try clear hk); (try clear hi); (try clear ho0); (try clear ho1); (try clear ho2); (try clear ho3); obtain ⟨Ao18, co18, eo18⟩ := Kd.R_slice HO232.out; subst eo18; obtain ⟨Ao19, co19, eo19⟩ := Kd.R_slice HO236.out; subst eo19; obtain ⟨Ao20, co20, eo20⟩ := Kd.R_slice HO239.out; subst eo20; obtain ⟨Ao21, co21, eo21⟩ := Kd.R_slice HO242.out; subst eo21) | ((with_reducible refine gate_callee (f := 8) rfl ?_); refine goesL_ (some 24) rfl rfl Try.func8 (by kernel_rfl) rfl #[.agg #[.string t229, .slice Ao18 t230.length co18, .int .i64 t233, .slice Ao19 t234.length co19, .slice Ao20 t237.length co20, .slice Ao21 t240.length co21]] rfl (by (try simp only [List.map_toArray, List.map_cons, List.map_nil]); first | done | rfl | (simp only [List.length_drop, List.length_take]; rfl)) ?_; (with_reducible refine (object_Check.calls t229 _ _ t230 t233 _ _ t234 _ _ t237 _ _ t240 t243 t244 _ ?side1 ?side2 ?side3 ?side4 ?side5 ?side6 ?side7 ?side8 A11.out).mono ?_); (case side1 => repeat (first | exact (Kd.R_reads' HO232.out).2.2 | (with_reducible refine Kd.C_alloc ?_ _) | (with_reducible refine Kd.C_drewN ?_ _) | (with_reducible refine Kd.C_drew ?_))); (case side2 => exact (Kd.R_reads' HO232.out).2.1); (case side3 => repeat (first | exact (Kd.R_reads' HO236.out).2.2 | (with_reducible refine Kd.C_alloc ?_ _) | (with_reducible refine Kd.C_drewN ?_ _) | (with_reducible refine Kd.C_drew ?_))); (case side4 => exact (Kd.R_reads' HO236.out).2.1); (case side5 => repeat (first | exact (Kd.R_reads' HO239.out).2.2 | (with_reducible refine Kd.C_alloc ?_ _) | (with_reducible refine Kd.C_drewN ?_ _) | (with_reducible refine Kd.C_drew ?_))); (case side6 => exact (Kd.R_reads' HO239.out).2.1); (case side7 => repeat (first | exact (Kd.R_reads' HO242.out).2.2 | (with_reducible refine Kd.C_alloc ?_ _) | (with_reducible refine Kd.C_drewN ?_ _) | (with_reducible refine Kd.C_drew ?_))); (case side8 => exact (Kd.R_reads' HO242.out).2.1); rintro e w22 ⟨rfl, hb⟩; refine ⟨_, rfl, ?_⟩; have n0_ := Aside0.mk (Kd.R_below (by (with_reducible repeat (first | apply Kd.R_alloc | apply Kd.R_drewN | apply Kd.R_drew)); exact HO232.out) hb); have n1_ := Aside0.mk (Kd.R_below (by (with_reducible repeat (first | apply Kd.R_alloc | apply Kd.R_drewN | apply Kd.R_drew)); exact HO236.out) hb); have n2_ := Aside0.mk (Kd.R_below (by (with_reducible repeat (first | apply Kd.R_alloc | apply Kd.R_drewN | apply Kd.R_drew)); exact HO239.out) hb); have n3_ := Aside0.mk (Kd.R_below (by (with_reducible repeat (first | apply Kd.R_alloc | apply Kd.R_drewN | apply Kd.R_drew)); exact HO242.out) hb); have n4_ := Aside0.mk (blk_below (g := gb226) (o := .cells #[.string a0_0, .slice A0_1 l0_1.length c0_1, .int .i64 a0_2, .slice A0_3 l0_3.length c0_3, .slice A0_4 l0_4.length c0_4, .slice A0_5 l0_5.length c0_5] 27 (0, 0)) (by (with_reducible repeat (first | refine blk_drewN ?_ _ | refine blk_drew ?_ | refine blk_alloc ?_ _)); exact BK226.out) hb); have n5_ := Aside0.mk (below_step (by repeat (first | (with_reducible first | exact HB.out | apply below_alloc | apply pw_below_drewN | apply below_drew1 | refine below_set ?_ GE226.out) | exact HB.out)) hb); clear HO232; clear HO236; clear HO239; clear HO242; clear BK226; clear HB; have HO232 := n0_; have HO236 := n1_; have HO239 := n2_; have HO242 := n3_; have BK226 := n4_; have HB := n5_; clear n0_ n1_ n2_ n3_ n4_ n5_; (try clear hb); (try clear hb2); (try clear hk); (try clear hi)))
   go_loopg [7] k (fun kq v7 w' => ∃ (x7_1 : Int), v7 = .int .i64 x7_1 ∧ Aside0 (pleatlaw03_ObjectFinds.l0 kq a1 x7_1 a0_0 l0_1 a0_2 l0_3 l0_4 l0_5 = some r) ∧ Aside0 (kq ≤ k) ∧ Aside0 (w'.heap[gb226]? = some (.cells #[.string a0_0, (.slice A0_1 l0_1.length c0_1), .int .i64 a0_2, (.slice A0_3 l0_3.length c0_3), (.slice A0_4 l0_4.length c0_4), (.slice A0_5 l0_5.length c0_5)] 27 (0, 0))) ∧ Aside0 (Below w.heap.size w w'))
   case atStart => exact ⟨(0), (by first | rfl | (simp; done) | (simp [*]; done)), H', ⟨Nat.le_refl _⟩, ⟨by (with_reducible repeat (first | refine blk_drewN ?_ _ | refine blk_drew ?_ | refine blk_alloc ?_ _)); exact BK226.out⟩, ⟨by repeat (first | (with_reducible first | exact HB.out | apply below_alloc | apply pw_below_drewN | apply below_drew1 | refine below_set ?_ GE226.out) | exact HB.out)⟩⟩
   case round =>
    clear H'
    try clear c1
    try clear p2
    try clear c3
    try clear c4
    try clear c6
    try clear c7
    try clear c8
    try clear c9
    try clear c12
    try clear c12b0
    try clear c12b1
    try clear hcz14_0
    try clear hcz14_1
    try clear hcz14_2
    try clear hcz14_3
    try clear hcz14_4
    try clear hcz14_5
    try clear hcz16_0
    try clear hcz16_1
    try clear hcz16_2
    try clear hcz16_3
    try clear hcz16_4
    try clear hcz16_5
    try clear hcz7_0
    try clear hcz7_1
    try clear hcz7_2
    try clear hcz7_3
    try clear hcz7_4
    try clear hcz7_5
    try clear hfz14_0
    try clear hfz14_1
    try clear hfz14_2
    try clear hfz14_3
    try clear hfz14_4
    try clear hfz14_5
    try clear hfz16_0
    try clear hfz16_1
    try clear hfz16_2
    try clear hfz16_3
    try clear hfz16_4
    try clear hfz16_5
    try clear hfz7_0
    try clear hfz7_1
    try clear hfz7_2
    try clear hfz7_3
    try clear hfz7_4
    try clear hfz7_5
    obtain ⟨x7_1, rfl, HA, HK1, BK226, HB⟩ := hrel
    cases gk with
    | zero => exact absurd HA.out (by simp [pleatlaw03_ObjectFinds.l0])
    | succ k1 =>
     have H := HA.out
     clear HA
     simp only [pleatlaw03_ObjectFinds.l0] at H
     by_cases c23 : x7_1 < (l0_4.length : Int)
     ·
      rw [if_pos c23] at H
      have c23b0 : decide (x7_1 < (l0_4.length : Int)) = true := decide_eq_true c23
      clear c23
      replace H := Option.bind_eq_some_iff.mp H
      obtain ⟨⟨t246, t247, t250, t251, t254, t257⟩, A240, H⟩ := H
      try dsimp only at H
      have A24 := Aside0.mk A240
      clear A240
      by_cases c25 : 0 ≤ x7_1
      ·
       rw [if_pos c25] at H
       have c25b0 : decide (0 ≤ x7_1) = true := decide_eq_true c25
       clear c25
       replace H := Option.bind_eq_some_iff.mp H
       obtain ⟨t261, A260, H⟩ := H
       try dsimp only at H
       have A26 := Aside0.mk A260
       clear A260
       by_cases c27 : t261 = x7_1
       ·
        rw [if_pos c27] at H
        have c27b0 : (t261 == x7_1) = true := beq_iff_eq.mpr c27
        have c27b1 : (t261 != x7_1) = false := bne_eq_false_iff_eq.mpr c27
        clear c27
        replace H := Option.bind_eq_some_iff.mp H
        obtain ⟨t263, A280, H⟩ := H
        try dsimp only at H
        have A28 := Aside0.mk A280
        clear A280
        by_cases c29 : t263 = true
        ·
         subst c29
         have H1 : (pleatlaw03_ObjectFinds.l0 k1 a1 (wrap64 (x7_1 + 1)) a0_0 l0_1 a0_2 l0_3 l0_4 l0_5) = some r := by rw [if_pos rfl] at H; exact H
         clear H
         have H := H1
         clear H1
         have H' := Aside0.mk H
         clear H
         have hcz30_0 : wr.cell? ⟨gb226, 0, none⟩ = some (.string a0_0) := (blk_cell BK226.out 0).trans rfl
         have hcz30_1 : wr.cell? ⟨gb226, 1, none⟩ = some (.slice A0_1 l0_1.length c0_1) := (blk_cell BK226.out 1).trans rfl
         have hcz30_2 : wr.cell? ⟨gb226, 2, none⟩ = some (.int .i64 a0_2) := (blk_cell BK226.out 2).trans rfl
         have hcz30_3 : wr.cell? ⟨gb226, 3, none⟩ = some (.slice A0_3 l0_3.length c0_3) := (blk_cell BK226.out 3).trans rfl
         have hcz30_4 : wr.cell? ⟨gb226, 4, none⟩ = some (.slice A0_4 l0_4.length c0_4) := (blk_cell BK226.out 4).trans rfl
         have hcz30_5 : wr.cell? ⟨gb226, 5, none⟩ = some (.slice A0_5 l0_5.length c0_5) := (blk_cell BK226.out 5).trans rfl
         have hfz30_0 := blk_frozen BK226.out 0
         have hfz30_1 := blk_frozen BK226.out 1
         have hfz30_2 := blk_frozen BK226.out 2
         have hfz30_3 := blk_frozen BK226.out 3
         have hfz30_4 := blk_frozen BK226.out 4
         have hfz30_5 := blk_frozen BK226.out 5
         try go_wp2
         have n0_ := Aside0.mk (blk_drew BK226.out)
         have n1_ := Aside0.mk (below_drew1 HB.out)
         clear BK226
         clear HB
         have BK226 := n0_
         have HB := n1_
         clear n0_ n1_
         have p260 : 0 ≤ (x7_1 : Int) := of_decide_eq_true (by first | (with_reducible assumption) | assumption)
         have q260 : x7_1 < (l0_4.length : Int) := of_decide_eq_true (by first | (with_reducible assumption) | assumption)
         obtain ⟨ad260, e260, hx260_0, hx260_1, hx260_2⟩ := at_T37 HR0_4.out x7_1 p260 q260
         have hw260_2 := hx260_2
         have hw260_1 := hx260_1
         have hw260_0 := hx260_0
         cases e260
         replace hx260_0 := (HB.out.cell (World.block_lt_of_cell? w _ hx260_0)).trans hx260_0
         replace hx260_1 := (HB.out.cell (World.block_lt_of_cell? w _ hx260_1)).trans hx260_1
         replace hx260_2 := (HB.out.cell (World.block_lt_of_cell? w _ hx260_2)).trans hx260_2
         replace p260 := eq_true p260
         replace q260 := eq_true q260
         have p262 : 0 ≤ (x7_1 : Int) := of_decide_eq_true (by first | (with_reducible assumption) | assumption)
         have q262 : x7_1 < (l0_4.length : Int) := of_decide_eq_true (by first | (with_reducible assumption) | assumption)
         obtain ⟨ad262, e262, hx262_0, hx262_1, hx262_2⟩ := at_T37 HR0_4.out x7_1 p262 q262
         have hw262_2 := hx262_2
         have hw262_1 := hx262_1
         have hw262_0 := hx262_0
         obtain rfl : ad260 = ad262 := (by injection e262)
         replace hx262_0 := (HB.out.cell (World.block_lt_of_cell? w _ hx262_0)).trans hx262_0
         replace hx262_1 := (HB.out.cell (World.block_lt_of_cell? w _ hx262_1)).trans hx262_1
         replace hx262_2 := (HB.out.cell (World.block_lt_of_cell? w _ hx262_2)).trans hx262_2
         replace p262 := eq_true p262
         replace q262 := eq_true q262
         refine start_ (n := 21) (S := fun w' => w'.cell? ⟨gb226, 0, none⟩ = some (.string a0_0) ∧ w'.cell? ⟨gb226, 1, none⟩ = some (.slice A0_1 l0_1.length c0_1) ∧ w'.cell? ⟨gb226, 2, none⟩ = some (.int .i64 a0_2) ∧ w'.cell? ⟨gb226, 3, none⟩ = some (.slice A0_3 l0_3.length c0_3) ∧ w'.cell? ⟨gb226, 4, none⟩ = some (.slice (some ad260) l0_4.length c0_4) ∧ w'.cell? ⟨gb226, 5, none⟩ = some (.slice A0_5 l0_5.length c0_5) ∧ w'.cell? (ad260.add ((x7_1).toNat * 3)) = some (.string ((rd_T37 l0_4 x7_1).f0)) ∧ w'.cell? ⟨(ad260.add ((x7_1).toNat * 3)).block, (ad260.add ((x7_1).toNat * 3)).off + 1, none⟩ = some (.int .i8 ((rd_T37 l0_4 x7_1).f1)) ∧ w'.cell? ⟨(ad260.add ((x7_1).toNat * 3)).block, (ad260.add ((x7_1).toNat * 3)).off + 2, none⟩ = some (.int .i64 ((rd_T37 l0_4 x7_1).f2)) ∧ w'.cell? (ad260.add ((x7_1).toNat * 3)) = some (.string ((rd_T37 l0_4 x7_1).f0)) ∧ w'.cell? ⟨(ad260.add ((x7_1).toNat * 3)).block, (ad260.add ((x7_1).toNat * 3)).off + 1, none⟩ = some (.int .i8 ((rd_T37 l0_4 x7_1).f1)) ∧ w'.cell? ⟨(ad260.add ((x7_1).toNat * 3)).block, (ad260.add ((x7_1).toNat * 3)).off + 2, none⟩ = some (.int .i64 ((rd_T37 l0_4 x7_1).f2))) (ds := []) #[false, false, false, false, false, false, false, false, false, false, false, false, false, false, false, false, false, false, false, false, false] (by kernel_rfl) rfl rfl ⟨(blk_cell BK226.out 0).trans rfl, (blk_cell BK226.out 1).trans rfl, (blk_cell BK226.out 2).trans rfl, (blk_cell BK226.out 3).trans rfl, (blk_cell BK226.out 4).trans rfl, (blk_cell BK226.out 5).trans rfl, ((HB.out.cell (World.block_lt_of_cell? w _ hw260_0)).trans hw260_0), ((HB.out.cell (World.block_lt_of_cell? w _ hw260_1)).trans hw260_1), ((HB.out.cell (World.block_lt_of_cell? w _ hw260_2)).trans hw260_2), ((HB.out.cell (World.block_lt_of_cell? w _ hw262_0)).trans hw262_0), ((HB.out.cell (World.block_lt_of_cell? w _ hw262_1)).trans hw262_1), ((HB.out.cell (World.block_lt_of_cell? w _ hw262_2)).trans hw262_2)⟩ (fun hHeld => ?_); refine with_tabW pleatlaw03_ObjectFinds.tab9 pleatlaw03_ObjectFinds.bits9 (fun HT_ HW_ => ?_)
         generalize wr.drew = w31 at BK226 HB hx260_0 hx260_1 hx260_2 hx262_0 hx262_1 hx262_2 hHeld ⊢
         refine pure_ (i := 2) (N := some 39) (v := ?_) (a' := ?_) #[false, false, true, false, false, false, false, false, false, false, false, false, false, false, false, false, false, false, false, false, false] rfl rfl (any_of HT_.out (by kernel_rfl)) (fun _ _ _ h => h) (Or.inl ⟨by rfl, ?_⟩) ?_ ?_
         rotate_left
         ·
          intro w'
          go_simp
          with_reducible rfl
         rotate_left
         ·
          simp only [Act.put, List.setIfInBounds_toArray, List.set_cons_zero, List.set_cons_succ, i64_w, i32_w]
          rfl
         refine pure_ (i := 4) (N := some 41) (v := ?_) (a' := ?_) #[false, false, true, false, true, false, false, false, false, false, false, false, false, false, false, false, false, false, false, false, false] rfl rfl (any_of HT_.out (by kernel_rfl)) (fun _ _ _ h => h) (Or.inl ⟨by rfl, ?_⟩) ?_ ?_
         rotate_left
         ·
          intro w'
          go_simp
          with_reducible rfl
         rotate_left
         ·
          simp only [Act.put, List.setIfInBounds_toArray, List.set_cons_zero, List.set_cons_succ, i64_w, i32_w]
          rfl
         refine pure_ (i := 9) (N := some 46) (v := ?_) (a' := ?_) #[false, false, true, false, true, false, false, false, false, true, false, false, false, false, false, false, false, false, false, false, false] rfl rfl (any_of HT_.out (by kernel_rfl)) (fun _ _ _ h => h) (Or.inl ⟨by rfl, ?_⟩) ?_ ?_
         rotate_left
         ·
          intro w'
          go_simp
          with_reducible rfl
         rotate_left
         ·
          simp only [Act.put, List.setIfInBounds_toArray, List.set_cons_zero, List.set_cons_succ, i64_w, i32_w]
          rfl
         refine take_ (i := 0) (N := some 37) (v := ?_) (a' := ?_) #[true, false, true, false, true, false, false, false, false, true, false, false, false, false, false, false, false, false, false, false, false] rfl rfl (take_ofW HT_.out HW_.out (by kernel_rfl)) (fun _ _ _ h => h) (Or.inl ⟨by rfl, ?_⟩) hHeld ?_ ?_
         rotate_left
         ·
          rintro w' ⟨s0, s1, s2, s3, s4, s5, s6, s7, s8, s9, s10, s11⟩
          go_simp
          with_reducible rfl
         rotate_left
         ·
          simp only [Act.put, List.setIfInBounds_toArray, List.set_cons_zero, List.set_cons_succ, i64_w, i32_w]
          rfl
         refine take_ (i := 3) (N := some 40) (v := ?_) (a' := ?_) #[true, false, true, true, true, false, false, false, false, true, false, false, false, false, false, false, false, false, false, false, false] rfl rfl (take_ofW HT_.out HW_.out (by kernel_rfl)) (fun _ _ _ h => h) (Or.inl ⟨by rfl, ?_⟩) hHeld ?_ ?_
         rotate_left
         ·
          rintro w' ⟨s0, s1, s2, s3, s4, s5, s6, s7, s8, s9, s10, s11⟩
          go_simp
          with_reducible rfl
         rotate_left
         ·
          simp only [Act.put, List.setIfInBounds_toArray, List.set_cons_zero, List.set_cons_succ, i64_w, i32_w]
          rfl
         refine pure_ (i := 5) (N := some 42) (v := ?_) (a' := ?_) #[true, false, true, true, true, true, false, false, false, true, false, false, false, false, false, false, false, false, false, false, false] rfl rfl (any_of HT_.out (by kernel_rfl)) (fun _ _ _ h => h) (Or.inl ⟨by rfl, ?_⟩) ?_ ?_
         rotate_left
         ·
          intro w'
          go_simp
          with_reducible rfl
         rotate_left
         ·
          simp only [Act.put, List.setIfInBounds_toArray, List.set_cons_zero, List.set_cons_succ, i64_w, i32_w]
          rfl
         refine pure_ (i := 6) (N := some 43) (v := ?_) (a' := ?_) #[true, false, true, true, true, true, true, false, false, true, false, false, false, false, false, false, false, false, false, false, false] rfl rfl (any_of HT_.out (by kernel_rfl)) (fun _ _ _ h => h) (Or.inl ⟨by rfl, ?_⟩) ?_ ?_
         rotate_left
         ·
          intro w'
          go_simp
          with_reducible rfl
         rotate_left
         ·
          simp only [Act.put, List.setIfInBounds_toArray, List.set_cons_zero, List.set_cons_succ, i64_w, i32_w]
          rfl
         refine take_ (i := 7) (N := some 44) (v := ?_) (a' := ?_) #[true, false, true, true, true, true, true, true, false, true, false, false, false, false, false, false, false, false, false, false, false] rfl rfl (take_ofW HT_.out HW_.out (by kernel_rfl)) (fun _ _ _ h => h) (Or.inl ⟨by rfl, ?_⟩) hHeld ?_ ?_
         rotate_left
         ·
          rintro w' ⟨s0, s1, s2, s3, s4, s5, s6, s7, s8, s9, s10, s11⟩
          go_simp
          with_reducible rfl
         rotate_left
         ·
          simp only [Act.put, List.setIfInBounds_toArray, List.set_cons_zero, List.set_cons_succ, i64_w, i32_w]
          rfl
         refine one_ (i := 1) (N := some 38) #[true, true, true, true, true, true, true, true, false, true, false, false, false, false, false, false, false, false, false, false, false] rfl rfl (one_of HT_.out (by kernel_rfl)) (by decide) (fun K hK => ?_)
         refine goes_ Try.func9 (by kernel_rfl) rfl #[.agg #[.string a0_0, .slice A0_1 l0_1.length c0_1, .int .i64 a0_2, .slice A0_3 l0_3.length c0_3, .slice (some ad260) l0_4.length c0_4, .slice A0_5 l0_5.length c0_5]] (by rfl) rfl rfl (by (try simp only [List.map_toArray, List.map_cons, List.map_nil]); first | done | rfl | (simp only [List.length_drop, List.length_take]; rfl)) ?_
         with_reducible refine (pleatref00_CopyObject.calls a0_0 _ _ l0_1 a0_2 _ _ l0_3 _ _ l0_4 _ _ l0_5 t246 t247 t250 t251 t254 t257 _ ?side1 ?side2 ?side3 ?side4 ?side5 ?side6 ?side7 ?side8 A24.out).mono ?_
         (case side1 => repeat (first | exact (Kd.C_below HR0_1.out HB.out) | (with_reducible refine Kd.C_alloc ?_ _) | (with_reducible refine Kd.C_drewN ?_ _) | (with_reducible refine Kd.C_drew ?_)))
         (case side2 => exact HC0_1.out)
         (case side3 => repeat (first | exact (Kd.C_below HR0_3.out HB.out) | (with_reducible refine Kd.C_alloc ?_ _) | (with_reducible refine Kd.C_drewN ?_ _) | (with_reducible refine Kd.C_drew ?_)))
         (case side4 => exact HC0_3.out)
         (case side5 => repeat (first | exact (Kd.C_below HR0_4.out HB.out) | (with_reducible refine Kd.C_alloc ?_ _) | (with_reducible refine Kd.C_drewN ?_ _) | (with_reducible refine Kd.C_drew ?_)))
         (case side6 => exact HC0_4.out)
         (case side7 => repeat (first | exact (Kd.C_below HR0_5.out HB.out) | (with_reducible refine Kd.C_alloc ?_ _) | (with_reducible refine Kd.C_drewN ?_ _) | (with_reducible refine Kd.C_drew ?_)))
         (case side8 => exact HC0_5.out)
         rintro e w32 ⟨v248, v252, v255, v258, rfl, ho0, ho1, ho2, ho3, hb⟩
         refine ⟨_, rfl, ?_⟩
         have n0_ := Aside0.mk (Kd.R_lower ho0 (below_size (by repeat (first | (with_reducible first | exact HB.out | apply below_alloc | apply pw_below_drewN | apply below_drew1 | refine below_set ?_ GE226.out) | exact HB.out))))
         have n1_ := Aside0.mk (Kd.R_lower ho1 (below_size (by repeat (first | (with_reducible first | exact HB.out | apply below_alloc | apply pw_below_drewN | apply below_drew1 | refine below_set ?_ GE226.out) | exact HB.out))))
         have n2_ := Aside0.mk (Kd.R_lower ho2 (below_size (by repeat (first | (with_reducible first | exact HB.out | apply below_alloc | apply pw_below_drewN | apply below_drew1 | refine below_set ?_ GE226.out) | exact HB.out))))
         have n3_ := Aside0.mk (Kd.R_lower ho3 (below_size (by repeat (first | (with_reducible first | exact HB.out | apply below_alloc | apply pw_below_drewN | apply below_drew1 | refine below_set ?_ GE226.out) | exact HB.out))))
         have n4_ := Aside0.mk (blk_below (g := gb226) (o := .cells #[.string a0_0, .slice A0_1 l0_1.length c0_1, .int .i64 a0_2, .slice A0_3 l0_3.length c0_3, .slice (some ad260) l0_4.length c0_4, .slice A0_5 l0_5.length c0_5] 27 (0, 0)) (by (with_reducible repeat (first | refine blk_drewN ?_ _ | refine blk_drew ?_ | refine blk_alloc ?_ _)); exact BK226.out) hb)
         have n5_ := Aside0.mk (below_step (by repeat (first | (with_reducible first | exact HB.out | apply below_alloc | apply pw_below_drewN | apply below_drew1 | refine below_set ?_ GE226.out) | exact HB.out)) hb)
         clear BK226
         clear HB
         have HO249 := n0_
         have HO253 := n1_
         have HO256 := n2_
         have HO259 := n3_
         have BK226 := n4_
         have HB := n5_
         clear n0_ n1_ n2_ n3_ n4_ n5_
         (try clear hb)
         (try clear hb2)
         (try clear hk)
         (try clear hi)
         (try clear ho0)
         (try clear ho1)
         (try clear ho2)
         (try clear ho3)
         obtain ⟨Ao33, co33, eo33⟩ := Kd.R_slice HO249.out
         (first | subst eo33 | (injection eo33 with f1_ f2_ f3_; have f4_ := f1_.symm; have f5_ := f3_.symm; clear f1_ f2_ f3_; subst f4_; subst f5_))
         obtain ⟨Ao34, co34, eo34⟩ := Kd.R_slice HO253.out
         (first | subst eo34 | (injection eo34 with f1_ f2_ f3_; have f4_ := f1_.symm; have f5_ := f3_.symm; clear f1_ f2_ f3_; subst f4_; subst f5_))
         obtain ⟨Ao35, co35, eo35⟩ := Kd.R_slice HO256.out
         (first | subst eo35 | (injection eo35 with f1_ f2_ f3_; have f4_ := f1_.symm; have f5_ := f3_.symm; clear f1_ f2_ f3_; subst f4_; subst f5_))
         obtain ⟨Ao36, co36, eo36⟩ := Kd.R_slice HO259.out
         (first | subst eo36 | (injection eo36 with f1_ f2_ f3_; have f4_ := f1_.symm; have f5_ := f3_.symm; clear f1_ f2_ f3_; subst f4_; subst f5_))
         refine hK.out _ _ ⟨(blk_cell BK226.out 0).trans rfl, (blk_cell BK226.out 1).trans rfl, (blk_cell BK226.out 2).trans rfl, (blk_cell BK226.out 3).trans rfl, (blk_cell BK226.out 4).trans rfl, (blk_cell BK226.out 5).trans rfl, ((HB.out.cell (World.block_lt_of_cell? w _ hw260_0)).trans hw260_0), ((HB.out.cell (World.block_lt_of_cell? w _ hw260_1)).trans hw260_1), ((HB.out.cell (World.block_lt_of_cell? w _ hw260_2)).trans hw260_2), ((HB.out.cell (World.block_lt_of_cell? w _ hw262_0)).trans hw262_0), ((HB.out.cell (World.block_lt_of_cell? w _ hw262_1)).trans hw262_1), ((HB.out.cell (World.block_lt_of_cell? w _ hw262_2)).trans hw262_2)⟩ (fun hHeld => ?_)
         clear hK K
         refine norm_ (a' := ?_) ?_ ?_
         rotate_left
         ·
          show Act.put _ (some 38) _ = _
          simp only [Act.put, List.setIfInBounds_toArray, List.set_cons_zero, List.set_cons_succ, i64_w, i32_w]
          rfl
         refine one_ (i := 8) (N := some 45) #[true, true, true, true, true, true, true, true, true, true, false, false, false, false, false, false, false, false, false, false, false] rfl rfl (one_of HT_.out (by kernel_rfl)) (by decide) (fun K hK => ?_)
         refine goes_ Try.func10 (by kernel_rfl) rfl #[.agg #[.string t246, .slice Ao33 t247.length co33, .int .i64 t250, .slice Ao34 t251.length co34, .slice Ao35 t254.length co35, .slice Ao36 t257.length co36], .string ((rd_T37 l0_4 x7_1).f0)] (by rfl) rfl rfl (by (try simp only [List.map_toArray, List.map_cons, List.map_nil]); first | done | rfl | (simp only [List.length_drop, List.length_take]; rfl)) ?_
         with_reducible refine (object_Of.calls k1 t246 _ _ t247 t250 _ _ t251 _ _ t254 _ _ t257 ((rd_T37 l0_4 x7_1).f0) t261 _ ?side1 ?side2 ?side3 ?side4 ?side5 ?side6 ?side7 ?side8 A26.out).mono ?_
         (case side1 => repeat (first | exact (Kd.R_reads' HO249.out).2.2 | (with_reducible refine Kd.C_alloc ?_ _) | (with_reducible refine Kd.C_drewN ?_ _) | (with_reducible refine Kd.C_drew ?_)))
         (case side2 => exact (Kd.R_reads' HO249.out).2.1)
         (case side3 => repeat (first | exact (Kd.R_reads' HO253.out).2.2 | (with_reducible refine Kd.C_alloc ?_ _) | (with_reducible refine Kd.C_drewN ?_ _) | (with_reducible refine Kd.C_drew ?_)))
         (case side4 => exact (Kd.R_reads' HO253.out).2.1)
         (case side5 => repeat (first | exact (Kd.R_reads' HO256.out).2.2 | (with_reducible refine Kd.C_alloc ?_ _) | (with_reducible refine Kd.C_drewN ?_ _) | (with_reducible refine Kd.C_drew ?_)))
         (case side6 => exact (Kd.R_reads' HO256.out).2.1)
         (case side7 => repeat (first | exact (Kd.R_reads' HO259.out).2.2 | (with_reducible refine Kd.C_alloc ?_ _) | (with_reducible refine Kd.C_drewN ?_ _) | (with_reducible refine Kd.C_drew ?_)))
         (case side8 => exact (Kd.R_reads' HO259.out).2.1)
         rintro e w37 ⟨rfl, hb⟩
         refine ⟨_, rfl, ?_⟩
         have n0_ := Aside0.mk (Kd.R_below (by (with_reducible repeat (first | apply Kd.R_alloc | apply Kd.R_drewN | apply Kd.R_drew)); exact HO249.out) hb)
         have n1_ := Aside0.mk (Kd.R_below (by (with_reducible repeat (first | apply Kd.R_alloc | apply Kd.R_drewN | apply Kd.R_drew)); exact HO253.out) hb)
         have n2_ := Aside0.mk (Kd.R_below (by (with_reducible repeat (first | apply Kd.R_alloc | apply Kd.R_drewN | apply Kd.R_drew)); exact HO256.out) hb)
         have n3_ := Aside0.mk (Kd.R_below (by (with_reducible repeat (first | apply Kd.R_alloc | apply Kd.R_drewN | apply Kd.R_drew)); exact HO259.out) hb)
         have n4_ := Aside0.mk (blk_below (g := gb226) (o := .cells #[.string a0_0, .slice A0_1 l0_1.length c0_1, .int .i64 a0_2, .slice A0_3 l0_3.length c0_3, .slice (some ad260) l0_4.length c0_4, .slice A0_5 l0_5.length c0_5] 27 (0, 0)) (by (with_reducible repeat (first | refine blk_drewN ?_ _ | refine blk_drew ?_ | refine blk_alloc ?_ _)); exact BK226.out) hb)
         have n5_ := Aside0.mk (below_step (by repeat (first | (with_reducible first | exact HB.out | apply below_alloc | apply pw_below_drewN | apply below_drew1 | refine below_set ?_ GE226.out) | exact HB.out)) hb)
         clear HO249
         clear HO253
         clear HO256
         clear HO259
         clear BK226
         clear HB
         have HO249 := n0_
         have HO253 := n1_
         have HO256 := n2_
         have HO259 := n3_
         have BK226 := n4_
         have HB := n5_
         clear n0_ n1_ n2_ n3_ n4_ n5_
         (try clear hb)
         (try clear hb2)
         (try clear hk)
         (try clear hi)
         refine hK.out _ _ ⟨(blk_cell BK226.out 0).trans rfl, (blk_cell BK226.out 1).trans rfl, (blk_cell BK226.out 2).trans rfl, (blk_cell BK226.out 3).trans rfl, (blk_cell BK226.out 4).trans rfl, (blk_cell BK226.out 5).trans rfl, ((HB.out.cell (World.block_lt_of_cell? w _ hw260_0)).trans hw260_0), ((HB.out.cell (World.block_lt_of_cell? w _ hw260_1)).trans hw260_1), ((HB.out.cell (World.block_lt_of_cell? w _ hw260_2)).trans hw260_2), ((HB.out.cell (World.block_lt_of_cell? w _ hw262_0)).trans hw262_0), ((HB.out.cell (World.block_lt_of_cell? w _ hw262_1)).trans hw262_1), ((HB.out.cell (World.block_lt_of_cell? w _ hw262_2)).trans hw262_2)⟩ (fun hHeld => ?_)
         clear hK K
         refine norm_ (a' := ?_) ?_ ?_
         rotate_left
         ·
          show Act.put _ (some 45) _ = _
          simp only [Act.put, List.setIfInBounds_toArray, List.set_cons_zero, List.set_cons_succ, i64_w, i32_w]
          rfl
         refine pure_ (i := 10) (N := some 47) (v := ?_) (a' := ?_) #[true, true, true, true, true, true, true, true, true, true, true, false, false, false, false, false, false, false, false, false, false] rfl rfl (any_of HT_.out (by kernel_rfl)) (fun _ _ _ h => h) (Or.inl ⟨by rfl, ?_⟩) ?_ ?_
         rotate_left
         ·
          intro w'
          go_simp
          with_reducible rfl
         rotate_left
         ·
          simp only [Act.put, List.setIfInBounds_toArray, List.set_cons_zero, List.set_cons_succ, i64_w, i32_w]
          rfl
         refine pure_ (i := 11) (N := some 48) (v := ?_) (a' := ?_) #[true, true, true, true, true, true, true, true, true, true, true, true, false, false, false, false, false, false, false, false, false] rfl rfl (any_of HT_.out (by kernel_rfl)) (fun _ _ _ h => h) (Or.inl ⟨by rfl, ?_⟩) ?_ ?_
         rotate_left
         ·
          intro w'
          go_simp
          with_reducible rfl
         rotate_left
         ·
          simp only [Act.put, List.setIfInBounds_toArray, List.set_cons_zero, List.set_cons_succ, i64_w, i32_w]
          rfl
         refine pure_ (i := 12) (N := some 49) (v := ?_) (a' := ?_) #[true, true, true, true, true, true, true, true, true, true, true, true, true, false, false, false, false, false, false, false, false] rfl rfl (any_of HT_.out (by kernel_rfl)) (fun _ _ _ h => h) (Or.inl ⟨by rfl, ?_⟩) ?_ ?_
         rotate_left
         ·
          intro w'
          go_simp
          with_reducible rfl
         rotate_left
         ·
          simp only [Act.put, List.setIfInBounds_toArray, List.set_cons_zero, List.set_cons_succ, i64_w, i32_w]
          rfl
         refine pure_ (i := 14) (N := some 51) (v := ?_) (a' := ?_) #[true, true, true, true, true, true, true, true, true, true, true, true, true, false, true, false, false, false, false, false, false] rfl rfl (any_of HT_.out (by kernel_rfl)) (fun _ _ _ h => h) (Or.inl ⟨by rfl, ?_⟩) ?_ ?_
         rotate_left
         ·
          intro w'
          go_simp
          with_reducible rfl
         rotate_left
         ·
          simp only [Act.put, List.setIfInBounds_toArray, List.set_cons_zero, List.set_cons_succ, i64_w, i32_w]
          rfl
         refine take_ (i := 13) (N := some 50) (v := ?_) (a' := ?_) #[true, true, true, true, true, true, true, true, true, true, true, true, true, true, true, false, false, false, false, false, false] rfl rfl (take_ofW HT_.out HW_.out (by kernel_rfl)) (fun _ _ _ h => h) (Or.inl ⟨by rfl, ?_⟩) hHeld ?_ ?_
         rotate_left
         ·
          rintro w' ⟨s0, s1, s2, s3, s4, s5, s6, s7, s8, s9, s10, s11⟩
          go_simp
          with_reducible rfl
         rotate_left
         ·
          simp only [Act.put, List.setIfInBounds_toArray, List.set_cons_zero, List.set_cons_succ, i64_w, i32_w]
          rfl
         refine pure_ (i := 15) (N := some 52) (v := ?_) (a' := ?_) #[true, true, true, true, true, true, true, true, true, true, true, true, true, true, true, true, false, false, false, false, false] rfl rfl (any_of HT_.out (by kernel_rfl)) (fun _ _ _ h => h) (Or.inl ⟨by rfl, ?_⟩) ?_ ?_
         rotate_left
         ·
          intro w'
          go_simp
          with_reducible rfl
         rotate_left
         ·
          simp only [Act.put, List.setIfInBounds_toArray, List.set_cons_zero, List.set_cons_succ, i64_w, i32_w]
          rfl
         refine pure_ (i := 16) (N := some 53) (v := ?_) (a' := ?_) #[true, true, true, true, true, true, true, true, true, true, true, true, true, true, true, true, true, false, false, false, false] rfl rfl (any_of HT_.out (by kernel_rfl)) (fun _ _ _ h => h) (Or.inl ⟨by rfl, ?_⟩) ?_ ?_
         rotate_left
         ·
          intro w'
          go_simp
          with_reducible rfl
         rotate_left
         ·
          simp only [Act.put, List.setIfInBounds_toArray, List.set_cons_zero, List.set_cons_succ, i64_w, i32_w]
          rfl
         refine take_ (i := 17) (N := some 54) (v := ?_) (a' := ?_) #[true, true, true, true, true, true, true, true, true, true, true, true, true, true, true, true, true, true, false, false, false] rfl rfl (take_ofW HT_.out HW_.out (by kernel_rfl)) (fun _ _ _ h => h) (Or.inl ⟨by rfl, ?_⟩) hHeld ?_ ?_
         rotate_left
         ·
          rintro w' ⟨s0, s1, s2, s3, s4, s5, s6, s7, s8, s9, s10, s11⟩
          go_simp
          with_reducible rfl
         rotate_left
         ·
          simp only [Act.put, List.setIfInBounds_toArray, List.set_cons_zero, List.set_cons_succ, i64_w, i32_w]
          rfl
         refine one_ (i := 18) (N := some 55) #[true, true, true, true, true, true, true, true, true, true, true, true, true, true, true, true, true, true, true, false, false] rfl rfl (one_of HT_.out (by kernel_rfl)) (by decide) (fun K hK => ?_)
         refine goes_ Try.func11 (by kernel_rfl) rfl #[.string ((rd_T37 l0_4 x7_1).f0)] (by rfl) rfl rfl (by (try simp only [List.map_toArray, List.map_cons, List.map_nil]); first | done | rfl | (simp only [List.length_drop, List.length_take]; rfl)) ?_
         with_reducible refine (object_Name.calls ((rd_T37 l0_4 x7_1).f0) true _ A28.out).mono ?_
         rintro e w38 ⟨rfl, hb⟩
         refine ⟨_, rfl, ?_⟩
         have n0_ := Aside0.mk (Kd.R_below (by (with_reducible repeat (first | apply Kd.R_alloc | apply Kd.R_drewN | apply Kd.R_drew)); exact HO249.out) hb)
         have n1_ := Aside0.mk (Kd.R_below (by (with_reducible repeat (first | apply Kd.R_alloc | apply Kd.R_drewN | apply Kd.R_drew)); exact HO253.out) hb)
         have n2_ := Aside0.mk (Kd.R_below (by (with_reducible repeat (first | apply Kd.R_alloc | apply Kd.R_drewN | apply Kd.R_drew)); exact HO256.out) hb)
         have n3_ := Aside0.mk (Kd.R_below (by (with_reducible repeat (first | apply Kd.R_alloc | apply Kd.R_drewN | apply Kd.R_drew)); exact HO259.out) hb)
         have n4_ := Aside0.mk (blk_below (g := gb226) (o := .cells #[.string a0_0, .slice A0_1 l0_1.length c0_1, .int .i64 a0_2, .slice A0_3 l0_3.length c0_3, .slice (some ad260) l0_4.length c0_4, .slice A0_5 l0_5.length c0_5] 27 (0, 0)) (by (with_reducible repeat (first | refine blk_drewN ?_ _ | refine blk_drew ?_ | refine blk_alloc ?_ _)); exact BK226.out) hb)
         have n5_ := Aside0.mk (below_step (by repeat (first | (with_reducible first | exact HB.out | apply below_alloc | apply pw_below_drewN | apply below_drew1 | refine below_set ?_ GE226.out) | exact HB.out)) hb)
         clear HO249
         clear HO253
         clear HO256
         clear HO259
         clear BK226
         clear HB
         have HO249 := n0_
         have HO253 := n1_
         have HO256 := n2_
         have HO259 := n3_
         have BK226 := n4_
         have HB := n5_
         clear n0_ n1_ n2_ n3_ n4_ n5_
         (try clear hb)
         (try clear hb2)
         (try clear hk)
         (try clear hi)
         refine hK.out _ _ ⟨(blk_cell BK226.out 0).trans rfl, (blk_cell BK226.out 1).trans rfl, (blk_cell BK226.out 2).trans rfl, (blk_cell BK226.out 3).trans rfl, (blk_cell BK226.out 4).trans rfl, (blk_cell BK226.out 5).trans rfl, ((HB.out.cell (World.block_lt_of_cell? w _ hw260_0)).trans hw260_0), ((HB.out.cell (World.block_lt_of_cell? w _ hw260_1)).trans hw260_1), ((HB.out.cell (World.block_lt_of_cell? w _ hw260_2)).trans hw260_2), ((HB.out.cell (World.block_lt_of_cell? w _ hw262_0)).trans hw262_0), ((HB.out.cell (World.block_lt_of_cell? w _ hw262_1)).trans hw262_1), ((HB.out.cell (World.block_lt_of_cell? w _ hw262_2)).trans hw262_2)⟩ (fun hHeld => ?_)
         clear hK K
         refine norm_ (a' := ?_) ?_ ?_
         rotate_left
         ·
          show Act.put _ (some 55) _ = _
          simp only [Act.put, List.setIfInBounds_toArray, List.set_cons_zero, List.set_cons_succ, i64_w, i32_w]
          rfl
         refine pure_ (i := 19) (N := some 56) (v := ?_) (a' := ?_) #[true, true, true, true, true, true, true, true, true, true, true, true, true, true, true, true, true, true, true, true, false] rfl rfl (any_of HT_.out (by kernel_rfl)) (fun _ _ _ h => h) (Or.inl ⟨by rfl, ?_⟩) ?_ ?_
         rotate_left
         ·
          intro w'
          go_simp
          with_reducible rfl
         rotate_left
         ·
          simp only [Act.put, List.setIfInBounds_toArray, List.set_cons_zero, List.set_cons_succ, i64_w, i32_w]
          rfl
         refine pure_ (i := 20) (N := some 57) (v := ?_) (a' := ?_) #[true, true, true, true, true, true, true, true, true, true, true, true, true, true, true, true, true, true, true, true, true] rfl rfl (any_of HT_.out (by kernel_rfl)) (fun _ _ _ h => h) (Or.inl ⟨by rfl, ?_⟩) ?_ ?_
         rotate_left
         ·
          intro w'
          go_simp
          with_reducible rfl
         rotate_left
         ·
          simp only [Act.put, List.setIfInBounds_toArray, List.set_cons_zero, List.set_cons_succ, i64_w, i32_w]
          rfl
         refine done_ (done_of HT_.out (by kernel_rfl)) ?_
         try go_wp2
         go_roundg k1
         case measure => have := HK1.out; omega
         case rel => exact ⟨(wrap64 (x7_1 + 1)), (by first | rfl | (simp; done) | (simp [*]; done)), H', ⟨by have := HK1.out; omega⟩, ⟨by (with_reducible repeat (first | refine blk_drewN ?_ _ | refine blk_drew ?_ | refine blk_alloc ?_ _)); exact BK226.out⟩, ⟨by repeat (first | (with_reducible first | exact HB.out | apply below_alloc | apply pw_below_drewN | apply below_drew1 | refine below_set ?_ GE226.out) | exact HB.out)⟩⟩
        ·
         replace c29 := Bool.eq_false_iff.mpr c29
         subst c29
         have H1 : (some false) = some r := by rw [if_neg (show ¬ (false = true) by decide)] at H; exact H
         exact absurd ((Option.some.inj H1).trans HRT.out) (by decide)
       ·
        rw [if_neg c27] at H
        exact absurd ((Option.some.inj H).trans HRT.out) (by decide)
      ·
       rw [if_neg c25] at H
       exact absurd H (by simp)
     ·
      rw [if_neg c23] at H
      have c23b0 : decide (x7_1 < (l0_4.length : Int)) = false := decide_eq_false c23
      clear c23
      have H' := Aside0.mk H
      clear H
      have hcz56_0 : wr.cell? ⟨gb226, 0, none⟩ = some (.string a0_0) := (blk_cell BK226.out 0).trans rfl
      have hcz56_1 : wr.cell? ⟨gb226, 1, none⟩ = some (.slice A0_1 l0_1.length c0_1) := (blk_cell BK226.out 1).trans rfl
      have hcz56_2 : wr.cell? ⟨gb226, 2, none⟩ = some (.int .i64 a0_2) := (blk_cell BK226.out 2).trans rfl
      have hcz56_3 : wr.cell? ⟨gb226, 3, none⟩ = some (.slice A0_3 l0_3.length c0_3) := (blk_cell BK226.out 3).trans rfl
      have hcz56_4 : wr.cell? ⟨gb226, 4, none⟩ = some (.slice A0_4 l0_4.length c0_4) := (blk_cell BK226.out 4).trans rfl
      have hcz56_5 : wr.cell? ⟨gb226, 5, none⟩ = some (.slice A0_5 l0_5.length c0_5) := (blk_cell BK226.out 5).trans rfl
      have hfz56_0 := blk_frozen BK226.out 0
      have hfz56_1 := blk_frozen BK226.out 1
      have hfz56_2 := blk_frozen BK226.out 2
      have hfz56_3 := blk_frozen BK226.out 3
      have hfz56_4 := blk_frozen BK226.out 4
      have hfz56_5 := blk_frozen BK226.out 5
      go_wp2
      go_loopg [8] k1 (fun kq v8 w' => ∃ (x8_2 : Int), v8 = .int .i64 x8_2 ∧ Aside0 (pleatlaw03_ObjectFinds.l1 kq a1 x8_2 a0_0 l0_1 a0_2 l0_3 l0_4 l0_5 = some r) ∧ Aside0 (kq ≤ k1) ∧ Aside0 (w'.heap[gb226]? = some (.cells #[.string a0_0, (.slice A0_1 l0_1.length c0_1), .int .i64 a0_2, (.slice A0_3 l0_3.length c0_3), (.slice A0_4 l0_4.length c0_4), (.slice A0_5 l0_5.length c0_5)] 27 (0, 0))) ∧ Aside0 (Below w.heap.size w w'))
      case atStart => exact ⟨(0), (by first | rfl | (simp; done) | (simp [*]; done)), H', ⟨Nat.le_refl _⟩, ⟨by (with_reducible repeat (first | refine blk_drewN ?_ _ | refine blk_drew ?_ | refine blk_alloc ?_ _)); exact BK226.out⟩, ⟨by repeat (first | (with_reducible first | exact HB.out | apply below_alloc | apply pw_below_drewN | apply below_drew1 | refine below_set ?_ GE226.out) | exact HB.out)⟩⟩
      case round =>
       clear H'
       try clear c1
       try clear c2
       try clear p2
       try clear q2
       try clear hx2
       try clear c9
       try clear c10
       try clear c11
       try clear c23
       try clear c23b0
       try clear c25
       try clear p26
       try clear q26
       try clear hx26
       try clear c27
       try clear c27b0
       try clear c27b1
       try clear hcz39_3
       try clear hcz39_4
       try clear hcz39_5
       try clear hcz48_0
       try clear hcz48_1
       try clear hcz48_2
       try clear hcz48_3
       try clear hcz48_4
       try clear hcz48_5
       try clear hcz56_0
       try clear hcz56_1
       try clear hcz56_2
       try clear hcz56_3
       try clear hcz56_4
       try clear hcz56_5
       try clear hfz39_0
       try clear hfz39_1
       try clear hfz39_2
       try clear hfz39_3
       try clear hfz39_4
       try clear hfz39_5
       try clear hfz48_0
       try clear hfz48_1
       try clear hfz48_2
       try clear hfz48_3
       try clear hfz48_4
       try clear hfz48_5
       try clear hfz56_0
       try clear hfz56_1
       try clear hfz56_2
       try clear hfz56_3
       try clear hfz56_4
       try clear hfz56_5
       try clear hx260_0
       try clear hx260_1
       try clear hx260_2
       try clear hx262_0
       try clear hx262_1
       try clear hx262_2
       try clear p260
       try clear p262
       try clear q260
       try clear q262
       obtain ⟨x8_2, rfl, HA, HK2, BK226, HB⟩ := hrel
       cases gk with
       | zero => exact absurd HA.out (by simp [pleatlaw03_ObjectFinds.l1])
       | succ k2 =>
        have H := HA.out
        clear HA
        simp only [pleatlaw03_ObjectFinds.l1] at H
        by_cases c57 : x8_2 < (l0_5.length : Int)
        ·
         rw [if_pos c57] at H
         have c57b0 : decide (x8_2 < (l0_5.length : Int)) = true := decide_eq_true c57
         clear c57
         replace H := Option.bind_eq_some_iff.mp H
         obtain ⟨⟨t264, t265, t268, t269, t272, t275⟩, A580, H⟩ := H
         try dsimp only at H
         have A58 := Aside0.mk A580
         clear A580
         by_cases c59 : 0 ≤ x8_2
         ·
          rw [if_pos c59] at H
          have c59b0 : decide (0 ≤ x8_2) = true := decide_eq_true c59
          clear c59
          replace H := Option.bind_eq_some_iff.mp H
          obtain ⟨t279, A600, H⟩ := H
          try dsimp only at H
          have A60 := Aside0.mk A600
          clear A600
          by_cases c61 : t279 = x8_2
          ·
           rw [if_pos c61] at H
           have c61b0 : (t279 == x8_2) = true := beq_iff_eq.mpr c61
           have c61b1 : (t279 != x8_2) = false := bne_eq_false_iff_eq.mpr c61
           clear c61
           have H' := Aside0.mk H
           clear H
           have hcz62_0 : wr.cell? ⟨gb226, 0, none⟩ = some (.string a0_0) := (blk_cell BK226.out 0).trans rfl
           have hcz62_1 : wr.cell? ⟨gb226, 1, none⟩ = some (.slice A0_1 l0_1.length c0_1) := (blk_cell BK226.out 1).trans rfl
           have hcz62_2 : wr.cell? ⟨gb226, 2, none⟩ = some (.int .i64 a0_2) := (blk_cell BK226.out 2).trans rfl
           have hcz62_3 : wr.cell? ⟨gb226, 3, none⟩ = some (.slice A0_3 l0_3.length c0_3) := (blk_cell BK226.out 3).trans rfl
           have hcz62_4 : wr.cell? ⟨gb226, 4, none⟩ = some (.slice A0_4 l0_4.length c0_4) := (blk_cell BK226.out 4).trans rfl
           have hcz62_5 : wr.cell? ⟨gb226, 5, none⟩ = some (.slice A0_5 l0_5.length c0_5) := (blk_cell BK226.out 5).trans rfl
           have hfz62_0 := blk_frozen BK226.out 0
           have hfz62_1 := blk_frozen BK226.out 1
           have hfz62_2 := blk_frozen BK226.out 2
           have hfz62_3 := blk_frozen BK226.out 3
           have hfz62_4 := blk_frozen BK226.out 4
           have hfz62_5 := blk_frozen BK226.out 5
           try go_wp2
           have n0_ := Aside0.mk (blk_drew BK226.out)
           have n1_ := Aside0.mk (below_drew1 HB.out)
           clear BK226
           clear HB
           have BK226 := n0_
           have HB := n1_
           clear n0_ n1_
           have p278 : 0 ≤ (x8_2 : Int) := of_decide_eq_true (by first | (with_reducible assumption) | assumption)
           have q278 : x8_2 < (l0_5.length : Int) := of_decide_eq_true (by first | (with_reducible assumption) | assumption)
           obtain ⟨ad278, e278, hx278_0, hx278_1⟩ := at_T41 HR0_5.out x8_2 p278 q278
           have hw278_1 := hx278_1
           have hw278_0 := hx278_0
           cases e278
           replace hx278_0 := (HB.out.cell (World.block_lt_of_cell? w _ hx278_0)).trans hx278_0
           replace hx278_1 := (HB.out.cell (World.block_lt_of_cell? w _ hx278_1)).trans hx278_1
           replace p278 := eq_true p278
           replace q278 := eq_true q278
           refine start_ (n := 11) (S := fun w' => w'.cell? ⟨gb226, 0, none⟩ = some (.string a0_0) ∧ w'.cell? ⟨gb226, 1, none⟩ = some (.slice A0_1 l0_1.length c0_1) ∧ w'.cell? ⟨gb226, 2, none⟩ = some (.int .i64 a0_2) ∧ w'.cell? ⟨gb226, 3, none⟩ = some (.slice A0_3 l0_3.length c0_3) ∧ w'.cell? ⟨gb226, 4, none⟩ = some (.slice A0_4 l0_4.length c0_4) ∧ w'.cell? ⟨gb226, 5, none⟩ = some (.slice (some ad278) l0_5.length c0_5) ∧ w'.cell? (ad278.add ((x8_2).toNat * 2)) = some (.int .i64 ((rd_T41 l0_5 x8_2).f0)) ∧ w'.cell? ⟨(ad278.add ((x8_2).toNat * 2)).block, (ad278.add ((x8_2).toNat * 2)).off + 1, none⟩ = some (.int .i64 ((rd_T41 l0_5 x8_2).f1))) (ds := []) #[false, false, false, false, false, false, false, false, false, false, false] (by kernel_rfl) rfl rfl ⟨(blk_cell BK226.out 0).trans rfl, (blk_cell BK226.out 1).trans rfl, (blk_cell BK226.out 2).trans rfl, (blk_cell BK226.out 3).trans rfl, (blk_cell BK226.out 4).trans rfl, (blk_cell BK226.out 5).trans rfl, ((HB.out.cell (World.block_lt_of_cell? w _ hw278_0)).trans hw278_0), ((HB.out.cell (World.block_lt_of_cell? w _ hw278_1)).trans hw278_1)⟩ (fun hHeld => ?_); refine with_tabW pleatlaw03_ObjectFinds.tab14 pleatlaw03_ObjectFinds.bits14 (fun HT_ HW_ => ?_)
           generalize wr.drew = w63 at BK226 HB hx278_0 hx278_1 hHeld ⊢
           refine pure_ (i := 2) (N := some 67) (v := ?_) (a' := ?_) #[false, false, true, false, false, false, false, false, false, false, false] rfl rfl (any_of HT_.out (by kernel_rfl)) (fun _ _ _ h => h) (Or.inl ⟨by rfl, ?_⟩) ?_ ?_
           rotate_left
           ·
            intro w'
            go_simp
            with_reducible rfl
           rotate_left
           ·
            simp only [Act.put, List.setIfInBounds_toArray, List.set_cons_zero, List.set_cons_succ, i64_w, i32_w]
            rfl
           refine pure_ (i := 4) (N := some 69) (v := ?_) (a' := ?_) #[false, false, true, false, true, false, false, false, false, false, false] rfl rfl (any_of HT_.out (by kernel_rfl)) (fun _ _ _ h => h) (Or.inl ⟨by rfl, ?_⟩) ?_ ?_
           rotate_left
           ·
            intro w'
            go_simp
            with_reducible rfl
           rotate_left
           ·
            simp only [Act.put, List.setIfInBounds_toArray, List.set_cons_zero, List.set_cons_succ, i64_w, i32_w]
            rfl
           refine pure_ (i := 9) (N := some 74) (v := ?_) (a' := ?_) #[false, false, true, false, true, false, false, false, false, true, false] rfl rfl (any_of HT_.out (by kernel_rfl)) (fun _ _ _ h => h) (Or.inl ⟨by rfl, ?_⟩) ?_ ?_
           rotate_left
           ·
            intro w'
            go_simp
            with_reducible rfl
           rotate_left
           ·
            simp only [Act.put, List.setIfInBounds_toArray, List.set_cons_zero, List.set_cons_succ, i64_w, i32_w]
            rfl
           refine take_ (i := 0) (N := some 65) (v := ?_) (a' := ?_) #[true, false, true, false, true, false, false, false, false, true, false] rfl rfl (take_ofW HT_.out HW_.out (by kernel_rfl)) (fun _ _ _ h => h) (Or.inl ⟨by rfl, ?_⟩) hHeld ?_ ?_
           rotate_left
           ·
            rintro w' ⟨s0, s1, s2, s3, s4, s5, s6, s7⟩
            go_simp
            with_reducible rfl
           rotate_left
           ·
            simp only [Act.put, List.setIfInBounds_toArray, List.set_cons_zero, List.set_cons_succ, i64_w, i32_w]
            rfl
           refine take_ (i := 3) (N := some 68) (v := ?_) (a' := ?_) #[true, false, true, true, true, false, false, false, false, true, false] rfl rfl (take_ofW HT_.out HW_.out (by kernel_rfl)) (fun _ _ _ h => h) (Or.inl ⟨by rfl, ?_⟩) hHeld ?_ ?_
           rotate_left
           ·
            rintro w' ⟨s0, s1, s2, s3, s4, s5, s6, s7⟩
            go_simp
            with_reducible rfl
           rotate_left
           ·
            simp only [Act.put, List.setIfInBounds_toArray, List.set_cons_zero, List.set_cons_succ, i64_w, i32_w]
            rfl
           refine pure_ (i := 5) (N := some 70) (v := ?_) (a' := ?_) #[true, false, true, true, true, true, false, false, false, true, false] rfl rfl (any_of HT_.out (by kernel_rfl)) (fun _ _ _ h => h) (Or.inl ⟨by rfl, ?_⟩) ?_ ?_
           rotate_left
           ·
            intro w'
            go_simp
            with_reducible rfl
           rotate_left
           ·
            simp only [Act.put, List.setIfInBounds_toArray, List.set_cons_zero, List.set_cons_succ, i64_w, i32_w]
            rfl
           refine pure_ (i := 6) (N := some 71) (v := ?_) (a' := ?_) #[true, false, true, true, true, true, true, false, false, true, false] rfl rfl (any_of HT_.out (by kernel_rfl)) (fun _ _ _ h => h) (Or.inl ⟨by rfl, ?_⟩) ?_ ?_
           rotate_left
           ·
            intro w'
            go_simp
            with_reducible rfl
           rotate_left
           ·
            simp only [Act.put, List.setIfInBounds_toArray, List.set_cons_zero, List.set_cons_succ, i64_w, i32_w]
            rfl
           refine take_ (i := 7) (N := some 72) (v := ?_) (a' := ?_) #[true, false, true, true, true, true, true, true, false, true, false] rfl rfl (take_ofW HT_.out HW_.out (by kernel_rfl)) (fun _ _ _ h => h) (Or.inl ⟨by rfl, ?_⟩) hHeld ?_ ?_
           rotate_left
           ·
            rintro w' ⟨s0, s1, s2, s3, s4, s5, s6, s7⟩
            go_simp
            with_reducible rfl
           rotate_left
           ·
            simp only [Act.put, List.setIfInBounds_toArray, List.set_cons_zero, List.set_cons_succ, i64_w, i32_w]
            rfl
           refine one_ (i := 1) (N := some 66) #[true, true, true, true, true, true, true, true, false, true, false] rfl rfl (one_of HT_.out (by kernel_rfl)) (by decide) (fun K hK => ?_)
           refine goes_ Try.func9 (by kernel_rfl) rfl #[.agg #[.string a0_0, .slice A0_1 l0_1.length c0_1, .int .i64 a0_2, .slice A0_3 l0_3.length c0_3, .slice A0_4 l0_4.length c0_4, .slice (some ad278) l0_5.length c0_5]] (by rfl) rfl rfl (by (try simp only [List.map_toArray, List.map_cons, List.map_nil]); first | done | rfl | (simp only [List.length_drop, List.length_take]; rfl)) ?_
           with_reducible refine (pleatref00_CopyObject.calls a0_0 _ _ l0_1 a0_2 _ _ l0_3 _ _ l0_4 _ _ l0_5 t264 t265 t268 t269 t272 t275 _ ?side1 ?side2 ?side3 ?side4 ?side5 ?side6 ?side7 ?side8 A58.out).mono ?_
           (case side1 => repeat (first | exact (Kd.C_below HR0_1.out HB.out) | (with_reducible refine Kd.C_alloc ?_ _) | (with_reducible refine Kd.C_drewN ?_ _) | (with_reducible refine Kd.C_drew ?_)))
           (case side2 => exact HC0_1.out)
           (case side3 => repeat (first | exact (Kd.C_below HR0_3.out HB.out) | (with_reducible refine Kd.C_alloc ?_ _) | (with_reducible refine Kd.C_drewN ?_ _) | (with_reducible refine Kd.C_drew ?_)))
           (case side4 => exact HC0_3.out)
           (case side5 => repeat (first | exact (Kd.C_below HR0_4.out HB.out) | (with_reducible refine Kd.C_alloc ?_ _) | (with_reducible refine Kd.C_drewN ?_ _) | (with_reducible refine Kd.C_drew ?_)))
           (case side6 => exact HC0_4.out)
           (case side7 => repeat (first | exact (Kd.C_below HR0_5.out HB.out) | (with_reducible refine Kd.C_alloc ?_ _) | (with_reducible refine Kd.C_drewN ?_ _) | (with_reducible refine Kd.C_drew ?_)))
           (case side8 => exact HC0_5.out)
           rintro e w64 ⟨v266, v270, v273, v276, rfl, ho0, ho1, ho2, ho3, hb⟩
           refine ⟨_, rfl, ?_⟩
           have n0_ := Aside0.mk (Kd.R_lower ho0 (below_size (by repeat (first | (with_reducible first | exact HB.out | apply below_alloc | apply pw_below_drewN | apply below_drew1 | refine below_set ?_ GE226.out) | exact HB.out))))
           have n1_ := Aside0.mk (Kd.R_lower ho1 (below_size (by repeat (first | (with_reducible first | exact HB.out | apply below_alloc | apply pw_below_drewN | apply below_drew1 | refine below_set ?_ GE226.out) | exact HB.out))))
           have n2_ := Aside0.mk (Kd.R_lower ho2 (below_size (by repeat (first | (with_reducible first | exact HB.out | apply below_alloc | apply pw_below_drewN | apply below_drew1 | refine below_set ?_ GE226.out) | exact HB.out))))
           have n3_ := Aside0.mk (Kd.R_lower ho3 (below_size (by repeat (first | (with_reducible first | exact HB.out | apply below_alloc | apply pw_below_drewN | apply below_drew1 | refine below_set ?_ GE226.out) | exact HB.out))))
           have n4_ := Aside0.mk (blk_below (g := gb226) (o := .cells #[.string a0_0, .slice A0_1 l0_1.length c0_1, .int .i64 a0_2, .slice A0_3 l0_3.length c0_3, .slice A0_4 l0_4.length c0_4, .slice (some ad278) l0_5.length c0_5] 27 (0, 0)) (by (with_reducible repeat (first | refine blk_drewN ?_ _ | refine blk_drew ?_ | refine blk_alloc ?_ _)); exact BK226.out) hb)
           have n5_ := Aside0.mk (below_step (by repeat (first | (with_reducible first | exact HB.out | apply below_alloc | apply pw_below_drewN | apply below_drew1 | refine below_set ?_ GE226.out) | exact HB.out)) hb)
           clear BK226
           clear HB
           have HO267 := n0_
           have HO271 := n1_
           have HO274 := n2_
           have HO277 := n3_
           have BK226 := n4_
           have HB := n5_
           clear n0_ n1_ n2_ n3_ n4_ n5_
           (try clear hb)
           (try clear hb2)
           (try clear hk)
           (try clear hi)
           (try clear ho0)
           (try clear ho1)
           (try clear ho2)
           (try clear ho3)
           obtain ⟨Ao65, co65, eo65⟩ := Kd.R_slice HO267.out
           (first | subst eo65 | (injection eo65 with f1_ f2_ f3_; have f4_ := f1_.symm; have f5_ := f3_.symm; clear f1_ f2_ f3_; subst f4_; subst f5_))
           obtain ⟨Ao66, co66, eo66⟩ := Kd.R_slice HO271.out
           (first | subst eo66 | (injection eo66 with f1_ f2_ f3_; have f4_ := f1_.symm; have f5_ := f3_.symm; clear f1_ f2_ f3_; subst f4_; subst f5_))
           obtain ⟨Ao67, co67, eo67⟩ := Kd.R_slice HO274.out
           (first | subst eo67 | (injection eo67 with f1_ f2_ f3_; have f4_ := f1_.symm; have f5_ := f3_.symm; clear f1_ f2_ f3_; subst f4_; subst f5_))
           obtain ⟨Ao68, co68, eo68⟩ := Kd.R_slice HO277.out
           (first | subst eo68 | (injection eo68 with f1_ f2_ f3_; have f4_ := f1_.symm; have f5_ := f3_.symm; clear f1_ f2_ f3_; subst f4_; subst f5_))
           refine hK.out _ _ ⟨(blk_cell BK226.out 0).trans rfl, (blk_cell BK226.out 1).trans rfl, (blk_cell BK226.out 2).trans rfl, (blk_cell BK226.out 3).trans rfl, (blk_cell BK226.out 4).trans rfl, (blk_cell BK226.out 5).trans rfl, ((HB.out.cell (World.block_lt_of_cell? w _ hw278_0)).trans hw278_0), ((HB.out.cell (World.block_lt_of_cell? w _ hw278_1)).trans hw278_1)⟩ (fun hHeld => ?_)
           clear hK K
           refine norm_ (a' := ?_) ?_ ?_
           rotate_left
           ·
            show Act.put _ (some 66) _ = _
            simp only [Act.put, List.setIfInBounds_toArray, List.set_cons_zero, List.set_cons_succ, i64_w, i32_w]
            rfl
           refine one_ (i := 8) (N := some 73) #[true, true, true, true, true, true, true, true, true, true, false] rfl rfl (one_of HT_.out (by kernel_rfl)) (by decide) (fun K hK => ?_)
           refine goes_ Try.func12 (by kernel_rfl) rfl #[.agg #[.string t264, .slice Ao65 t265.length co65, .int .i64 t268, .slice Ao66 t269.length co66, .slice Ao67 t272.length co67, .slice Ao68 t275.length co68], .int .i64 ((rd_T41 l0_5 x8_2).f0)] (by rfl) rfl rfl (by (try simp only [List.map_toArray, List.map_cons, List.map_nil]); first | done | rfl | (simp only [List.length_drop, List.length_take]; rfl)) ?_
           with_reducible refine (object_At.calls k2 t264 _ _ t265 t268 _ _ t269 _ _ t272 _ _ t275 ((rd_T41 l0_5 x8_2).f0) t279 _ ?side1 ?side2 ?side3 ?side4 ?side5 ?side6 ?side7 ?side8 A60.out).mono ?_
           (case side1 => repeat (first | exact (Kd.R_reads' HO267.out).2.2 | (with_reducible refine Kd.C_alloc ?_ _) | (with_reducible refine Kd.C_drewN ?_ _) | (with_reducible refine Kd.C_drew ?_)))
           (case side2 => exact (Kd.R_reads' HO267.out).2.1)
           (case side3 => repeat (first | exact (Kd.R_reads' HO271.out).2.2 | (with_reducible refine Kd.C_alloc ?_ _) | (with_reducible refine Kd.C_drewN ?_ _) | (with_reducible refine Kd.C_drew ?_)))
           (case side4 => exact (Kd.R_reads' HO271.out).2.1)
           (case side5 => repeat (first | exact (Kd.R_reads' HO274.out).2.2 | (with_reducible refine Kd.C_alloc ?_ _) | (with_reducible refine Kd.C_drewN ?_ _) | (with_reducible refine Kd.C_drew ?_)))
           (case side6 => exact (Kd.R_reads' HO274.out).2.1)
           (case side7 => repeat (first | exact (Kd.R_reads' HO277.out).2.2 | (with_reducible refine Kd.C_alloc ?_ _) | (with_reducible refine Kd.C_drewN ?_ _) | (with_reducible refine Kd.C_drew ?_)))
           (case side8 => exact (Kd.R_reads' HO277.out).2.1)
           rintro e w69 ⟨rfl, hb⟩
           refine ⟨_, rfl, ?_⟩
           have n0_ := Aside0.mk (Kd.R_below (by (with_reducible repeat (first | apply Kd.R_alloc | apply Kd.R_drewN | apply Kd.R_drew)); exact HO267.out) hb)
           have n1_ := Aside0.mk (Kd.R_below (by (with_reducible repeat (first | apply Kd.R_alloc | apply Kd.R_drewN | apply Kd.R_drew)); exact HO271.out) hb)
           have n2_ := Aside0.mk (Kd.R_below (by (with_reducible repeat (first | apply Kd.R_alloc | apply Kd.R_drewN | apply Kd.R_drew)); exact HO274.out) hb)
           have n3_ := Aside0.mk (Kd.R_below (by (with_reducible repeat (first | apply Kd.R_alloc | apply Kd.R_drewN | apply Kd.R_drew)); exact HO277.out) hb)
           have n4_ := Aside0.mk (blk_below (g := gb226) (o := .cells #[.string a0_0, .slice A0_1 l0_1.length c0_1, .int .i64 a0_2, .slice A0_3 l0_3.length c0_3, .slice A0_4 l0_4.length c0_4, .slice (some ad278) l0_5.length c0_5] 27 (0, 0)) (by (with_reducible repeat (first | refine blk_drewN ?_ _ | refine blk_drew ?_ | refine blk_alloc ?_ _)); exact BK226.out) hb)
           have n5_ := Aside0.mk (below_step (by repeat (first | (with_reducible first | exact HB.out | apply below_alloc | apply pw_below_drewN | apply below_drew1 | refine below_set ?_ GE226.out) | exact HB.out)) hb)
           clear HO267
           clear HO271
           clear HO274
           clear HO277
           clear BK226
           clear HB
           have HO267 := n0_
           have HO271 := n1_
           have HO274 := n2_
           have HO277 := n3_
           have BK226 := n4_
           have HB := n5_
           clear n0_ n1_ n2_ n3_ n4_ n5_
           (try clear hb)
           (try clear hb2)
           (try clear hk)
           (try clear hi)
           refine hK.out _ _ ⟨(blk_cell BK226.out 0).trans rfl, (blk_cell BK226.out 1).trans rfl, (blk_cell BK226.out 2).trans rfl, (blk_cell BK226.out 3).trans rfl, (blk_cell BK226.out 4).trans rfl, (blk_cell BK226.out 5).trans rfl, ((HB.out.cell (World.block_lt_of_cell? w _ hw278_0)).trans hw278_0), ((HB.out.cell (World.block_lt_of_cell? w _ hw278_1)).trans hw278_1)⟩ (fun hHeld => ?_)
           clear hK K
           refine norm_ (a' := ?_) ?_ ?_
           rotate_left
           ·
            show Act.put _ (some 73) _ = _
            simp only [Act.put, List.setIfInBounds_toArray, List.set_cons_zero, List.set_cons_succ, i64_w, i32_w]
            rfl
           refine pure_ (i := 10) (N := some 75) (v := ?_) (a' := ?_) #[true, true, true, true, true, true, true, true, true, true, true] rfl rfl (any_of HT_.out (by kernel_rfl)) (fun _ _ _ h => h) (Or.inl ⟨by rfl, ?_⟩) ?_ ?_
           rotate_left
           ·
            intro w'
            go_simp
            with_reducible rfl
           rotate_left
           ·
            simp only [Act.put, List.setIfInBounds_toArray, List.set_cons_zero, List.set_cons_succ, i64_w, i32_w]
            rfl
           refine done_ (done_of HT_.out (by kernel_rfl)) ?_
           try go_wp2
           go_roundg k2
           case measure => have := HK1.out; have := HK2.out; omega
           case rel => exact ⟨(wrap64 (x8_2 + 1)), (by first | rfl | (simp; done) | (simp [*]; done)), H', ⟨by have := HK1.out; have := HK2.out; omega⟩, ⟨by (with_reducible repeat (first | refine blk_drewN ?_ _ | refine blk_drew ?_ | refine blk_alloc ?_ _)); exact BK226.out⟩, ⟨by repeat (first | (with_reducible first | exact HB.out | apply below_alloc | apply pw_below_drewN | apply below_drew1 | refine below_set ?_ GE226.out) | exact HB.out)⟩⟩
          ·
           rw [if_neg c61] at H
           exact absurd ((Option.some.inj H).trans HRT.out) (by decide)
         ·
          rw [if_neg c59] at H
          exact absurd H (by simp)
        ·
         rw [if_neg c57] at H
         have c57b0 : decide (x8_2 < (l0_5.length : Int)) = false := decide_eq_false c57
         clear c57
         have HC78 := Aside0.mk H
         clear H
         have hcz79_0 : wr.cell? ⟨gb226, 0, none⟩ = some (.string a0_0) := (blk_cell BK226.out 0).trans rfl
         have hcz79_1 : wr.cell? ⟨gb226, 1, none⟩ = some (.slice A0_1 l0_1.length c0_1) := (blk_cell BK226.out 1).trans rfl
         have hcz79_2 : wr.cell? ⟨gb226, 2, none⟩ = some (.int .i64 a0_2) := (blk_cell BK226.out 2).trans rfl
         have hcz79_3 : wr.cell? ⟨gb226, 3, none⟩ = some (.slice A0_3 l0_3.length c0_3) := (blk_cell BK226.out 3).trans rfl
         have hcz79_4 : wr.cell? ⟨gb226, 4, none⟩ = some (.slice A0_4 l0_4.length c0_4) := (blk_cell BK226.out 4).trans rfl
         have hcz79_5 : wr.cell? ⟨gb226, 5, none⟩ = some (.slice A0_5 l0_5.length c0_5) := (blk_cell BK226.out 5).trans rfl
         have hfz79_0 := blk_frozen BK226.out 0
         have hfz79_1 := blk_frozen BK226.out 1
         have hfz79_2 := blk_frozen BK226.out 2
         have hfz79_3 := blk_frozen BK226.out 3
         have hfz79_4 := blk_frozen BK226.out 4
         have hfz79_5 := blk_frozen BK226.out 5
         go_upto_if 79 with (fail)
         go_cut [] (fun wc => ∃ (kq : Nat), Aside0 (pleatlaw03_ObjectFinds.j2 kq a1 a0_0 l0_1 a0_2 l0_3 l0_4 l0_5 = some r) ∧ Aside0 (kq ≤ k2) ∧ Aside0 (wc.heap[gb226]? = some (.cells #[.string a0_0, (.slice A0_1 l0_1.length c0_1), .int .i64 a0_2, (.slice A0_3 l0_3.length c0_3), (.slice A0_4 l0_4.length c0_4), (.slice A0_5 l0_5.length c0_5)] 27 (0, 0))) ∧ Aside0 (Below w.heap.size w wc))
         case first =>
          have H := HC78.out
          clear HC78
          by_cases c80 : (l0_1.length : Int) < 16384
          ·
           rw [if_pos c80] at H
           have c80b0 : decide ((l0_1.length : Int) < 16384) = true := decide_eq_true c80
           have c80b1 : decide (l0_1.length < 16384) = true := decide_eq_true (by omega)
           clear c80
           (first | rw [c80b0] | (simp only [i64_w, i32_w]; rw [c80b0]) | skip)
           replace H := Option.bind_eq_some_iff.mp H
           obtain ⟨⟨t280, t281, t284, t285, t288, t291⟩, A810, H⟩ := H
           try dsimp only at H
           have A81 := Aside0.mk A810
           clear A810
           by_cases c82 : t281.length < 35184372088832
           ·
            rw [if_pos c82] at H
            have LMc82 := Aside0.mk c82
            clear c82
            obtain ⟨y295, hy295⟩ : ∃ y_ : List Int, y_ = (t281 ++ [1]) := ⟨_, rfl⟩
            replace H : ((object_Check.f t280 y295 t284 t285 t288 t291).bind fun bt298 => (if bt298.1 = 0 then (pleatlaw03_ObjectFinds.j2 k2 a1 a0_0 l0_1 a0_2 l0_3 l0_4 l0_5) else (some false))) = some r := by first | (rw [hy295]; with_reducible exact H) | (have H2_ := (Option.bind_some _ _).symm.trans H; rw [hy295]; with_reducible exact H2_) | (have H2_ := (Option.bind_some _ _).symm.trans H; with_reducible exact H2_) | with_reducible exact H | (rw [hy295]; exact H) | exact H
            have Ny295 := Aside0.mk hy295
            clear hy295
            replace H := Option.bind_eq_some_iff.mp H
            obtain ⟨⟨t298, t299⟩, A830, H⟩ := H
            try dsimp only at H
            have A83 := Aside0.mk A830
            clear A830
            by_cases c84 : t298 = 0
            ·
             rw [if_pos c84] at H
             have c84b0 : (t298 == 0) = true := beq_iff_eq.mpr c84
             have c84b1 : (t298 != 0) = false := bne_eq_false_iff_eq.mpr c84
             clear c84
             have H' := Aside0.mk H
             clear H
             have hcz85_0 : wr.cell? ⟨gb226, 0, none⟩ = some (.string a0_0) := (blk_cell BK226.out 0).trans rfl
             have hcz85_1 : wr.cell? ⟨gb226, 1, none⟩ = some (.slice A0_1 l0_1.length c0_1) := (blk_cell BK226.out 1).trans rfl
             have hcz85_2 : wr.cell? ⟨gb226, 2, none⟩ = some (.int .i64 a0_2) := (blk_cell BK226.out 2).trans rfl
             have hcz85_3 : wr.cell? ⟨gb226, 3, none⟩ = some (.slice A0_3 l0_3.length c0_3) := (blk_cell BK226.out 3).trans rfl
             have hcz85_4 : wr.cell? ⟨gb226, 4, none⟩ = some (.slice A0_4 l0_4.length c0_4) := (blk_cell BK226.out 4).trans rfl
             have hcz85_5 : wr.cell? ⟨gb226, 5, none⟩ = some (.slice A0_5 l0_5.length c0_5) := (blk_cell BK226.out 5).trans rfl
             have hfz85_0 := blk_frozen BK226.out 0
             have hfz85_1 := blk_frozen BK226.out 1
             have hfz85_2 := blk_frozen BK226.out 2
             have hfz85_3 := blk_frozen BK226.out 3
             have hfz85_4 := blk_frozen BK226.out 4
             have hfz85_5 := blk_frozen BK226.out 5
             go_wp2_with (first | ((with_reducible refine gate_callee (f := 9) rfl ?_); refine goesL_ (some 81) rfl rfl Try.func9 (by kernel_rfl) rfl #[.agg #[.string a0_0, .slice A0_1 l0_1.length c0_1, .int .i64 a0_2, .slice A0_3 l0_3.length c0_3, .slice A0_4 l0_4.length c0_4, .slice A0_5 l0_5.length c0_5]] rfl (by (try simp only [List.map_toArray, List.map_cons, List.map_nil]); first | done | rfl | (simp only [List.length_drop, List.length_take]; rfl)) ?_; (with_reducible refine (pleatref00_CopyObject.calls a0_0 _ _ l0_1 a0_2 _ _ l0_3 _ _ l0_4 _ _ l0_5 t280 t281 t284 t285 t288 t291 _ ?side1 ?side2 ?side3 ?side4 ?side5 ?side6 ?side7 ?side8 A81.out).mono ?_); (case side1 => repeat (first | exact (Kd.C_below HR0_1.out HB.out) | (with_reducible refine Kd.C_alloc ?_ _) | (with_reducible refine Kd.C_drewN ?_ _) | (with_reducible refine Kd.C_drew ?_))); (case side2 => exact HC0_1.out); (case side3 => repeat (first | exact (Kd.C_below HR0_3.out HB.out) | (with_reducible refine Kd.C_alloc ?_ _) | (with_reducible refine Kd.C_drewN ?_ _) | (with_reducible refine Kd.C_drew ?_))); (case side4 => exact HC0_3.out); (case side5 => repeat (first | exact (Kd.C_below HR0_4.out HB.out) | (with_reducible refine Kd.C_alloc ?_ _) | (with_reducible refine Kd.C_drewN ?_ _) | (with_reducible refine Kd.C_drew ?_))); (case side6 => exact HC0_4.out); (case side7 => repeat (first | exact (Kd.C_below HR0_5.out HB.out) | (with_reducible refine Kd.C_alloc ?_ _) | (with_reducible refine Kd.C_drewN ?_ _) | (with_reducible refine Kd.C_drew ?_))); (case side8 => exact HC0_5.out); rintro e w86 ⟨v282, v286, v289, v292, rfl, ho0, ho1, ho2, ho3, hb⟩; refine ⟨_, rfl, ?_⟩; have n0_ := Aside0.mk (Kd.R_lower ho0 (below_size (by repeat (first | (with_reducible first | exact HB.out | apply below_alloc | apply pw_below_drewN | apply below_drew1 | refine below_set ?_ GE226.out) | exact HB.out)))); have n1_ := Aside0.mk (Kd.R_lower ho1 (below_size (by repeat (first | (with_reducible first | exact HB.out | apply below_alloc | apply pw_below_drewN | apply below_drew1 | refine below_set ?_ GE226.out) | exact HB.out)))); have n2_ := Aside0.mk (Kd.R_lower ho2 (below_size (by repeat (first | (with_reducible first | exact HB.out | apply below_alloc | apply pw_below_drewN | apply below_drew1 | refine below_set ?_ GE226.out) | exact HB.out)))); have n3_ := Aside0.mk (Kd.R_lower ho3 (below_size (by repeat (first | (with_reducible first | exact HB.out | apply below_alloc | apply pw_below_drewN | apply below_drew1 | refine below_set ?_ GE226.out) | exact HB.out)))); have n4_ := Aside0.mk (blk_below (g := gb226) (o := .cells #[.string a0_0, .slice A0_1 l0_1.length c0_1, .int .i64 a0_2, .slice A0_3 l0_3.length c0_3, .slice A0_4 l0_4.length c0_4, .slice A0_5 l0_5.length c0_5] 27 (0, 0)) (by (with_reducible repeat (first | refine blk_drewN ?_ _ | refine blk_drew ?_ | refine blk_alloc ?_ _)); exact BK226.out) hb); have n5_ := Aside0.mk (below_step (by repeat (first | (with_reducible first | exact HB.out | apply below_alloc | apply pw_below_drewN | apply below_drew1 | refine below_set ?_ GE226.out) | exact HB.out)) hb); clear BK226; clear HB; have HO283 := n0_; have HO287 := n1_; have HO290 := n2_; have HO293 := n3_; have BK226 := n4_; have HB := n5_; clear n0_ n1_ n2_ n3_ n4_ n5_; (try clear hb); (try clear hb2); (try clear hk); (try clear hi); (try clear ho0); (try clear ho1); (try clear ho2); (try clear ho3)) | ((with_reducible refine gate_dst (N := 9) rfl ?_); (try (refine gate_guard (by rfl) ?_; dsimp only)); refine box_event ?hg (N := 9) ?hd (cs := #[.string (⟨#[]⟩ : ByteArray), .slice none 0 0, .int .i64 0, .slice none 0 0, .slice none 0 0, .slice none 0 0]) (t := 27) ?hr ?_; (case hd => rfl); (case hg => rfl); (case hr => first | (go_simp; done) | (go_simp; rfl)); intro gb294 hg w87 hbox hb; have n0_ := Aside0.mk (Kd.R_below (by (with_reducible repeat (first | apply Kd.R_alloc | apply Kd.R_drewN | apply Kd.R_drew)); exact HO283.out) hb); have n1_ := Aside0.mk (Kd.R_below (by (with_reducible repeat (first | apply Kd.R_alloc | apply Kd.R_drewN | apply Kd.R_drew)); exact HO287.out) hb); have n2_ := Aside0.mk (Kd.R_below (by (with_reducible repeat (first | apply Kd.R_alloc | apply Kd.R_drewN | apply Kd.R_drew)); exact HO290.out) hb); have n3_ := Aside0.mk (Kd.R_below (by (with_reducible repeat (first | apply Kd.R_alloc | apply Kd.R_drewN | apply Kd.R_drew)); exact HO293.out) hb); have n4_ := Aside0.mk (blk_below (g := gb226) (o := .cells #[.string a0_0, .slice A0_1 l0_1.length c0_1, .int .i64 a0_2, .slice A0_3 l0_3.length c0_3, .slice A0_4 l0_4.length c0_4, .slice A0_5 l0_5.length c0_5] 27 (0, 0)) (by (with_reducible repeat (first | refine blk_drewN ?_ _ | refine blk_drew ?_ | refine blk_alloc ?_ _)); exact BK226.out) hb); have n5_ := Aside0.mk (below_step (by repeat (first | (with_reducible first | exact HB.out | apply below_alloc | apply pw_below_drewN | apply below_drew1 | refine below_set ?_ GE226.out) | exact HB.out)) hb); have n6_ := Aside0.mk (hbox); have n7_ := Aside0.mk ((by rw [hg]; exact (below_size (by repeat (first | (with_reducible first | exact HB.out | apply below_alloc | apply pw_below_drewN | apply below_drew1 | refine below_set ?_ GE226.out) | exact HB.out))) : w.heap.size ≤ gb294)); have n8_ := Aside0.mk ((by rw [hg]; exact (below_size (by repeat (first | (with_reducible first | exact HB.out | apply below_alloc | apply pw_below_drewN | apply below_drew1 | refine below_set ?_ GE226.out) | exact HB.out))) : w.heap.size ≤ gb294)); have n9_ := Aside0.mk ((by rw [hg]; exact Nat.ne_of_lt (blk_lt (g := gb226) (o := .cells #[.string a0_0, .slice A0_1 l0_1.length c0_1, .int .i64 a0_2, .slice A0_3 l0_3.length c0_3, .slice A0_4 l0_4.length c0_4, .slice A0_5 l0_5.length c0_5] 27 (0, 0)) (by (with_reducible repeat (first | refine blk_drewN ?_ _ | refine blk_drew ?_ | refine blk_alloc ?_ _)); exact BK226.out)) : gb226 ≠ gb294)); have n10_ := Aside0.mk ((by rw [hg]; exact Nat.ne_of_gt (blk_lt (g := gb226) (o := .cells #[.string a0_0, .slice A0_1 l0_1.length c0_1, .int .i64 a0_2, .slice A0_3 l0_3.length c0_3, .slice A0_4 l0_4.length c0_4, .slice A0_5 l0_5.length c0_5] 27 (0, 0)) (by (with_reducible repeat (first | refine blk_drewN ?_ _ | refine blk_drew ?_ | refine blk_alloc ?_ _)); exact BK226.out)) : gb294 ≠ gb226)); clear HO283; clear HO287; clear HO290; clear HO293; clear BK226; clear HB; have HO283 := n0_; have HO287 := n1_; have HO290 := n2_; have HO293 := n3_; have BK226 := n4_; have HB := n5_; have BK294 := n6_; have GW294 := n7_; have GE294 := n8_; have NB226_294 := n9_; have NB294_226 := n10_; clear n0_ n1_ n2_ n3_ n4_ n5_ n6_ n7_ n8_ n9_ n10_; clear hb hbox hg; have hnb88 := NB294_226.out; have hnc88 := NB226_294.out; have hcz89_0 : w87.cell? ⟨gb294, 0, none⟩ = some (.string (⟨#[]⟩ : ByteArray)) := (blk_cell BK294.out 0).trans rfl; have hcz89_1 : w87.cell? ⟨gb294, 1, none⟩ = some (.slice none 0 0) := (blk_cell BK294.out 1).trans rfl; have hcz89_2 : w87.cell? ⟨gb294, 2, none⟩ = some (.int .i64 0) := (blk_cell BK294.out 2).trans rfl; have hcz89_3 : w87.cell? ⟨gb294, 3, none⟩ = some (.slice none 0 0) := (blk_cell BK294.out 3).trans rfl; have hcz89_4 : w87.cell? ⟨gb294, 4, none⟩ = some (.slice none 0 0) := (blk_cell BK294.out 4).trans rfl; have hcz89_5 : w87.cell? ⟨gb294, 5, none⟩ = some (.slice none 0 0) := (blk_cell BK294.out 5).trans rfl; have hfz89_0 := blk_frozen BK294.out 0; have hfz89_1 := blk_frozen BK294.out 1; have hfz89_2 := blk_frozen BK294.out 2; have hfz89_3 := blk_frozen BK294.out 3; have hfz89_4 := blk_frozen BK294.out 4; have hfz89_5 := blk_frozen BK294.out 5; obtain ⟨Ao90, co90, eo90⟩ := Kd.R_slice HO283.out; subst eo90; obtain ⟨Ao91, co91, eo91⟩ := Kd.R_slice HO287.out; subst eo91; obtain ⟨Ao92, co92, eo92⟩ := Kd.R_slice HO290.out; subst eo92; obtain ⟨Ao93, co93, eo93⟩ := Kd.R_slice HO293.out; subst eo93) | ((with_reducible refine gate_builtin (b := .append) (xs := #[.tmp 83, .tmp 84]) rfl ?_); (try (refine gate_guard (by rfl) ?_; dsimp only)); at_builtin; refine Kd.R_append (Kd.int .u32) (w0 := w) w.heap.size rfl (.tmp 83) (.tmp 84) 22 42 (.int .u32 0) 4 rfl Try.underlying22 info42 rfl (by decide) (by omega) (.slice Ao90 t281.length co90) t281 1 [.int .u32 1] (fun _ => True) (fun _ => False) rfl (by first | (go_simp; done) | (go_simp; rfl)) ?aP (fun _ hk => hk.elim) ?aF ?aO ?aB ?aS ?aL ?_; (case aP => exact rfl); (case aB => exact (by repeat (first | (with_reducible first | exact HB.out | apply below_alloc | apply pw_below_drewN | apply below_drew1 | refine below_set ?_ GE226.out | refine below_set ?_ GE294.out) | exact HB.out))); (case aF => exact (fun _ _ => trivial)); (case aO => exact (by (with_reducible repeat (first | apply Kd.R_alloc | apply Kd.R_drewN | apply Kd.R_drew)); exact Kd.R_mono (Kd.R_far (p := ⟨gb294, 5, none⟩) (Kd.R_far (p := ⟨gb294, 4, none⟩) (Kd.R_far (p := ⟨gb294, 3, none⟩) (Kd.R_far (p := ⟨gb294, 2, none⟩) (Kd.R_far (p := ⟨gb294, 1, none⟩) (Kd.R_far (p := ⟨gb294, 0, none⟩) (Kd.R_types HO283.out BK294.out (by decide)) (fun _ hk => hk.2) (.string t280)) (fun _ hk => hk.2) (.slice Ao90 t281.length co90)) (fun _ hk => hk.2) (.int .i64 t284)) (fun _ hk => hk.2) (.slice Ao91 t285.length co91)) (fun _ hk => hk.2) (.slice Ao92 t288.length co92)) (fun _ hk => hk.2) (.slice Ao93 t291.length co93)) (fun _ hk => trivial))); (case aS => exact (below_size (by repeat (first | (with_reducible first | exact HB.out | apply below_alloc | apply pw_below_drewN | apply below_drew1 | refine below_set ?_ GE226.out | refine below_set ?_ GE294.out) | exact HB.out)))); (case aL => have := LMc82.out; omega); intro v296 w94 ho hb hg hat; rw [← Ny295.out] at ho; have n0_ := Aside0.mk (blk_grown (g := gb226) (o := .cells #[.string a0_0, .slice A0_1 l0_1.length c0_1, .int .i64 a0_2, .slice A0_3 l0_3.length c0_3, .slice A0_4 l0_4.length c0_4, .slice A0_5 l0_5.length c0_5] 27 (0, 0)) (by (with_reducible repeat (first | refine blk_drewN ?_ _ | refine blk_drew ?_ | refine blk_alloc ?_ _)); refine blk_far ?_ NB226_294.out _; (with_reducible repeat (first | refine blk_drewN ?_ _ | refine blk_drew ?_ | refine blk_alloc ?_ _)); refine blk_far ?_ NB226_294.out _; (with_reducible repeat (first | refine blk_drewN ?_ _ | refine blk_drew ?_ | refine blk_alloc ?_ _)); refine blk_far ?_ NB226_294.out _; (with_reducible repeat (first | refine blk_drewN ?_ _ | refine blk_drew ?_ | refine blk_alloc ?_ _)); refine blk_far ?_ NB226_294.out _; (with_reducible repeat (first | refine blk_drewN ?_ _ | refine blk_drew ?_ | refine blk_alloc ?_ _)); refine blk_far ?_ NB226_294.out _; (with_reducible repeat (first | refine blk_drewN ?_ _ | refine blk_drew ?_ | refine blk_alloc ?_ _)); refine blk_far ?_ NB226_294.out _; (with_reducible repeat (first | refine blk_drewN ?_ _ | refine blk_drew ?_ | refine blk_alloc ?_ _)); exact BK226.out) hg (Kd.R_ne HO283.out BK226.out (by decide))); have n1_ := Aside0.mk (Kd.R_over' (by (with_reducible repeat (first | apply Kd.R_alloc | apply Kd.R_drewN | apply Kd.R_drew)); exact (Kd.R_mono (Kd.R_far (p := ⟨gb294, 5, none⟩) (Kd.R_far (p := ⟨gb294, 4, none⟩) (Kd.R_far (p := ⟨gb294, 3, none⟩) (Kd.R_far (p := ⟨gb294, 2, none⟩) (Kd.R_far (p := ⟨gb294, 1, none⟩) (Kd.R_far (p := ⟨gb294, 0, none⟩) (Kd.R_types HO287.out BK294.out (by decide)) (fun _ hk => hk.2) (.string t280)) (fun _ hk => hk.2) (.slice Ao90 t281.length co90)) (fun _ hk => hk.2) (.int .i64 t284)) (fun _ hk => hk.2) (.slice Ao91 t285.length co91)) (fun _ hk => hk.2) (.slice Ao92 t288.length co92)) (fun _ hk => hk.2) (.slice Ao93 t291.length co93)) (fun _ h_ => h_.1))) (Kd.R_typed (by (with_reducible repeat (first | apply Kd.R_alloc | apply Kd.R_drewN | apply Kd.R_drew)); exact (Kd.R_mono (Kd.R_far (p := ⟨gb294, 5, none⟩) (Kd.R_far (p := ⟨gb294, 4, none⟩) (Kd.R_far (p := ⟨gb294, 3, none⟩) (Kd.R_far (p := ⟨gb294, 2, none⟩) (Kd.R_far (p := ⟨gb294, 1, none⟩) (Kd.R_far (p := ⟨gb294, 0, none⟩) (Kd.R_types HO283.out BK294.out (by decide)) (fun _ hk => hk.2) (.string t280)) (fun _ hk => hk.2) (.slice Ao90 t281.length co90)) (fun _ hk => hk.2) (.int .i64 t284)) (fun _ hk => hk.2) (.slice Ao91 t285.length co91)) (fun _ hk => hk.2) (.slice Ao92 t288.length co92)) (fun _ hk => hk.2) (.slice Ao93 t291.length co93)) (fun _ h_ => h_.1)))) (by decide) hg); have n2_ := Aside0.mk (Kd.R_over' (by (with_reducible repeat (first | apply Kd.R_alloc | apply Kd.R_drewN | apply Kd.R_drew)); exact (Kd.R_mono (Kd.R_far (p := ⟨gb294, 5, none⟩) (Kd.R_far (p := ⟨gb294, 4, none⟩) (Kd.R_far (p := ⟨gb294, 3, none⟩) (Kd.R_far (p := ⟨gb294, 2, none⟩) (Kd.R_far (p := ⟨gb294, 1, none⟩) (Kd.R_far (p := ⟨gb294, 0, none⟩) (Kd.R_types HO290.out BK294.out (by decide)) (fun _ hk => hk.2) (.string t280)) (fun _ hk => hk.2) (.slice Ao90 t281.length co90)) (fun _ hk => hk.2) (.int .i64 t284)) (fun _ hk => hk.2) (.slice Ao91 t285.length co91)) (fun _ hk => hk.2) (.slice Ao92 t288.length co92)) (fun _ hk => hk.2) (.slice Ao93 t291.length co93)) (fun _ h_ => h_.1))) (Kd.R_typed (by (with_reducible repeat (first | apply Kd.R_alloc | apply Kd.R_drewN | apply Kd.R_drew)); exact (Kd.R_mono (Kd.R_far (p := ⟨gb294, 5, none⟩) (Kd.R_far (p := ⟨gb294, 4, none⟩) (Kd.R_far (p := ⟨gb294, 3, none⟩) (Kd.R_far (p := ⟨gb294, 2, none⟩) (Kd.R_far (p := ⟨gb294, 1, none⟩) (Kd.R_far (p := ⟨gb294, 0, none⟩) (Kd.R_types HO283.out BK294.out (by decide)) (fun _ hk => hk.2) (.string t280)) (fun _ hk => hk.2) (.slice Ao90 t281.length co90)) (fun _ hk => hk.2) (.int .i64 t284)) (fun _ hk => hk.2) (.slice Ao91 t285.length co91)) (fun _ hk => hk.2) (.slice Ao92 t288.length co92)) (fun _ hk => hk.2) (.slice Ao93 t291.length co93)) (fun _ h_ => h_.1)))) (by decide) hg); have n3_ := Aside0.mk (Kd.R_over' (by (with_reducible repeat (first | apply Kd.R_alloc | apply Kd.R_drewN | apply Kd.R_drew)); exact (Kd.R_mono (Kd.R_far (p := ⟨gb294, 5, none⟩) (Kd.R_far (p := ⟨gb294, 4, none⟩) (Kd.R_far (p := ⟨gb294, 3, none⟩) (Kd.R_far (p := ⟨gb294, 2, none⟩) (Kd.R_far (p := ⟨gb294, 1, none⟩) (Kd.R_far (p := ⟨gb294, 0, none⟩) (Kd.R_types HO293.out BK294.out (by decide)) (fun _ hk => hk.2) (.string t280)) (fun _ hk => hk.2) (.slice Ao90 t281.length co90)) (fun _ hk => hk.2) (.int .i64 t284)) (fun _ hk => hk.2) (.slice Ao91 t285.length co91)) (fun _ hk => hk.2) (.slice Ao92 t288.length co92)) (fun _ hk => hk.2) (.slice Ao93 t291.length co93)) (fun _ h_ => h_.1))) (Kd.R_typed (by (with_reducible repeat (first | apply Kd.R_alloc | apply Kd.R_drewN | apply Kd.R_drew)); exact (Kd.R_mono (Kd.R_far (p := ⟨gb294, 5, none⟩) (Kd.R_far (p := ⟨gb294, 4, none⟩) (Kd.R_far (p := ⟨gb294, 3, none⟩) (Kd.R_far (p := ⟨gb294, 2, none⟩) (Kd.R_far (p := ⟨gb294, 1, none⟩) (Kd.R_far (p := ⟨gb294, 0, none⟩) (Kd.R_types HO283.out BK294.out (by decide)) (fun _ hk => hk.2) (.string t280)) (fun _ hk => hk.2) (.slice Ao90 t281.length co90)) (fun _ hk => hk.2) (.int .i64 t284)) (fun _ hk => hk.2) (.slice Ao91 t285.length co91)) (fun _ hk => hk.2) (.slice Ao92 t288.length co92)) (fun _ hk => hk.2) (.slice Ao93 t291.length co93)) (fun _ h_ => h_.1)))) (by decide) hg); have n4_ := Aside0.mk (blk_grown (g := gb294) (o := .cells #[.string t280, .slice Ao90 t281.length co90, .int .i64 t284, .slice Ao91 t285.length co91, .slice Ao92 t288.length co92, .slice Ao93 t291.length co93] 27 (0, 0)) (by (with_reducible repeat (first | refine blk_drewN ?_ _ | refine blk_drew ?_ | refine blk_alloc ?_ _)); refine blk_put (cs := #[.string t280, .slice Ao90 t281.length co90, .int .i64 t284, .slice Ao91 t285.length co91, .slice Ao92 t288.length co92, .slice none 0 0]) ?_ 5 _ rfl; (with_reducible repeat (first | refine blk_drewN ?_ _ | refine blk_drew ?_ | refine blk_alloc ?_ _)); refine blk_put (cs := #[.string t280, .slice Ao90 t281.length co90, .int .i64 t284, .slice Ao91 t285.length co91, .slice none 0 0, .slice none 0 0]) ?_ 4 _ rfl; (with_reducible repeat (first | refine blk_drewN ?_ _ | refine blk_drew ?_ | refine blk_alloc ?_ _)); refine blk_put (cs := #[.string t280, .slice Ao90 t281.length co90, .int .i64 t284, .slice none 0 0, .slice none 0 0, .slice none 0 0]) ?_ 3 _ rfl; (with_reducible repeat (first | refine blk_drewN ?_ _ | refine blk_drew ?_ | refine blk_alloc ?_ _)); refine blk_put (cs := #[.string t280, .slice Ao90 t281.length co90, .int .i64 0, .slice none 0 0, .slice none 0 0, .slice none 0 0]) ?_ 2 _ rfl; (with_reducible repeat (first | refine blk_drewN ?_ _ | refine blk_drew ?_ | refine blk_alloc ?_ _)); refine blk_put (cs := #[.string t280, .slice none 0 0, .int .i64 0, .slice none 0 0, .slice none 0 0, .slice none 0 0]) ?_ 1 _ rfl; (with_reducible repeat (first | refine blk_drewN ?_ _ | refine blk_drew ?_ | refine blk_alloc ?_ _)); refine blk_put (cs := #[.string (⟨#[]⟩ : ByteArray), .slice none 0 0, .int .i64 0, .slice none 0 0, .slice none 0 0, .slice none 0 0]) ?_ 0 _ rfl; (with_reducible repeat (first | refine blk_drewN ?_ _ | refine blk_drew ?_ | refine blk_alloc ?_ _)); exact BK294.out) hg (Kd.R_ne HO283.out BK294.out (by decide))); have n5_ := Aside0.mk (hb); have n6_ := Aside0.mk (ho); clear BK226; clear HO287; clear HO290; clear HO293; clear BK294; clear HB; clear HO283; have BK226 := n0_; have HO287 := n1_; have HO290 := n2_; have HO293 := n3_; have BK294 := n4_; have HB := n5_; have HO297 := n6_; clear n0_ n1_ n2_ n3_ n4_ n5_ n6_; clear ho hb hg hat; obtain ⟨Ao95, co95, eo95⟩ := Kd.R_slice HO297.out; subst eo95; have hcz96_0 : w94.cell? ⟨gb294, 0, none⟩ = some (.string t280) := (blk_cell BK294.out 0).trans rfl; have hcz96_1 : w94.cell? ⟨gb294, 1, none⟩ = some (.slice Ao90 t281.length co90) := (blk_cell BK294.out 1).trans rfl; have hcz96_2 : w94.cell? ⟨gb294, 2, none⟩ = some (.int .i64 t284) := (blk_cell BK294.out 2).trans rfl; have hcz96_3 : w94.cell? ⟨gb294, 3, none⟩ = some (.slice Ao91 t285.length co91) := (blk_cell BK294.out 3).trans rfl; have hcz96_4 : w94.cell? ⟨gb294, 4, none⟩ = some (.slice Ao92 t288.length co92) := (blk_cell BK294.out 4).trans rfl; have hcz96_5 : w94.cell? ⟨gb294, 5, none⟩ = some (.slice Ao93 t291.length co93) := (blk_cell BK294.out 5).trans rfl; have hfz96_0 := blk_frozen BK294.out 0; have hfz96_1 := blk_frozen BK294.out 1; have hfz96_2 := blk_frozen BK294.out 2; have hfz96_3 := blk_frozen BK294.out 3; have hfz96_4 := blk_frozen BK294.out 4; have hfz96_5 := blk_frozen BK294.out 5) | ((with_reducible refine gate_callee (f := 8) rfl ?_); refine goesL_ (some 89) rfl rfl Try.func8 (by kernel_rfl) rfl #[.agg #[.string t280, .slice Ao95 y295.length co95, .int .i64 t284, .slice Ao91 t285.length co91, .slice Ao92 t288.length co92, .slice Ao93 t291.length co93]] rfl (by (try simp only [List.map_toArray, List.map_cons, List.map_nil]); first | done | rfl | (simp only [List.length_drop, List.length_take]; rfl)) ?_; (with_reducible refine (object_Check.calls t280 _ _ y295 t284 _ _ t285 _ _ t288 _ _ t291 t298 t299 _ ?side1 ?side2 ?side3 ?side4 ?side5 ?side6 ?side7 ?side8 A83.out).mono ?_); (case side1 => refine (Kd.R_reads' (e := 42) (base := w.heap.size) (ok := fun k_ => True) (n := y295.length) (c := co95) ?_).2.2; exact (by (with_reducible repeat (first | apply Kd.R_alloc | apply Kd.R_drewN | apply Kd.R_drew)); exact (Kd.R_mono (Kd.R_far (p := ⟨gb294, 1, none⟩) (Kd.R_types HO297.out BK294.out (by decide)) (fun _ hk => hk.2) (.slice Ao95 y295.length co95)) (fun _ h_ => h_.1)))); (case side2 => exact (Kd.R_reads' HO297.out).2.1); (case side3 => refine (Kd.R_reads' (e := 2) (base := w.heap.size) (ok := fun k_ => True) (n := t285.length) (c := co91) ?_).2.2; exact (by (with_reducible repeat (first | apply Kd.R_alloc | apply Kd.R_drewN | apply Kd.R_drew)); exact (Kd.R_mono (Kd.R_far (p := ⟨gb294, 1, none⟩) (Kd.R_types HO287.out BK294.out (by decide)) (fun _ hk => hk.2) (.slice Ao95 y295.length co95)) (fun _ h_ => h_.1)))); (case side4 => exact (Kd.R_reads' HO287.out).2.1); (case side5 => refine (Kd.R_reads' (e := 37) (base := w.heap.size) (ok := fun k_ => True) (n := t288.length) (c := co92) ?_).2.2; exact (by (with_reducible repeat (first | apply Kd.R_alloc | apply Kd.R_drewN | apply Kd.R_drew)); exact (Kd.R_mono (Kd.R_far (p := ⟨gb294, 1, none⟩) (Kd.R_types HO290.out BK294.out (by decide)) (fun _ hk => hk.2) (.slice Ao95 y295.length co95)) (fun _ h_ => h_.1)))); (case side6 => exact (Kd.R_reads' HO290.out).2.1); (case side7 => refine (Kd.R_reads' (e := 41) (base := w.heap.size) (ok := fun k_ => True) (n := t291.length) (c := co93) ?_).2.2; exact (by (with_reducible repeat (first | apply Kd.R_alloc | apply Kd.R_drewN | apply Kd.R_drew)); exact (Kd.R_mono (Kd.R_far (p := ⟨gb294, 1, none⟩) (Kd.R_types HO293.out BK294.out (by decide)) (fun _ hk => hk.2) (.slice Ao95 y295.length co95)) (fun _ h_ => h_.1)))); (case side8 => exact (Kd.R_reads' HO293.out).2.1); rintro e w97 ⟨rfl, hb⟩; refine ⟨_, rfl, ?_⟩; have n0_ := Aside0.mk (Kd.R_below (by (with_reducible repeat (first | apply Kd.R_alloc | apply Kd.R_drewN | apply Kd.R_drew)); exact (Kd.R_mono (Kd.R_far (p := ⟨gb294, 1, none⟩) (Kd.R_types HO287.out BK294.out (by decide)) (fun _ hk => hk.2) (.slice Ao95 y295.length co95)) (fun _ h_ => h_.1))) hb); have n1_ := Aside0.mk (Kd.R_below (by (with_reducible repeat (first | apply Kd.R_alloc | apply Kd.R_drewN | apply Kd.R_drew)); exact (Kd.R_mono (Kd.R_far (p := ⟨gb294, 1, none⟩) (Kd.R_types HO290.out BK294.out (by decide)) (fun _ hk => hk.2) (.slice Ao95 y295.length co95)) (fun _ h_ => h_.1))) hb); have n2_ := Aside0.mk (Kd.R_below (by (with_reducible repeat (first | apply Kd.R_alloc | apply Kd.R_drewN | apply Kd.R_drew)); exact (Kd.R_mono (Kd.R_far (p := ⟨gb294, 1, none⟩) (Kd.R_types HO293.out BK294.out (by decide)) (fun _ hk => hk.2) (.slice Ao95 y295.length co95)) (fun _ h_ => h_.1))) hb); have n3_ := Aside0.mk (Kd.R_below (by (with_reducible repeat (first | apply Kd.R_alloc | apply Kd.R_drewN | apply Kd.R_drew)); exact (Kd.R_mono (Kd.R_far (p := ⟨gb294, 1, none⟩) (Kd.R_types HO297.out BK294.out (by decide)) (fun _ hk => hk.2) (.slice Ao95 y295.length co95)) (fun _ h_ => h_.1))) hb); have n4_ := Aside0.mk (blk_below (g := gb226) (o := .cells #[.string a0_0, .slice A0_1 l0_1.length c0_1, .int .i64 a0_2, .slice A0_3 l0_3.length c0_3, .slice A0_4 l0_4.length c0_4, .slice A0_5 l0_5.length c0_5] 27 (0, 0)) (by (with_reducible repeat (first | refine blk_drewN ?_ _ | refine blk_drew ?_ | refine blk_alloc ?_ _)); refine blk_far ?_ NB226_294.out _; (with_reducible repeat (first | refine blk_drewN ?_ _ | refine blk_drew ?_ | refine blk_alloc ?_ _)); exact BK226.out) hb); have n5_ := Aside0.mk (blk_below (g := gb294) (o := .cells #[.string t280, .slice Ao95 y295.length co95, .int .i64 t284, .slice Ao91 t285.length co91, .slice Ao92 t288.length co92, .slice Ao93 t291.length co93] 27 (0, 0)) (by (with_reducible repeat (first | refine blk_drewN ?_ _ | refine blk_drew ?_ | refine blk_alloc ?_ _)); refine blk_put (cs := #[.string t280, .slice Ao90 t281.length co90, .int .i64 t284, .slice Ao91 t285.length co91, .slice Ao92 t288.length co92, .slice Ao93 t291.length co93]) ?_ 1 _ rfl; (with_reducible repeat (first | refine blk_drewN ?_ _ | refine blk_drew ?_ | refine blk_alloc ?_ _)); exact BK294.out) hb); have n6_ := Aside0.mk (below_step (by repeat (first | (with_reducible first | exact HB.out | apply below_alloc | apply pw_below_drewN | apply below_drew1 | refine below_set ?_ GE226.out | refine below_set ?_ GE294.out) | exact HB.out)) hb); clear HO287; clear HO290; clear HO293; clear HO297; clear BK226; clear BK294; clear HB; have HO287 := n0_; have HO290 := n1_; have HO293 := n2_; have HO297 := n3_; have BK226 := n4_; have BK294 := n5_; have HB := n6_; clear n0_ n1_ n2_ n3_ n4_ n5_ n6_; (try clear hb); (try clear hb2); (try clear hk); (try clear hi)))
             go_meet
             case rel => exact ⟨_, H', ⟨by have := HK1.out; have := HK2.out; first | omega | exact Nat.le_refl _⟩, ⟨by (with_reducible repeat (first | refine blk_drewN ?_ _ | refine blk_drew ?_ | refine blk_alloc ?_ _)); exact BK226.out⟩, ⟨by repeat (first | (with_reducible first | exact HB.out | apply below_alloc | apply pw_below_drewN | apply below_drew1 | refine below_set ?_ GE226.out | refine below_set ?_ GE294.out) | exact HB.out)⟩⟩
            ·
             rw [if_neg c84] at H
             exact absurd ((Option.some.inj H).trans HRT.out) (by decide)
           ·
            rw [if_neg c82] at H
            exact absurd H (by simp)
          ·
           rw [if_neg c80] at H
           have c80b0 : decide ((l0_1.length : Int) < 16384) = false := decide_eq_false c80
           have c80b1 : decide (l0_1.length < 16384) = false := decide_eq_false (by omega)
           clear c80
           (first | rw [c80b0] | (simp only [i64_w, i32_w]; rw [c80b0]) | skip)
           have H' := Aside0.mk H
           clear H
           go_wp2
           go_meet
           case rel => exact ⟨_, H', ⟨by have := HK1.out; have := HK2.out; first | omega | exact Nat.le_refl _⟩, ⟨by (with_reducible repeat (first | refine blk_drewN ?_ _ | refine blk_drew ?_ | refine blk_alloc ?_ _)); exact BK226.out⟩, ⟨by repeat (first | (with_reducible first | exact HB.out | apply below_alloc | apply pw_below_drewN | apply below_drew1 | refine below_set ?_ GE226.out) | exact HB.out)⟩⟩
         case rest =>
          clear HC78
          try clear c1
          try clear c2
          try clear p2
          try clear q2
          try clear hx2
          try clear c5
          try clear c6
          try clear p6
          try clear c8
          try clear c9
          try clear c10
          try clear c11
          try clear c12
          try clear c23
          try clear c23b0
          try clear c25
          try clear p26
          try clear q26
          try clear hx26
          try clear c27
          try clear c27b0
          try clear c27b1
          try clear p27
          try clear q27
          try clear hx27
          try clear c57
          try clear c57b0
          try clear c59
          try clear c59b0
          try clear c61
          try clear c61b0
          try clear c61b1
          try clear p64
          try clear c80
          try clear c80b0
          try clear c80b1
          try clear c82
          try clear c84
          try clear c84b0
          try clear c84b1
          try clear c88
          try clear c101
          try clear hcz102_0
          try clear hcz102_1
          try clear hcz102_2
          try clear hcz102_3
          try clear hcz102_4
          try clear hcz102_5
          try clear hcz109_0
          try clear hcz109_1
          try clear hcz109_2
          try clear hcz109_3
          try clear hcz109_4
          try clear hcz109_5
          try clear hcz39_3
          try clear hcz39_4
          try clear hcz39_5
          try clear hcz48_0
          try clear hcz48_1
          try clear hcz48_2
          try clear hcz48_3
          try clear hcz48_4
          try clear hcz48_5
          try clear hcz56_0
          try clear hcz56_1
          try clear hcz56_2
          try clear hcz56_3
          try clear hcz56_4
          try clear hcz56_5
          try clear hcz62_0
          try clear hcz62_1
          try clear hcz62_2
          try clear hcz62_3
          try clear hcz62_4
          try clear hcz62_5
          try clear hcz70_0
          try clear hcz70_1
          try clear hcz70_2
          try clear hcz70_3
          try clear hcz70_4
          try clear hcz70_5
          try clear hcz79_0
          try clear hcz79_1
          try clear hcz79_2
          try clear hcz79_3
          try clear hcz79_4
          try clear hcz79_5
          try clear hcz85_0
          try clear hcz85_1
          try clear hcz85_2
          try clear hcz85_3
          try clear hcz85_4
          try clear hcz85_5
          try clear hcz89_0
          try clear hcz89_1
          try clear hcz89_2
          try clear hcz89_3
          try clear hcz89_4
          try clear hcz89_5
          try clear hcz96_0
          try clear hcz96_1
          try clear hcz96_2
          try clear hcz96_3
          try clear hcz96_4
          try clear hcz96_5
          try clear hcz98_0
          try clear hcz98_1
          try clear hcz98_2
          try clear hcz98_3
          try clear hcz98_4
          try clear hcz98_5
          try clear hfz102_0
          try clear hfz102_1
          try clear hfz102_2
          try clear hfz102_3
          try clear hfz102_4
          try clear hfz102_5
          try clear hfz109_0
          try clear hfz109_1
          try clear hfz109_2
          try clear hfz109_3
          try clear hfz109_4
          try clear hfz109_5
          try clear hfz39_0
          try clear hfz39_1
          try clear hfz39_2
          try clear hfz39_3
          try clear hfz39_4
          try clear hfz39_5
          try clear hfz48_0
          try clear hfz48_1
          try clear hfz48_2
          try clear hfz48_3
          try clear hfz48_4
          try clear hfz48_5
          try clear hfz56_0
          try clear hfz56_1
          try clear hfz56_2
          try clear hfz56_3
          try clear hfz56_4
          try clear hfz56_5
          try clear hfz62_0
          try clear hfz62_1
          try clear hfz62_2
          try clear hfz62_3
          try clear hfz62_4
          try clear hfz62_5
          try clear hfz70_0
          try clear hfz70_1
          try clear hfz70_2
          try clear hfz70_3
          try clear hfz70_4
          try clear hfz70_5
          try clear hfz79_0
          try clear hfz79_1
          try clear hfz79_2
          try clear hfz79_3
          try clear hfz79_4
          try clear hfz79_5
          try clear hfz85_0
          try clear hfz85_1
          try clear hfz85_2
          try clear hfz85_3
          try clear hfz85_4
          try clear hfz85_5
          try clear hfz89_0
          try clear hfz89_1
          try clear hfz89_2
          try clear hfz89_3
          try clear hfz89_4
          try clear hfz89_5
          try clear hfz96_0
          try clear hfz96_1
          try clear hfz96_2
          try clear hfz96_3
          try clear hfz96_4
          try clear hfz96_5
          try clear hfz98_0
          try clear hfz98_1
          try clear hfz98_2
          try clear hfz98_3
          try clear hfz98_4
          try clear hfz98_5
          try clear hx260_0
          try clear hx260_1
          try clear hx260_2
          try clear hx262_0
          try clear hx262_1
          try clear hx262_2
          try clear hx278_0
          try clear hx278_1
          try clear p26
          try clear p260
          try clear p262
          try clear p278
          try clear q26
          try clear q260
          try clear q262
          try clear q278
          obtain ⟨kq, HA, HJ77, BK226, HB⟩ := hcut
          cases kq with
          | zero => exact absurd HA.out (by simp [pleatlaw03_ObjectFinds.j2])
          | succ kj77 =>
           have H := HA.out
           clear HA
           simp only [pleatlaw03_ObjectFinds.j2] at H
           have HC111 := Aside0.mk H
           clear H
           have hcz112_0 : wc.cell? ⟨gb226, 0, none⟩ = some (.string a0_0) := (blk_cell BK226.out 0).trans rfl
           have hcz112_1 : wc.cell? ⟨gb226, 1, none⟩ = some (.slice A0_1 l0_1.length c0_1) := (blk_cell BK226.out 1).trans rfl
           have hcz112_2 : wc.cell? ⟨gb226, 2, none⟩ = some (.int .i64 a0_2) := (blk_cell BK226.out 2).trans rfl
           have hcz112_3 : wc.cell? ⟨gb226, 3, none⟩ = some (.slice A0_3 l0_3.length c0_3) := (blk_cell BK226.out 3).trans rfl
           have hcz112_4 : wc.cell? ⟨gb226, 4, none⟩ = some (.slice A0_4 l0_4.length c0_4) := (blk_cell BK226.out 4).trans rfl
           have hcz112_5 : wc.cell? ⟨gb226, 5, none⟩ = some (.slice A0_5 l0_5.length c0_5) := (blk_cell BK226.out 5).trans rfl
           have hfz112_0 := blk_frozen BK226.out 0
           have hfz112_1 := blk_frozen BK226.out 1
           have hfz112_2 := blk_frozen BK226.out 2
           have hfz112_3 := blk_frozen BK226.out 3
           have hfz112_4 := blk_frozen BK226.out 4
           have hfz112_5 := blk_frozen BK226.out 5
           go_upto_if 97 with (fail)
           go_cut [] (fun wc => ∃ (kq : Nat), Aside0 (pleatlaw03_ObjectFinds.j3 kq a1 a0_0 l0_1 a0_2 l0_3 l0_4 l0_5 = some r) ∧ Aside0 (kq ≤ kj77) ∧ Aside0 (wc.heap[gb226]? = some (.cells #[.string a0_0, (.slice A0_1 l0_1.length c0_1), .int .i64 a0_2, (.slice A0_3 l0_3.length c0_3), (.slice A0_4 l0_4.length c0_4), (.slice A0_5 l0_5.length c0_5)] 27 (0, 0))) ∧ Aside0 (Below w.heap.size w wc))
           case first =>
            have H := HC111.out
            clear HC111
            by_cases c113 : (l0_5.length : Int) > 0
            ·
             rw [if_pos c113] at H
             have c113b0 : decide (0 < (l0_5.length : Int)) = true := decide_eq_true c113
             have c113b1 : decide (0 < l0_5.length) = true := decide_eq_true (by omega)
             clear c113
             (first | rw [c113b0] | rw [c113b1] | (simp only [i64_w, i32_w]; rw [c113b0]) | skip)
             replace H := Option.bind_eq_some_iff.mp H
             obtain ⟨⟨t300, t301, t304, t305, t308, t311⟩, A1140, H⟩ := H
             try dsimp only at H
             have A114 := Aside0.mk A1140
             clear A1140
             obtain ⟨ji115, hji115⟩ : ∃ j_ : Int, (wrap64 ((t311.length : Int) - 1)) = j_ := ⟨_, rfl⟩
             replace H : (if 0 ≤ (ji115) then (if (ji115) ≤ (t311.length : Int) then ((object_Check.f t300 t301 t304 t305 t308 (t311.take ((ji115) : Int).toNat)).bind fun bt318 => (if bt318.1 = 0 then (pleatlaw03_ObjectFinds.j3 kj77 a1 a0_0 l0_1 a0_2 l0_3 l0_4 l0_5) else (some false))) else (none)) else (none)) = some r := by first | (rw [hji115] at H; exact H) | (simp only [hji115] at H ⊢; exact H)
             (try rw [hji115] at A114)
             have hji115w : (IntKind.i64.wrap ((t311.length : Int) - 1)) = ji115 := (i64_w _).trans hji115
             by_cases c116 : 0 ≤ (ji115)
             ·
              rw [if_pos c116] at H
              have c116b0 := eq_true c116
              have c116b1 : decide (0 ≤ (ji115)) = true := decide_eq_true c116
              clear c116
              by_cases c117 : (ji115) ≤ (t311.length : Int)
              ·
               rw [if_pos c117] at H
               have c117b0 := eq_true c117
               have c117b1 : decide ((ji115) ≤ (t311.length : Int)) = true := decide_eq_true c117
               clear c117
               obtain ⟨y315, hy315⟩ : ∃ y_ : List (S41), y_ = (t311.take ((ji115) : Int).toNat) := ⟨_, rfl⟩
               replace H : ((object_Check.f t300 t301 t304 t305 t308 y315).bind fun bt318 => (if bt318.1 = 0 then (pleatlaw03_ObjectFinds.j3 kj77 a1 a0_0 l0_1 a0_2 l0_3 l0_4 l0_5) else (some false))) = some r := by first | (rw [hy315]; with_reducible exact H) | (have H2_ := (Option.bind_some _ _).symm.trans H; rw [hy315]; with_reducible exact H2_) | (have H2_ := (Option.bind_some _ _).symm.trans H; with_reducible exact H2_) | with_reducible exact H | (rw [hy315]; exact H) | exact H
               have Ny315 := Aside0.mk hy315
               clear hy315
               replace H := Option.bind_eq_some_iff.mp H
               obtain ⟨⟨t318, t319⟩, A1180, H⟩ := H
               try dsimp only at H
               have A118 := Aside0.mk A1180
               clear A1180
               by_cases c119 : t318 = 0
               ·
                rw [if_pos c119] at H
                have c119b0 : (t318 == 0) = true := beq_iff_eq.mpr c119
                have c119b1 : (t318 != 0) = false := bne_eq_false_iff_eq.mpr c119
                clear c119
                have H' := Aside0.mk H
                clear H
                have hcz120_0 : wc.cell? ⟨gb226, 0, none⟩ = some (.string a0_0) := (blk_cell BK226.out 0).trans rfl
                have hcz120_1 : wc.cell? ⟨gb226, 1, none⟩ = some (.slice A0_1 l0_1.length c0_1) := (blk_cell BK226.out 1).trans rfl
                have hcz120_2 : wc.cell? ⟨gb226, 2, none⟩ = some (.int .i64 a0_2) := (blk_cell BK226.out 2).trans rfl
                have hcz120_3 : wc.cell? ⟨gb226, 3, none⟩ = some (.slice A0_3 l0_3.length c0_3) := (blk_cell BK226.out 3).trans rfl
                have hcz120_4 : wc.cell? ⟨gb226, 4, none⟩ = some (.slice A0_4 l0_4.length c0_4) := (blk_cell BK226.out 4).trans rfl
                have hcz120_5 : wc.cell? ⟨gb226, 5, none⟩ = some (.slice A0_5 l0_5.length c0_5) := (blk_cell BK226.out 5).trans rfl
                have hfz120_0 := blk_frozen BK226.out 0
                have hfz120_1 := blk_frozen BK226.out 1
                have hfz120_2 := blk_frozen BK226.out 2
                have hfz120_3 := blk_frozen BK226.out 3
                have hfz120_4 := blk_frozen BK226.out 4
                have hfz120_5 := blk_frozen BK226.out 5
                go_wp2_with (first | ((with_reducible refine gate_callee (f := 9) rfl ?_); refine goesL_ (some 99) rfl rfl Try.func9 (by kernel_rfl) rfl #[.agg #[.string a0_0, .slice A0_1 l0_1.length c0_1, .int .i64 a0_2, .slice A0_3 l0_3.length c0_3, .slice A0_4 l0_4.length c0_4, .slice A0_5 l0_5.length c0_5]] rfl (by (try simp only [List.map_toArray, List.map_cons, List.map_nil]); first | done | rfl | (simp only [List.length_drop, List.length_take]; rfl)) ?_; (with_reducible refine (pleatref00_CopyObject.calls a0_0 _ _ l0_1 a0_2 _ _ l0_3 _ _ l0_4 _ _ l0_5 t300 t301 t304 t305 t308 t311 _ ?side1 ?side2 ?side3 ?side4 ?side5 ?side6 ?side7 ?side8 A114.out).mono ?_); (case side1 => repeat (first | exact (Kd.C_below HR0_1.out HB.out) | (with_reducible refine Kd.C_alloc ?_ _) | (with_reducible refine Kd.C_drewN ?_ _) | (with_reducible refine Kd.C_drew ?_))); (case side2 => exact HC0_1.out); (case side3 => repeat (first | exact (Kd.C_below HR0_3.out HB.out) | (with_reducible refine Kd.C_alloc ?_ _) | (with_reducible refine Kd.C_drewN ?_ _) | (with_reducible refine Kd.C_drew ?_))); (case side4 => exact HC0_3.out); (case side5 => repeat (first | exact (Kd.C_below HR0_4.out HB.out) | (with_reducible refine Kd.C_alloc ?_ _) | (with_reducible refine Kd.C_drewN ?_ _) | (with_reducible refine Kd.C_drew ?_))); (case side6 => exact HC0_4.out); (case side7 => repeat (first | exact (Kd.C_below HR0_5.out HB.out) | (with_reducible refine Kd.C_alloc ?_ _) | (with_reducible refine Kd.C_drewN ?_ _) | (with_reducible refine Kd.C_drew ?_))); (case side8 => exact HC0_5.out); rintro e w121 ⟨v302, v306, v309, v312, rfl, ho0, ho1, ho2, ho3, hb⟩; refine ⟨_, rfl, ?_⟩; have n0_ := Aside0.mk (Kd.R_lower ho0 (below_size (by repeat (first | (with_reducible first | exact HB.out | apply below_alloc | apply pw_below_drewN | apply below_drew1 | refine below_set ?_ GE226.out) | exact HB.out)))); have n1_ := Aside0.mk (Kd.R_lower ho1 (below_size (by repeat (first | (with_reducible first | exact HB.out | apply below_alloc | apply pw_below_drewN | apply below_drew1 | refine below_set ?_ GE226.out) | exact HB.out)))); have n2_ := Aside0.mk (Kd.R_lower ho2 (below_size (by repeat (first | (with_reducible first | exact HB.out | apply below_alloc | apply pw_below_drewN | apply below_drew1 | refine below_set ?_ GE226.out) | exact HB.out)))); have n3_ := Aside0.mk (Kd.R_lower ho3 (below_size (by repeat (first | (with_reducible first | exact HB.out | apply below_alloc | apply pw_below_drewN | apply below_drew1 | refine below_set ?_ GE226.out) | exact HB.out)))); have n4_ := Aside0.mk (blk_below (g := gb226) (o := .cells #[.string a0_0, .slice A0_1 l0_1.length c0_1, .int .i64 a0_2, .slice A0_3 l0_3.length c0_3, .slice A0_4 l0_4.length c0_4, .slice A0_5 l0_5.length c0_5] 27 (0, 0)) (by (with_reducible repeat (first | refine blk_drewN ?_ _ | refine blk_drew ?_ | refine blk_alloc ?_ _)); exact BK226.out) hb); have n5_ := Aside0.mk (below_step (by repeat (first | (with_reducible first | exact HB.out | apply below_alloc | apply pw_below_drewN | apply below_drew1 | refine below_set ?_ GE226.out) | exact HB.out)) hb); clear BK226; clear HB; have HO303 := n0_; have HO307 := n1_; have HO310 := n2_; have HO313 := n3_; have BK226 := n4_; have HB := n5_; clear n0_ n1_ n2_ n3_ n4_ n5_; (try clear hb); (try clear hb2); (try clear hk); (try clear hi); (try clear ho0); (try clear ho1); (try clear ho2); (try clear ho3)) | ((with_reducible refine gate_dst (N := 12) rfl ?_); (try (refine gate_guard (by rfl) ?_; dsimp only)); refine box_event ?hg (N := 12) ?hd (cs := #[.string (⟨#[]⟩ : ByteArray), .slice none 0 0, .int .i64 0, .slice none 0 0, .slice none 0 0, .slice none 0 0]) (t := 27) ?hr ?_; (case hd => rfl); (case hg => rfl); (case hr => first | (go_simp; done) | (go_simp; rfl)); intro gb314 hg w122 hbox hb; have n0_ := Aside0.mk (Kd.R_below (by (with_reducible repeat (first | apply Kd.R_alloc | apply Kd.R_drewN | apply Kd.R_drew)); exact HO303.out) hb); have n1_ := Aside0.mk (Kd.R_below (by (with_reducible repeat (first | apply Kd.R_alloc | apply Kd.R_drewN | apply Kd.R_drew)); exact HO307.out) hb); have n2_ := Aside0.mk (Kd.R_below (by (with_reducible repeat (first | apply Kd.R_alloc | apply Kd.R_drewN | apply Kd.R_drew)); exact HO310.out) hb); have n3_ := Aside0.mk (Kd.R_below (by (with_reducible repeat (first | apply Kd.R_alloc | apply Kd.R_drewN | apply Kd.R_drew)); exact HO313.out) hb); have n4_ := Aside0.mk (blk_below (g := gb226) (o := .cells #[.string a0_0, .slice A0_1 l0_1.length c0_1, .int .i64 a0_2, .slice A0_3 l0_3.length c0_3, .slice A0_4 l0_4.length c0_4, .slice A0_5 l0_5.length c0_5] 27 (0, 0)) (by (with_reducible repeat (first | refine blk_drewN ?_ _ | refine blk_drew ?_ | refine blk_alloc ?_ _)); exact BK226.out) hb); have n5_ := Aside0.mk (below_step (by repeat (first | (with_reducible first | exact HB.out | apply below_alloc | apply pw_below_drewN | apply below_drew1 | refine below_set ?_ GE226.out) | exact HB.out)) hb); have n6_ := Aside0.mk (hbox); have n7_ := Aside0.mk ((by rw [hg]; exact (below_size (by repeat (first | (with_reducible first | exact HB.out | apply below_alloc | apply pw_below_drewN | apply below_drew1 | refine below_set ?_ GE226.out) | exact HB.out))) : w.heap.size ≤ gb314)); have n8_ := Aside0.mk ((by rw [hg]; exact (below_size (by repeat (first | (with_reducible first | exact HB.out | apply below_alloc | apply pw_below_drewN | apply below_drew1 | refine below_set ?_ GE226.out) | exact HB.out))) : w.heap.size ≤ gb314)); have n9_ := Aside0.mk ((by rw [hg]; exact Nat.ne_of_lt (blk_lt (g := gb226) (o := .cells #[.string a0_0, .slice A0_1 l0_1.length c0_1, .int .i64 a0_2, .slice A0_3 l0_3.length c0_3, .slice A0_4 l0_4.length c0_4, .slice A0_5 l0_5.length c0_5] 27 (0, 0)) (by (with_reducible repeat (first | refine blk_drewN ?_ _ | refine blk_drew ?_ | refine blk_alloc ?_ _)); exact BK226.out)) : gb226 ≠ gb314)); have n10_ := Aside0.mk ((by rw [hg]; exact Nat.ne_of_gt (blk_lt (g := gb226) (o := .cells #[.string a0_0, .slice A0_1 l0_1.length c0_1, .int .i64 a0_2, .slice A0_3 l0_3.length c0_3, .slice A0_4 l0_4.length c0_4, .slice A0_5 l0_5.length c0_5] 27 (0, 0)) (by (with_reducible repeat (first | refine blk_drewN ?_ _ | refine blk_drew ?_ | refine blk_alloc ?_ _)); exact BK226.out)) : gb314 ≠ gb226)); clear HO303; clear HO307; clear HO310; clear HO313; clear BK226; clear HB; have HO303 := n0_; have HO307 := n1_; have HO310 := n2_; have HO313 := n3_; have BK226 := n4_; have HB := n5_; have BK314 := n6_; have GW314 := n7_; have GE314 := n8_; have NB226_314 := n9_; have NB314_226 := n10_; clear n0_ n1_ n2_ n3_ n4_ n5_ n6_ n7_ n8_ n9_ n10_; clear hb hbox hg; have hnb123 := NB314_226.out; have hnc123 := NB226_314.out; have hcz124_0 : w122.cell? ⟨gb314, 0, none⟩ = some (.string (⟨#[]⟩ : ByteArray)) := (blk_cell BK314.out 0).trans rfl; have hcz124_1 : w122.cell? ⟨gb314, 1, none⟩ = some (.slice none 0 0) := (blk_cell BK314.out 1).trans rfl; have hcz124_2 : w122.cell? ⟨gb314, 2, none⟩ = some (.int .i64 0) := (blk_cell BK314.out 2).trans rfl; have hcz124_3 : w122.cell? ⟨gb314, 3, none⟩ = some (.slice none 0 0) := (blk_cell BK314.out 3).trans rfl; have hcz124_4 : w122.cell? ⟨gb314, 4, none⟩ = some (.slice none 0 0) := (blk_cell BK314.out 4).trans rfl; have hcz124_5 : w122.cell? ⟨gb314, 5, none⟩ = some (.slice none 0 0) := (blk_cell BK314.out 5).trans rfl; have hfz124_0 := blk_frozen BK314.out 0; have hfz124_1 := blk_frozen BK314.out 1; have hfz124_2 := blk_frozen BK314.out 2; have hfz124_3 := blk_frozen BK314.out 3; have hfz124_4 := blk_frozen BK314.out 4; have hfz124_5 := blk_frozen BK314.out 5; obtain ⟨Ao125, co125, eo125⟩ := Kd.R_slice HO303.out; subst eo125; obtain ⟨Ao126, co126, eo126⟩ := Kd.R_slice HO307.out; subst eo126; obtain ⟨Ao127, co127, eo127⟩ := Kd.R_slice HO310.out; subst eo127; obtain ⟨Ao128, co128, eo128⟩ := Kd.R_slice HO313.out; subst eo128) | ((with_reducible refine gate_store (t := 27) (p := 12) rfl ?_); refine store_event (t := 27) (p := 12) (v := ?vo_w129) (w1 := ((((((w122.setCell ⟨gb314, 0, none⟩ (.string t300)).setCell ⟨gb314, 1, none⟩ (.slice Ao125 t301.length co125)).setCell ⟨gb314, 2, none⟩ (.int .i64 t304)).setCell ⟨gb314, 3, none⟩ (.slice Ao126 t305.length co126)).setCell ⟨gb314, 4, none⟩ (.slice Ao127 t308.length co127)).setCell ⟨gb314, 5, none⟩ (.slice Ao128 t311.length co128))) ?hg ?ho ?hn ?hr ?_; (case ho => rfl); (case hg => rfl); (case hn => rfl); (case hr => first | (go_simp; done) | (go_simp; rfl)); intro w129 hw; have n0_ : Aside0 (Kd.R (Kd.int .u32) 42 w129 w.heap.size (fun _ => True) (.slice Ao125 t301.length co125) t301) := ⟨(by rw [hw]; exact (by (with_reducible repeat (first | apply Kd.R_alloc | apply Kd.R_drewN | apply Kd.R_drew)); exact Kd.R_mono (Kd.R_far (p := ⟨gb314, 5, none⟩) (Kd.R_far (p := ⟨gb314, 4, none⟩) (Kd.R_far (p := ⟨gb314, 3, none⟩) (Kd.R_far (p := ⟨gb314, 2, none⟩) (Kd.R_far (p := ⟨gb314, 1, none⟩) (Kd.R_far (p := ⟨gb314, 0, none⟩) (Kd.R_types HO303.out BK314.out (by decide)) (fun _ hk => hk.2) (.string t300)) (fun _ hk => hk.2) (.slice Ao125 t301.length co125)) (fun _ hk => hk.2) (.int .i64 t304)) (fun _ hk => hk.2) (.slice Ao126 t305.length co126)) (fun _ hk => hk.2) (.slice Ao127 t308.length co127)) (fun _ hk => hk.2) (.slice Ao128 t311.length co128)) (fun _ hk => trivial)))⟩; have n1_ : Aside0 (Kd.R (Kd.int .i64) 2 w129 w.heap.size (fun _ => True) (.slice Ao126 t305.length co126) t305) := ⟨(by rw [hw]; exact (by (with_reducible repeat (first | apply Kd.R_alloc | apply Kd.R_drewN | apply Kd.R_drew)); exact Kd.R_mono (Kd.R_far (p := ⟨gb314, 5, none⟩) (Kd.R_far (p := ⟨gb314, 4, none⟩) (Kd.R_far (p := ⟨gb314, 3, none⟩) (Kd.R_far (p := ⟨gb314, 2, none⟩) (Kd.R_far (p := ⟨gb314, 1, none⟩) (Kd.R_far (p := ⟨gb314, 0, none⟩) (Kd.R_types HO307.out BK314.out (by decide)) (fun _ hk => hk.2) (.string t300)) (fun _ hk => hk.2) (.slice Ao125 t301.length co125)) (fun _ hk => hk.2) (.int .i64 t304)) (fun _ hk => hk.2) (.slice Ao126 t305.length co126)) (fun _ hk => hk.2) (.slice Ao127 t308.length co127)) (fun _ hk => hk.2) (.slice Ao128 t311.length co128)) (fun _ hk => trivial)))⟩; have n2_ : Aside0 (Kd.R k37 37 w129 w.heap.size (fun _ => True) (.slice Ao127 t308.length co127) t308) := ⟨(by rw [hw]; exact (by (with_reducible repeat (first | apply Kd.R_alloc | apply Kd.R_drewN | apply Kd.R_drew)); exact Kd.R_mono (Kd.R_far (p := ⟨gb314, 5, none⟩) (Kd.R_far (p := ⟨gb314, 4, none⟩) (Kd.R_far (p := ⟨gb314, 3, none⟩) (Kd.R_far (p := ⟨gb314, 2, none⟩) (Kd.R_far (p := ⟨gb314, 1, none⟩) (Kd.R_far (p := ⟨gb314, 0, none⟩) (Kd.R_types HO310.out BK314.out (by decide)) (fun _ hk => hk.2) (.string t300)) (fun _ hk => hk.2) (.slice Ao125 t301.length co125)) (fun _ hk => hk.2) (.int .i64 t304)) (fun _ hk => hk.2) (.slice Ao126 t305.length co126)) (fun _ hk => hk.2) (.slice Ao127 t308.length co127)) (fun _ hk => hk.2) (.slice Ao128 t311.length co128)) (fun _ hk => trivial)))⟩; have n3_ : Aside0 (Kd.R k41 41 w129 w.heap.size (fun _ => True) (.slice Ao128 t311.length co128) t311) := ⟨(by rw [hw]; exact (by (with_reducible repeat (first | apply Kd.R_alloc | apply Kd.R_drewN | apply Kd.R_drew)); exact Kd.R_mono (Kd.R_far (p := ⟨gb314, 5, none⟩) (Kd.R_far (p := ⟨gb314, 4, none⟩) (Kd.R_far (p := ⟨gb314, 3, none⟩) (Kd.R_far (p := ⟨gb314, 2, none⟩) (Kd.R_far (p := ⟨gb314, 1, none⟩) (Kd.R_far (p := ⟨gb314, 0, none⟩) (Kd.R_types HO313.out BK314.out (by decide)) (fun _ hk => hk.2) (.string t300)) (fun _ hk => hk.2) (.slice Ao125 t301.length co125)) (fun _ hk => hk.2) (.int .i64 t304)) (fun _ hk => hk.2) (.slice Ao126 t305.length co126)) (fun _ hk => hk.2) (.slice Ao127 t308.length co127)) (fun _ hk => hk.2) (.slice Ao128 t311.length co128)) (fun _ hk => trivial)))⟩; have n4_ : Aside0 (w129.heap[gb226]? = some (.cells #[.string a0_0, .slice A0_1 l0_1.length c0_1, .int .i64 a0_2, .slice A0_3 l0_3.length c0_3, .slice A0_4 l0_4.length c0_4, .slice A0_5 l0_5.length c0_5] 27 (0, 0))) := ⟨(by rw [hw]; exact (by (with_reducible repeat (first | refine blk_drewN ?_ _ | refine blk_drew ?_ | refine blk_alloc ?_ _)); refine blk_far ?_ NB226_314.out _; (with_reducible repeat (first | refine blk_drewN ?_ _ | refine blk_drew ?_ | refine blk_alloc ?_ _)); refine blk_far ?_ NB226_314.out _; (with_reducible repeat (first | refine blk_drewN ?_ _ | refine blk_drew ?_ | refine blk_alloc ?_ _)); refine blk_far ?_ NB226_314.out _; (with_reducible repeat (first | refine blk_drewN ?_ _ | refine blk_drew ?_ | refine blk_alloc ?_ _)); refine blk_far ?_ NB226_314.out _; (with_reducible repeat (first | refine blk_drewN ?_ _ | refine blk_drew ?_ | refine blk_alloc ?_ _)); refine blk_far ?_ NB226_314.out _; (with_reducible repeat (first | refine blk_drewN ?_ _ | refine blk_drew ?_ | refine blk_alloc ?_ _)); refine blk_far ?_ NB226_314.out _; (with_reducible repeat (first | refine blk_drewN ?_ _ | refine blk_drew ?_ | refine blk_alloc ?_ _)); exact BK226.out))⟩; have n5_ : Aside0 (w129.heap[gb314]? = some (.cells #[.string t300, .slice Ao125 t301.length co125, .int .i64 t304, .slice Ao126 t305.length co126, .slice Ao127 t308.length co127, .slice Ao128 t311.length co128] 27 (0, 0))) := ⟨(by rw [hw]; exact (by (with_reducible repeat (first | refine blk_drewN ?_ _ | refine blk_drew ?_ | refine blk_alloc ?_ _)); refine blk_put (cs := #[.string t300, .slice Ao125 t301.length co125, .int .i64 t304, .slice Ao126 t305.length co126, .slice Ao127 t308.length co127, .slice none 0 0]) ?_ 5 _ rfl; (with_reducible repeat (first | refine blk_drewN ?_ _ | refine blk_drew ?_ | refine blk_alloc ?_ _)); refine blk_put (cs := #[.string t300, .slice Ao125 t301.length co125, .int .i64 t304, .slice Ao126 t305.length co126, .slice none 0 0, .slice none 0 0]) ?_ 4 _ rfl; (with_reducible repeat (first | refine blk_drewN ?_ _ | refine blk_drew ?_ | refine blk_alloc ?_ _)); refine blk_put (cs := #[.string t300, .slice Ao125 t301.length co125, .int .i64 t304, .slice none 0 0, .slice none 0 0, .slice none 0 0]) ?_ 3 _ rfl; (with_reducible repeat (first | refine blk_drewN ?_ _ | refine blk_drew ?_ | refine blk_alloc ?_ _)); refine blk_put (cs := #[.string t300, .slice Ao125 t301.length co125, .int .i64 0, .slice none 0 0, .slice none 0 0, .slice none 0 0]) ?_ 2 _ rfl; (with_reducible repeat (first | refine blk_drewN ?_ _ | refine blk_drew ?_ | refine blk_alloc ?_ _)); refine blk_put (cs := #[.string t300, .slice none 0 0, .int .i64 0, .slice none 0 0, .slice none 0 0, .slice none 0 0]) ?_ 1 _ rfl; (with_reducible repeat (first | refine blk_drewN ?_ _ | refine blk_drew ?_ | refine blk_alloc ?_ _)); refine blk_put (cs := #[.string (⟨#[]⟩ : ByteArray), .slice none 0 0, .int .i64 0, .slice none 0 0, .slice none 0 0, .slice none 0 0]) ?_ 0 _ rfl; (with_reducible repeat (first | refine blk_drewN ?_ _ | refine blk_drew ?_ | refine blk_alloc ?_ _)); exact BK314.out))⟩; have n6_ : Aside0 (Below w.heap.size w w129) := ⟨(by rw [hw]; exact (by repeat (first | (with_reducible first | exact HB.out | apply below_alloc | apply pw_below_drewN | apply below_drew1 | refine below_set ?_ GE226.out | refine below_set ?_ GE314.out) | exact HB.out)))⟩; clear hw; clear HO303; clear HO307; clear HO310; clear HO313; clear BK226; clear BK314; clear HB; have HO303 := n0_; have HO307 := n1_; have HO310 := n2_; have HO313 := n3_; have BK226 := n4_; have BK314 := n5_; have HB := n6_; clear n0_ n1_ n2_ n3_ n4_ n5_ n6_; have hcz130_0 : w129.cell? ⟨gb314, 0, none⟩ = some (.string t300) := (blk_cell BK314.out 0).trans rfl; have hcz130_1 : w129.cell? ⟨gb314, 1, none⟩ = some (.slice Ao125 t301.length co125) := (blk_cell BK314.out 1).trans rfl; have hcz130_2 : w129.cell? ⟨gb314, 2, none⟩ = some (.int .i64 t304) := (blk_cell BK314.out 2).trans rfl; have hcz130_3 : w129.cell? ⟨gb314, 3, none⟩ = some (.slice Ao126 t305.length co126) := (blk_cell BK314.out 3).trans rfl; have hcz130_4 : w129.cell? ⟨gb314, 4, none⟩ = some (.slice Ao127 t308.length co127) := (blk_cell BK314.out 4).trans rfl; have hcz130_5 : w129.cell? ⟨gb314, 5, none⟩ = some (.slice Ao128 t311.length co128) := (blk_cell BK314.out 5).trans rfl; have hfz130_0 := blk_frozen BK314.out 0; have hfz130_1 := blk_frozen BK314.out 1; have hfz130_2 := blk_frozen BK314.out 2; have hfz130_3 := blk_frozen BK314.out 3; have hfz130_4 := blk_frozen BK314.out 4; have hfz130_5 := blk_frozen BK314.out 5; have q131 : ((ji115) : Int) ≤ ((t311.length : Int) : Int) := of_decide_eq_true (by first | (with_reducible assumption) | assumption); obtain ⟨i0131, hi0131, _, hsz131, _⟩ := info_parts info41; have hcut131 := cut_to (P := Try.prog) 25 41 .i64 Try.underlying25 hi0131 Ao128 t311.length co128 (ji115) (of_decide_eq_true (by first | (with_reducible assumption) | assumption)) q131 (Kd.R_reads' HO313.out).2.1; have hr131 := Kd.R_take (m := ((ji115) : Int).toNat) HO313.out (by omega); have hy131 : y315.length = ((ji115) : Int).toNat := (by rw [Ny315.out, List.length_take]; omega); rw [← Ny315.out] at hr131; rw [← hy131] at hr131 hcut131; clear hy131 hi0131 hsz131 HO313; have HO317 := Aside0.mk hr131; clear hr131; replace q131 := eq_true q131) | ((with_reducible refine gate_callee (f := 8) rfl ?_); refine goesL_ (some 110) rfl rfl Try.func8 (by kernel_rfl) rfl #[.agg #[.string t300, .slice Ao125 t301.length co125, .int .i64 t304, .slice Ao126 t305.length co126, .slice Ao127 t308.length co127, .slice Ao128 y315.length co128]] rfl (by (try simp only [List.map_toArray, List.map_cons, List.map_nil]); first | done | rfl | (simp only [List.length_drop, List.length_take]; rfl)) ?_; (with_reducible refine (object_Check.calls t300 _ _ t301 t304 _ _ t305 _ _ t308 _ _ y315 t318 t319 _ ?side1 ?side2 ?side3 ?side4 ?side5 ?side6 ?side7 ?side8 A118.out).mono ?_); (case side1 => refine (Kd.R_reads' (e := 42) (base := w.heap.size) (ok := fun k_ => True) (n := t301.length) (c := co125) ?_).2.2; exact (by (with_reducible repeat (first | apply Kd.R_alloc | apply Kd.R_drewN | apply Kd.R_drew)); exact (Kd.R_mono (Kd.R_far (p := ⟨gb314, 5, none⟩) (Kd.R_types HO303.out BK314.out (by decide)) (fun _ hk => hk.2) (.slice Ao128 y315.length co128)) (fun _ h_ => h_.1)))); (case side2 => exact (Kd.R_reads' HO303.out).2.1); (case side3 => refine (Kd.R_reads' (e := 2) (base := w.heap.size) (ok := fun k_ => True) (n := t305.length) (c := co126) ?_).2.2; exact (by (with_reducible repeat (first | apply Kd.R_alloc | apply Kd.R_drewN | apply Kd.R_drew)); exact (Kd.R_mono (Kd.R_far (p := ⟨gb314, 5, none⟩) (Kd.R_types HO307.out BK314.out (by decide)) (fun _ hk => hk.2) (.slice Ao128 y315.length co128)) (fun _ h_ => h_.1)))); (case side4 => exact (Kd.R_reads' HO307.out).2.1); (case side5 => refine (Kd.R_reads' (e := 37) (base := w.heap.size) (ok := fun k_ => True) (n := t308.length) (c := co127) ?_).2.2; exact (by (with_reducible repeat (first | apply Kd.R_alloc | apply Kd.R_drewN | apply Kd.R_drew)); exact (Kd.R_mono (Kd.R_far (p := ⟨gb314, 5, none⟩) (Kd.R_types HO310.out BK314.out (by decide)) (fun _ hk => hk.2) (.slice Ao128 y315.length co128)) (fun _ h_ => h_.1)))); (case side6 => exact (Kd.R_reads' HO310.out).2.1); (case side7 => refine (Kd.R_reads' (e := 41) (base := w.heap.size) (ok := fun k_ => True) (n := y315.length) (c := co128) ?_).2.2; exact (by (with_reducible repeat (first | apply Kd.R_alloc | apply Kd.R_drewN | apply Kd.R_drew)); exact (Kd.R_mono (Kd.R_far (p := ⟨gb314, 5, none⟩) (Kd.R_types HO317.out BK314.out (by decide)) (fun _ hk => hk.2) (.slice Ao128 y315.length co128)) (fun _ h_ => h_.1)))); (case side8 => exact (Kd.R_reads' HO317.out).2.1); rintro e w132 ⟨rfl, hb⟩; refine ⟨_, rfl, ?_⟩; have n0_ := Aside0.mk (Kd.R_below (by (with_reducible repeat (first | apply Kd.R_alloc | apply Kd.R_drewN | apply Kd.R_drew)); exact (Kd.R_mono (Kd.R_far (p := ⟨gb314, 5, none⟩) (Kd.R_types HO303.out BK314.out (by decide)) (fun _ hk => hk.2) (.slice Ao128 y315.length co128)) (fun _ h_ => h_.1))) hb); have n1_ := Aside0.mk (Kd.R_below (by (with_reducible repeat (first | apply Kd.R_alloc | apply Kd.R_drewN | apply Kd.R_drew)); exact (Kd.R_mono (Kd.R_far (p := ⟨gb314, 5, none⟩) (Kd.R_types HO307.out BK314.out (by decide)) (fun _ hk => hk.2) (.slice Ao128 y315.length co128)) (fun _ h_ => h_.1))) hb); have n2_ := Aside0.mk (Kd.R_below (by (with_reducible repeat (first | apply Kd.R_alloc | apply Kd.R_drewN | apply Kd.R_drew)); exact (Kd.R_mono (Kd.R_far (p := ⟨gb314, 5, none⟩) (Kd.R_types HO310.out BK314.out (by decide)) (fun _ hk => hk.2) (.slice Ao128 y315.length co128)) (fun _ h_ => h_.1))) hb); have n3_ := Aside0.mk (Kd.R_below (by (with_reducible repeat (first | apply Kd.R_alloc | apply Kd.R_drewN | apply Kd.R_drew)); exact (Kd.R_mono (Kd.R_far (p := ⟨gb314, 5, none⟩) (Kd.R_types HO317.out BK314.out (by decide)) (fun _ hk => hk.2) (.slice Ao128 y315.length co128)) (fun _ h_ => h_.1))) hb); have n4_ := Aside0.mk (blk_below (g := gb226) (o := .cells #[.string a0_0, .slice A0_1 l0_1.length c0_1, .int .i64 a0_2, .slice A0_3 l0_3.length c0_3, .slice A0_4 l0_4.length c0_4, .slice A0_5 l0_5.length c0_5] 27 (0, 0)) (by (with_reducible repeat (first | refine blk_drewN ?_ _ | refine blk_drew ?_ | refine blk_alloc ?_ _)); refine blk_far ?_ NB226_314.out _; (with_reducible repeat (first | refine blk_drewN ?_ _ | refine blk_drew ?_ | refine blk_alloc ?_ _)); exact BK226.out) hb); have n5_ := Aside0.mk (blk_below (g := gb314) (o := .cells #[.string t300, .slice Ao125 t301.length co125, .int .i64 t304, .slice Ao126 t305.length co126, .slice Ao127 t308.length co127, .slice Ao128 y315.length co128] 27 (0, 0)) (by (with_reducible repeat (first | refine blk_drewN ?_ _ | refine blk_drew ?_ | refine blk_alloc ?_ _)); refine blk_put (cs := #[.string t300, .slice Ao125 t301.length co125, .int .i64 t304, .slice Ao126 t305.length co126, .slice Ao127 t308.length co127, .slice Ao128 t311.length co128]) ?_ 5 _ rfl; (with_reducible repeat (first | refine blk_drewN ?_ _ | refine blk_drew ?_ | refine blk_alloc ?_ _)); exact BK314.out) hb); have n6_ := Aside0.mk (below_step (by repeat (first | (with_reducible first | exact HB.out | apply below_alloc | apply pw_below_drewN | apply below_drew1 | refine below_set ?_ GE226.out | refine below_set ?_ GE314.out) | exact HB.out)) hb); clear HO303; clear HO307; clear HO310; clear HO317; clear BK226; clear BK314; clear HB; have HO303 := n0_; have HO307 := n1_; have HO310 := n2_; have HO317 := n3_; have BK226 := n4_; have BK314 := n5_; have HB := n6_; clear n0_ n1_ n2_ n3_ n4_ n5_ n6_; (try clear hb); (try clear hb2); (try clear hk); (try clear hi)))
                go_meet
                case rel => exact ⟨_, H', ⟨by have := HK1.out; have := HK2.out; have := HJ77.out; first | omega | exact Nat.le_refl _⟩, ⟨by (with_reducible repeat (first | refine blk_drewN ?_ _ | refine blk_drew ?_ | refine blk_alloc ?_ _)); exact BK226.out⟩, ⟨by repeat (first | (with_reducible first | exact HB.out | apply below_alloc | apply pw_below_drewN | apply below_drew1 | refine below_set ?_ GE226.out | refine below_set ?_ GE314.out) | exact HB.out)⟩⟩
               ·
                rw [if_neg c119] at H
                exact absurd ((Option.some.inj H).trans HRT.out) (by decide)
              ·
               rw [if_neg c117] at H
               exact absurd H (by simp)
             ·
              rw [if_neg c116] at H
              exact absurd H (by simp)
            ·
             rw [if_neg c113] at H
             have c113b0 : decide (0 < (l0_5.length : Int)) = false := decide_eq_false c113
             have c113b1 : decide (0 < l0_5.length) = false := decide_eq_false (by omega)
             clear c113
             (first | rw [c113b0] | rw [c113b1] | (simp only [i64_w, i32_w]; rw [c113b0]) | skip)
             have H' := Aside0.mk H
             clear H
             go_wp2
             go_meet
             case rel => exact ⟨_, H', ⟨by have := HK1.out; have := HK2.out; have := HJ77.out; first | omega | exact Nat.le_refl _⟩, ⟨by (with_reducible repeat (first | refine blk_drewN ?_ _ | refine blk_drew ?_ | refine blk_alloc ?_ _)); exact BK226.out⟩, ⟨by repeat (first | (with_reducible first | exact HB.out | apply below_alloc | apply pw_below_drewN | apply below_drew1 | refine below_set ?_ GE226.out) | exact HB.out)⟩⟩
           case rest =>
            clear HC111
            try clear c1
            try clear q1
            try clear c2
            try clear p2
            try clear q2
            try clear hx2
            try clear c5
            try clear c6
            try clear p6
            try clear c8
            try clear c9
            try clear c10
            try clear c11
            try clear c12
            try clear c13
            try clear q13
            try clear q14
            try clear c23
            try clear c23b0
            try clear c25
            try clear p26
            try clear q26
            try clear hx26
            try clear c27
            try clear c27b0
            try clear c27b1
            try clear p27
            try clear q27
            try clear hx27
            try clear c57
            try clear c57b0
            try clear c59
            try clear c59b0
            try clear c61
            try clear c61b0
            try clear c61b1
            try clear p64
            try clear c80
            try clear c80b0
            try clear c80b1
            try clear c82
            try clear c84
            try clear c84b0
            try clear c84b1
            try clear c88
            try clear c101
            try clear c113
            try clear c113b0
            try clear c113b1
            try clear c116
            try clear c116b0
            try clear c116b1
            try clear c117
            try clear c117b0
            try clear c117b1
            try clear c119
            try clear c119b0
            try clear c119b1
            try clear c123
            try clear q131
            try clear c136
            try clear q144
            try clear hcz102_0
            try clear hcz102_1
            try clear hcz102_2
            try clear hcz102_3
            try clear hcz102_4
            try clear hcz102_5
            try clear hcz109_0
            try clear hcz109_1
            try clear hcz109_2
            try clear hcz109_3
            try clear hcz109_4
            try clear hcz109_5
            try clear hcz112_0
            try clear hcz112_1
            try clear hcz112_2
            try clear hcz112_3
            try clear hcz112_4
            try clear hcz112_5
            try clear hcz120_0
            try clear hcz120_1
            try clear hcz120_2
            try clear hcz120_3
            try clear hcz120_4
            try clear hcz120_5
            try clear hcz124_0
            try clear hcz124_1
            try clear hcz124_2
            try clear hcz124_3
            try clear hcz124_4
            try clear hcz124_5
            try clear hcz130_0
            try clear hcz130_1
            try clear hcz130_2
            try clear hcz130_3
            try clear hcz130_4
            try clear hcz130_5
            try clear hcz133_0
            try clear hcz133_1
            try clear hcz133_2
            try clear hcz133_3
            try clear hcz133_4
            try clear hcz133_5
            try clear hcz137_0
            try clear hcz137_1
            try clear hcz137_2
            try clear hcz137_3
            try clear hcz137_4
            try clear hcz137_5
            try clear hcz143_0
            try clear hcz143_1
            try clear hcz143_2
            try clear hcz143_3
            try clear hcz143_4
            try clear hcz143_5
            try clear hcz39_3
            try clear hcz39_4
            try clear hcz39_5
            try clear hcz48_0
            try clear hcz48_1
            try clear hcz48_2
            try clear hcz48_3
            try clear hcz48_4
            try clear hcz48_5
            try clear hcz56_0
            try clear hcz56_1
            try clear hcz56_2
            try clear hcz56_3
            try clear hcz56_4
            try clear hcz56_5
            try clear hcz62_0
            try clear hcz62_1
            try clear hcz62_2
            try clear hcz62_3
            try clear hcz62_4
            try clear hcz62_5
            try clear hcz70_0
            try clear hcz70_1
            try clear hcz70_2
            try clear hcz70_3
            try clear hcz70_4
            try clear hcz70_5
            try clear hcz79_0
            try clear hcz79_1
            try clear hcz79_2
            try clear hcz79_3
            try clear hcz79_4
            try clear hcz79_5
            try clear hcz85_0
            try clear hcz85_1
            try clear hcz85_2
            try clear hcz85_3
            try clear hcz85_4
            try clear hcz85_5
            try clear hcz89_0
            try clear hcz89_1
            try clear hcz89_2
            try clear hcz89_3
            try clear hcz89_4
            try clear hcz89_5
            try clear hcz96_0
            try clear hcz96_1
            try clear hcz96_2
            try clear hcz96_3
            try clear hcz96_4
            try clear hcz96_5
            try clear hcz98_0
            try clear hcz98_1
            try clear hcz98_2
            try clear hcz98_3
            try clear hcz98_4
            try clear hcz98_5
            try clear hfz102_0
            try clear hfz102_1
            try clear hfz102_2
            try clear hfz102_3
            try clear hfz102_4
            try clear hfz102_5
            try clear hfz109_0
            try clear hfz109_1
            try clear hfz109_2
            try clear hfz109_3
            try clear hfz109_4
            try clear hfz109_5
            try clear hfz112_0
            try clear hfz112_1
            try clear hfz112_2
            try clear hfz112_3
            try clear hfz112_4
            try clear hfz112_5
            try clear hfz120_0
            try clear hfz120_1
            try clear hfz120_2
            try clear hfz120_3
            try clear hfz120_4
            try clear hfz120_5
            try clear hfz124_0
            try clear hfz124_1
            try clear hfz124_2
            try clear hfz124_3
            try clear hfz124_4
            try clear hfz124_5
            try clear hfz130_0
            try clear hfz130_1
            try clear hfz130_2
            try clear hfz130_3
            try clear hfz130_4
            try clear hfz130_5
            try clear hfz133_0
            try clear hfz133_1
            try clear hfz133_2
            try clear hfz133_3
            try clear hfz133_4
            try clear hfz133_5
            try clear hfz137_0
            try clear hfz137_1
            try clear hfz137_2
            try clear hfz137_3
            try clear hfz137_4
            try clear hfz137_5
            try clear hfz143_0
            try clear hfz143_1
            try clear hfz143_2
            try clear hfz143_3
            try clear hfz143_4
            try clear hfz143_5
            try clear hfz39_0
            try clear hfz39_1
            try clear hfz39_2
            try clear hfz39_3
            try clear hfz39_4
            try clear hfz39_5
            try clear hfz48_0
            try clear hfz48_1
            try clear hfz48_2
            try clear hfz48_3
            try clear hfz48_4
            try clear hfz48_5
            try clear hfz56_0
            try clear hfz56_1
            try clear hfz56_2
            try clear hfz56_3
            try clear hfz56_4
            try clear hfz56_5
            try clear hfz62_0
            try clear hfz62_1
            try clear hfz62_2
            try clear hfz62_3
            try clear hfz62_4
            try clear hfz62_5
            try clear hfz70_0
            try clear hfz70_1
            try clear hfz70_2
            try clear hfz70_3
            try clear hfz70_4
            try clear hfz70_5
            try clear hfz79_0
            try clear hfz79_1
            try clear hfz79_2
            try clear hfz79_3
            try clear hfz79_4
            try clear hfz79_5
            try clear hfz85_0
            try clear hfz85_1
            try clear hfz85_2
            try clear hfz85_3
            try clear hfz85_4
            try clear hfz85_5
            try clear hfz89_0
            try clear hfz89_1
            try clear hfz89_2
            try clear hfz89_3
            try clear hfz89_4
            try clear hfz89_5
            try clear hfz96_0
            try clear hfz96_1
            try clear hfz96_2
            try clear hfz96_3
            try clear hfz96_4
            try clear hfz96_5
            try clear hfz98_0
            try clear hfz98_1
            try clear hfz98_2
            try clear hfz98_3
            try clear hfz98_4
            try clear hfz98_5
            try clear hx260_0
            try clear hx260_1
            try clear hx260_2
            try clear hx262_0
            try clear hx262_1
            try clear hx262_2
            try clear hx278_0
            try clear hx278_1
            try clear p2
            try clear p26
            try clear p260
            try clear p262
            try clear p27
            try clear p278
            try clear p6
            try clear p64
            try clear q131
            try clear q144
            try clear q2
            try clear q26
            try clear q260
            try clear q262
            try clear q27
            try clear q278
            obtain ⟨kq, HA, HJ110, BK226, HB⟩ := hcut
            cases kq with
            | zero => exact absurd HA.out (by simp [pleatlaw03_ObjectFinds.j3])
            | succ kj110 =>
             have H := HA.out
             clear HA
             simp only [pleatlaw03_ObjectFinds.j3] at H
             have HC146 := Aside0.mk H
             clear H
             go_upto_region 28 with (fail)
             go_cut [124] (fun v124 wc => ∃ (kq : Nat) (x124_145 : Bool), v124 = .bool x124_145 ∧ Aside0 (pleatlaw03_ObjectFinds.j4 kq a1 x124_145 a0_0 l0_1 a0_2 l0_3 l0_4 l0_5 = some r) ∧ Aside0 (kq ≤ kj110) ∧ Aside0 (wc.heap[gb226]? = some (.cells #[.string a0_0, (.slice A0_1 l0_1.length c0_1), .int .i64 a0_2, (.slice A0_3 l0_3.length c0_3), (.slice A0_4 l0_4.length c0_4), (.slice A0_5 l0_5.length c0_5)] 27 (0, 0))) ∧ Aside0 (Below w.heap.size w wc))
             case first =>
              have H := HC146.out
              clear HC146
              by_cases c147 : (l0_4.length : Int) > 0
              ·
               rw [if_pos c147] at H
               have c147b0 : decide (0 < (l0_4.length : Int)) = true := decide_eq_true c147
               have c147b1 : decide (0 < l0_4.length) = true := decide_eq_true (by omega)
               clear c147
               (first | rw [c147b0] | rw [c147b1] | (simp only [i64_w, i32_w]; rw [c147b0]) | skip)
               have H' := Aside0.mk H
               clear H
               have hcz148_0 : wc.cell? ⟨gb226, 0, none⟩ = some (.string a0_0) := (blk_cell BK226.out 0).trans rfl
               have hcz148_1 : wc.cell? ⟨gb226, 1, none⟩ = some (.slice A0_1 l0_1.length c0_1) := (blk_cell BK226.out 1).trans rfl
               have hcz148_2 : wc.cell? ⟨gb226, 2, none⟩ = some (.int .i64 a0_2) := (blk_cell BK226.out 2).trans rfl
               have hcz148_3 : wc.cell? ⟨gb226, 3, none⟩ = some (.slice A0_3 l0_3.length c0_3) := (blk_cell BK226.out 3).trans rfl
               have hcz148_4 : wc.cell? ⟨gb226, 4, none⟩ = some (.slice A0_4 l0_4.length c0_4) := (blk_cell BK226.out 4).trans rfl
               have hcz148_5 : wc.cell? ⟨gb226, 5, none⟩ = some (.slice A0_5 l0_5.length c0_5) := (blk_cell BK226.out 5).trans rfl
               have hfz148_0 := blk_frozen BK226.out 0
               have hfz148_1 := blk_frozen BK226.out 1
               have hfz148_2 := blk_frozen BK226.out 2
               have hfz148_3 := blk_frozen BK226.out 3
               have hfz148_4 := blk_frozen BK226.out 4
               have hfz148_5 := blk_frozen BK226.out 5
               go_wp2
               go_meet
               case rel => exact ⟨_, (decide ((l0_4.length : Int) < 256)), (by first | rfl | (simp; done) | (simp [*]; done)), H', ⟨by have := HK1.out; have := HK2.out; have := HJ77.out; have := HJ110.out; first | omega | exact Nat.le_refl _⟩, ⟨by (with_reducible repeat (first | refine blk_drewN ?_ _ | refine blk_drew ?_ | refine blk_alloc ?_ _)); exact BK226.out⟩, ⟨by repeat (first | (with_reducible first | exact HB.out | apply below_alloc | apply pw_below_drewN | apply below_drew1 | refine below_set ?_ GE226.out) | exact HB.out)⟩⟩
              ·
               rw [if_neg c147] at H
               have c147b0 : decide (0 < (l0_4.length : Int)) = false := decide_eq_false c147
               have c147b1 : decide (0 < l0_4.length) = false := decide_eq_false (by omega)
               clear c147
               (first | rw [c147b0] | rw [c147b1] | (simp only [i64_w, i32_w]; rw [c147b0]) | skip)
               have H' := Aside0.mk H
               clear H
               have hcz149_0 : wc.cell? ⟨gb226, 0, none⟩ = some (.string a0_0) := (blk_cell BK226.out 0).trans rfl
               have hcz149_1 : wc.cell? ⟨gb226, 1, none⟩ = some (.slice A0_1 l0_1.length c0_1) := (blk_cell BK226.out 1).trans rfl
               have hcz149_2 : wc.cell? ⟨gb226, 2, none⟩ = some (.int .i64 a0_2) := (blk_cell BK226.out 2).trans rfl
               have hcz149_3 : wc.cell? ⟨gb226, 3, none⟩ = some (.slice A0_3 l0_3.length c0_3) := (blk_cell BK226.out 3).trans rfl
               have hcz149_4 : wc.cell? ⟨gb226, 4, none⟩ = some (.slice A0_4 l0_4.length c0_4) := (blk_cell BK226.out 4).trans rfl
               have hcz149_5 : wc.cell? ⟨gb226, 5, none⟩ = some (.slice A0_5 l0_5.length c0_5) := (blk_cell BK226.out 5).trans rfl
               have hfz149_0 := blk_frozen BK226.out 0
               have hfz149_1 := blk_frozen BK226.out 1
               have hfz149_2 := blk_frozen BK226.out 2
               have hfz149_3 := blk_frozen BK226.out 3
               have hfz149_4 := blk_frozen BK226.out 4
               have hfz149_5 := blk_frozen BK226.out 5
               go_wp2
               go_meet
               case rel => exact ⟨_, (false), (by first | rfl | (simp; done) | (simp [*]; done)), H', ⟨by have := HK1.out; have := HK2.out; have := HJ77.out; have := HJ110.out; first | omega | exact Nat.le_refl _⟩, ⟨by (with_reducible repeat (first | refine blk_drewN ?_ _ | refine blk_drew ?_ | refine blk_alloc ?_ _)); exact BK226.out⟩, ⟨by repeat (first | (with_reducible first | exact HB.out | apply below_alloc | apply pw_below_drewN | apply below_drew1 | refine below_set ?_ GE226.out) | exact HB.out)⟩⟩
             case rest =>
              clear HC146
              try clear c1
              try clear q1
              try clear c2
              try clear p2
              try clear q2
              try clear hx2
              try clear c5
              try clear c6
              try clear p6
              try clear c8
              try clear c9
              try clear c10
              try clear c11
              try clear c12
              try clear c13
              try clear q13
              try clear c14
              try clear q14
              try clear c23
              try clear c23b0
              try clear c25
              try clear p26
              try clear q26
              try clear hx26
              try clear c27
              try clear c27b0
              try clear c27b1
              try clear p27
              try clear q27
              try clear hx27
              try clear c57
              try clear c57b0
              try clear c59
              try clear c59b0
              try clear c61
              try clear c61b0
              try clear c61b1
              try clear p64
              try clear c80
              try clear c80b0
              try clear c80b1
              try clear c82
              try clear c84
              try clear c84b0
              try clear c84b1
              try clear c88
              try clear c101
              try clear c113
              try clear c113b0
              try clear c113b1
              try clear c116
              try clear c116b0
              try clear c116b1
              try clear c117
              try clear c117b0
              try clear c117b1
              try clear c119
              try clear c119b0
              try clear c119b1
              try clear c123
              try clear q131
              try clear c136
              try clear q144
              try clear c147
              try clear c147b0
              try clear c147b1
              try clear hcz102_0
              try clear hcz102_1
              try clear hcz102_2
              try clear hcz102_3
              try clear hcz102_4
              try clear hcz102_5
              try clear hcz109_0
              try clear hcz109_1
              try clear hcz109_2
              try clear hcz109_3
              try clear hcz109_4
              try clear hcz109_5
              try clear hcz112_0
              try clear hcz112_1
              try clear hcz112_2
              try clear hcz112_3
              try clear hcz112_4
              try clear hcz112_5
              try clear hcz120_0
              try clear hcz120_1
              try clear hcz120_2
              try clear hcz120_3
              try clear hcz120_4
              try clear hcz120_5
              try clear hcz124_0
              try clear hcz124_1
              try clear hcz124_2
              try clear hcz124_3
              try clear hcz124_4
              try clear hcz124_5
              try clear hcz130_0
              try clear hcz130_1
              try clear hcz130_2
              try clear hcz130_3
              try clear hcz130_4
              try clear hcz130_5
              try clear hcz133_0
              try clear hcz133_1
              try clear hcz133_2
              try clear hcz133_3
              try clear hcz133_4
              try clear hcz133_5
              try clear hcz137_0
              try clear hcz137_1
              try clear hcz137_2
              try clear hcz137_3
              try clear hcz137_4
              try clear hcz137_5
              try clear hcz143_0
              try clear hcz143_1
              try clear hcz143_2
              try clear hcz143_3
              try clear hcz143_4
              try clear hcz143_5
              try clear hcz148_0
              try clear hcz148_1
              try clear hcz148_2
              try clear hcz148_3
              try clear hcz148_4
              try clear hcz148_5
              try clear hcz149_0
              try clear hcz149_1
              try clear hcz149_2
              try clear hcz149_3
              try clear hcz149_4
              try clear hcz149_5
              try clear hcz39_3
              try clear hcz39_4
              try clear hcz39_5
              try clear hcz48_0
              try clear hcz48_1
              try clear hcz48_2
              try clear hcz48_3
              try clear hcz48_4
              try clear hcz48_5
              try clear hcz56_0
              try clear hcz56_1
              try clear hcz56_2
              try clear hcz56_3
              try clear hcz56_4
              try clear hcz56_5
              try clear hcz62_0
              try clear hcz62_1
              try clear hcz62_2
              try clear hcz62_3
              try clear hcz62_4
              try clear hcz62_5
              try clear hcz70_0
              try clear hcz70_1
              try clear hcz70_2
              try clear hcz70_3
              try clear hcz70_4
              try clear hcz70_5
              try clear hcz79_0
              try clear hcz79_1
              try clear hcz79_2
              try clear hcz79_3
              try clear hcz79_4
              try clear hcz79_5
              try clear hcz85_0
              try clear hcz85_1
              try clear hcz85_2
              try clear hcz85_3
              try clear hcz85_4
              try clear hcz85_5
              try clear hcz89_0
              try clear hcz89_1
              try clear hcz89_2
              try clear hcz89_3
              try clear hcz89_4
              try clear hcz89_5
              try clear hcz96_0
              try clear hcz96_1
              try clear hcz96_2
              try clear hcz96_3
              try clear hcz96_4
              try clear hcz96_5
              try clear hcz98_0
              try clear hcz98_1
              try clear hcz98_2
              try clear hcz98_3
              try clear hcz98_4
              try clear hcz98_5
              try clear hfz102_0
              try clear hfz102_1
              try clear hfz102_2
              try clear hfz102_3
              try clear hfz102_4
              try clear hfz102_5
              try clear hfz109_0
              try clear hfz109_1
              try clear hfz109_2
              try clear hfz109_3
              try clear hfz109_4
              try clear hfz109_5
              try clear hfz112_0
              try clear hfz112_1
              try clear hfz112_2
              try clear hfz112_3
              try clear hfz112_4
              try clear hfz112_5
              try clear hfz120_0
              try clear hfz120_1
              try clear hfz120_2
              try clear hfz120_3
              try clear hfz120_4
              try clear hfz120_5
              try clear hfz124_0
              try clear hfz124_1
              try clear hfz124_2
              try clear hfz124_3
              try clear hfz124_4
              try clear hfz124_5
              try clear hfz130_0
              try clear hfz130_1
              try clear hfz130_2
              try clear hfz130_3
              try clear hfz130_4
              try clear hfz130_5
              try clear hfz133_0
              try clear hfz133_1
              try clear hfz133_2
              try clear hfz133_3
              try clear hfz133_4
              try clear hfz133_5
              try clear hfz137_0
              try clear hfz137_1
              try clear hfz137_2
              try clear hfz137_3
              try clear hfz137_4
              try clear hfz137_5
              try clear hfz143_0
              try clear hfz143_1
              try clear hfz143_2
              try clear hfz143_3
              try clear hfz143_4
              try clear hfz143_5
              try clear hfz148_0
              try clear hfz148_1
              try clear hfz148_2
              try clear hfz148_3
              try clear hfz148_4
              try clear hfz148_5
              try clear hfz149_0
              try clear hfz149_1
              try clear hfz149_2
              try clear hfz149_3
              try clear hfz149_4
              try clear hfz149_5
              try clear hfz39_0
              try clear hfz39_1
              try clear hfz39_2
              try clear hfz39_3
              try clear hfz39_4
              try clear hfz39_5
              try clear hfz48_0
              try clear hfz48_1
              try clear hfz48_2
              try clear hfz48_3
              try clear hfz48_4
              try clear hfz48_5
              try clear hfz56_0
              try clear hfz56_1
              try clear hfz56_2
              try clear hfz56_3
              try clear hfz56_4
              try clear hfz56_5
              try clear hfz62_0
              try clear hfz62_1
              try clear hfz62_2
              try clear hfz62_3
              try clear hfz62_4
              try clear hfz62_5
              try clear hfz70_0
              try clear hfz70_1
              try clear hfz70_2
              try clear hfz70_3
              try clear hfz70_4
              try clear hfz70_5
              try clear hfz79_0
              try clear hfz79_1
              try clear hfz79_2
              try clear hfz79_3
              try clear hfz79_4
              try clear hfz79_5
              try clear hfz85_0
              try clear hfz85_1
              try clear hfz85_2
              try clear hfz85_3
              try clear hfz85_4
              try clear hfz85_5
              try clear hfz89_0
              try clear hfz89_1
              try clear hfz89_2
              try clear hfz89_3
              try clear hfz89_4
              try clear hfz89_5
              try clear hfz96_0
              try clear hfz96_1
              try clear hfz96_2
              try clear hfz96_3
              try clear hfz96_4
              try clear hfz96_5
              try clear hfz98_0
              try clear hfz98_1
              try clear hfz98_2
              try clear hfz98_3
              try clear hfz98_4
              try clear hfz98_5
              try clear hx260_0
              try clear hx260_1
              try clear hx260_2
              try clear hx262_0
              try clear hx262_1
              try clear hx262_2
              try clear hx278_0
              try clear hx278_1
              try clear p2
              try clear p26
              try clear p260
              try clear p262
              try clear p27
              try clear p278
              try clear p6
              try clear p64
              try clear q1
              try clear q13
              try clear q131
              try clear q14
              try clear q144
              try clear q2
              try clear q26
              try clear q260
              try clear q262
              try clear q27
              try clear q278
              obtain ⟨kq, x124_145, rfl, HA, HJ145, BK226, HB⟩ := hcut
              cases kq with
              | zero => exact absurd HA.out (by simp [pleatlaw03_ObjectFinds.j4])
              | succ kj145 =>
               have H := HA.out
               clear HA
               simp only [pleatlaw03_ObjectFinds.j4] at H
               by_cases c150 : x124_145 = true
               ·
                subst c150
                have H1 : ((pleatref00_CopyObject.f a0_0 l0_1 a0_2 l0_3 l0_4 l0_5).bind fun bt320 => (if (l0_4.length : Int) = 0 then (none) else (if 0 ≤ (Int.tmod (wrap64 (a1)) (l0_4.length : Int)) then (if (Int.tmod (wrap64 (a1)) (l0_4.length : Int)) < (l0_4.length : Int) then (if bt320.2.2.2.2.1.length < 4398046511104 then ((object_Check.f bt320.1 bt320.2.1 bt320.2.2.1 bt320.2.2.2.1 (bt320.2.2.2.2.1 ++ [(⟨(rd_T37 l0_4 (Int.tmod (wrap64 (a1)) (l0_4.length : Int))).f0, (rd_T37 l0_4 (Int.tmod (wrap64 (a1)) (l0_4.length : Int))).f1, (rd_T37 l0_4 (Int.tmod (wrap64 (a1)) (l0_4.length : Int))).f2⟩ : S37)]) bt320.2.2.2.2.2).bind fun bt339 => (if bt339.1 = 26 then (if bt339.2 = (l0_4.length : Int) then ((pleatlaw03_lives.f kj145).bind fun t341 => (some t341)) else (some false)) else (some false))) else (none)) else (none)) else (none)))) = some r := by rw [if_pos rfl] at H; exact H
                clear H
                have H := H1
                clear H1
                replace H := Option.bind_eq_some_iff.mp H
                obtain ⟨⟨t320, t321, t324, t325, t328, t331⟩, A1510, H⟩ := H
                try dsimp only at H
                have A151 := Aside0.mk A1510
                clear A1510
                by_cases c152 : (l0_4.length : Int) = 0
                ·
                 rw [if_pos c152] at H
                 exact absurd H (by simp)
                ·
                 rw [if_neg c152] at H
                 have c152b0 : ((l0_4.length : Int) == 0) = false := beq_eq_false_iff_ne.mpr c152
                 have c152b1 : ((l0_4.length : Int) != 0) = true := bne_iff_ne.mpr c152
                 have c152b2 : ¬ (l0_4 = []) := fun h_ => c152 (by rw [h_]; rfl)
                 obtain ⟨ji153, hji153⟩ : ∃ j_ : Int, (Int.tmod (wrap64 (a1)) (l0_4.length : Int)) = j_ := ⟨_, rfl⟩
                 replace H : (if 0 ≤ (ji153) then (if (ji153) < (l0_4.length : Int) then (if t328.length < 4398046511104 then ((object_Check.f t320 t321 t324 t325 (t328 ++ [(⟨(rd_T37 l0_4 (ji153)).f0, (rd_T37 l0_4 (ji153)).f1, (rd_T37 l0_4 (ji153)).f2⟩ : S37)]) t331).bind fun bt339 => (if bt339.1 = 26 then (if bt339.2 = (l0_4.length : Int) then ((pleatlaw03_lives.f kj145).bind fun t341 => (some t341)) else (some false)) else (some false))) else (none)) else (none)) else (none)) = some r := by first | (rw [hji153] at H; exact H) | (simp only [hji153] at H ⊢; exact H)
                 (try rw [hji153] at A151)
                 by_cases c154 : 0 ≤ (ji153)
                 ·
                  rw [if_pos c154] at H
                  have c154b0 : decide (0 ≤ (ji153)) = true := decide_eq_true c154
                  clear c154
                  by_cases c155 : (ji153) < (l0_4.length : Int)
                  ·
                   rw [if_pos c155] at H
                   have c155b0 : decide ((ji153) < (l0_4.length : Int)) = true := decide_eq_true c155
                   clear c155
                   by_cases c156 : t328.length < 4398046511104
                   ·
                    rw [if_pos c156] at H
                    have LMc156 := Aside0.mk c156
                    clear c156
                    obtain ⟨y336, hy336⟩ : ∃ y_ : List (S37), y_ = (t328 ++ [(⟨(rd_T37 l0_4 (ji153)).f0, (rd_T37 l0_4 (ji153)).f1, (rd_T37 l0_4 (ji153)).f2⟩ : S37)]) := ⟨_, rfl⟩
                    replace H : ((object_Check.f t320 t321 t324 t325 y336 t331).bind fun bt339 => (if bt339.1 = 26 then (if bt339.2 = (l0_4.length : Int) then ((pleatlaw03_lives.f kj145).bind fun t341 => (some t341)) else (some false)) else (some false))) = some r := by first | (rw [hy336]; with_reducible exact H) | (have H2_ := (Option.bind_some _ _).symm.trans H; rw [hy336]; with_reducible exact H2_) | (have H2_ := (Option.bind_some _ _).symm.trans H; with_reducible exact H2_) | with_reducible exact H | (rw [hy336]; exact H) | exact H
                    have Ny336 := Aside0.mk hy336
                    clear hy336
                    replace H := Option.bind_eq_some_iff.mp H
                    obtain ⟨⟨t339, t340⟩, A1570, H⟩ := H
                    try dsimp only at H
                    have A157 := Aside0.mk A1570
                    clear A1570
                    by_cases c158 : t339 = 26
                    ·
                     rw [if_pos c158] at H
                     have c158b0 : (t339 == 26) = true := beq_iff_eq.mpr c158
                     have c158b1 : (t339 != 26) = false := bne_eq_false_iff_eq.mpr c158
                     clear c158
                     by_cases c159 : t340 = (l0_4.length : Int)
                     ·
                      rw [if_pos c159] at H
                      have c159b0 : (t340 == (l0_4.length : Int)) = true := beq_iff_eq.mpr c159
                      have c159b1 : (t340 != (l0_4.length : Int)) = false := bne_eq_false_iff_eq.mpr c159
                      clear c159
                      replace H := Option.bind_eq_some_iff.mp H
                      obtain ⟨t341, A1600, H⟩ := H
                      try dsimp only at H
                      have A160 := Aside0.mk A1600
                      clear A1600
                      obtain rfl := Option.some.inj H
                      have hcz161_0 : wc.cell? ⟨gb226, 0, none⟩ = some (.string a0_0) := (blk_cell BK226.out 0).trans rfl
                      have hcz161_1 : wc.cell? ⟨gb226, 1, none⟩ = some (.slice A0_1 l0_1.length c0_1) := (blk_cell BK226.out 1).trans rfl
                      have hcz161_2 : wc.cell? ⟨gb226, 2, none⟩ = some (.int .i64 a0_2) := (blk_cell BK226.out 2).trans rfl
                      have hcz161_3 : wc.cell? ⟨gb226, 3, none⟩ = some (.slice A0_3 l0_3.length c0_3) := (blk_cell BK226.out 3).trans rfl
                      have hcz161_4 : wc.cell? ⟨gb226, 4, none⟩ = some (.slice A0_4 l0_4.length c0_4) := (blk_cell BK226.out 4).trans rfl
                      have hcz161_5 : wc.cell? ⟨gb226, 5, none⟩ = some (.slice A0_5 l0_5.length c0_5) := (blk_cell BK226.out 5).trans rfl
                      have hfz161_0 := blk_frozen BK226.out 0
                      have hfz161_1 := blk_frozen BK226.out 1
                      have hfz161_2 := blk_frozen BK226.out 2
                      have hfz161_3 := blk_frozen BK226.out 3
                      have hfz161_4 := blk_frozen BK226.out 4
                      have hfz161_5 := blk_frozen BK226.out 5
                      try go_wp2_with (first | ((with_reducible refine gate_callee (f := 9) rfl ?_); refine goesL_ (some 126) rfl rfl Try.func9 (by kernel_rfl) rfl #[.agg #[.string a0_0, .slice A0_1 l0_1.length c0_1, .int .i64 a0_2, .slice A0_3 l0_3.length c0_3, .slice A0_4 l0_4.length c0_4, .slice A0_5 l0_5.length c0_5]] rfl (by (try simp only [List.map_toArray, List.map_cons, List.map_nil]); first | done | rfl | (simp only [List.length_drop, List.length_take]; rfl)) ?_; (with_reducible refine (pleatref00_CopyObject.calls a0_0 _ _ l0_1 a0_2 _ _ l0_3 _ _ l0_4 _ _ l0_5 t320 t321 t324 t325 t328 t331 _ ?side1 ?side2 ?side3 ?side4 ?side5 ?side6 ?side7 ?side8 A151.out).mono ?_); (case side1 => repeat (first | exact (Kd.C_below HR0_1.out HB.out) | (with_reducible refine Kd.C_alloc ?_ _) | (with_reducible refine Kd.C_drewN ?_ _) | (with_reducible refine Kd.C_drew ?_))); (case side2 => exact HC0_1.out); (case side3 => repeat (first | exact (Kd.C_below HR0_3.out HB.out) | (with_reducible refine Kd.C_alloc ?_ _) | (with_reducible refine Kd.C_drewN ?_ _) | (with_reducible refine Kd.C_drew ?_))); (case side4 => exact HC0_3.out); (case side5 => repeat (first | exact (Kd.C_below HR0_4.out HB.out) | (with_reducible refine Kd.C_alloc ?_ _) | (with_reducible refine Kd.C_drewN ?_ _) | (with_reducible refine Kd.C_drew ?_))); (case side6 => exact HC0_4.out); (case side7 => repeat (first | exact (Kd.C_below HR0_5.out HB.out) | (with_reducible refine Kd.C_alloc ?_ _) | (with_reducible refine Kd.C_drewN ?_ _) | (with_reducible refine Kd.C_drew ?_))); (case side8 => exact HC0_5.out); rintro e w162 ⟨v322, v326, v329, v332, rfl, ho0, ho1, ho2, ho3, hb⟩; refine ⟨_, rfl, ?_⟩; have n0_ := Aside0.mk (Kd.R_lower ho0 (below_size (by repeat (first | (with_reducible first | exact HB.out | apply below_alloc | apply pw_below_drewN | apply below_drew1 | refine below_set ?_ GE226.out) | exact HB.out)))); have n1_ := Aside0.mk (Kd.R_lower ho1 (below_size (by repeat (first | (with_reducible first | exact HB.out | apply below_alloc | apply pw_below_drewN | apply below_drew1 | refine below_set ?_ GE226.out) | exact HB.out)))); have n2_ := Aside0.mk (Kd.R_lower ho2 (below_size (by repeat (first | (with_reducible first | exact HB.out | apply below_alloc | apply pw_below_drewN | apply below_drew1 | refine below_set ?_ GE226.out) | exact HB.out)))); have n3_ := Aside0.mk (Kd.R_lower ho3 (below_size (by repeat (first | (with_reducible first | exact HB.out | apply below_alloc | apply pw_below_drewN | apply below_drew1 | refine below_set ?_ GE226.out) | exact HB.out)))); have n4_ := Aside0.mk (blk_below (g := gb226) (o := .cells #[.string a0_0, .slice A0_1 l0_1.length c0_1, .int .i64 a0_2, .slice A0_3 l0_3.length c0_3, .slice A0_4 l0_4.length c0_4, .slice A0_5 l0_5.length c0_5] 27 (0, 0)) (by (with_reducible repeat (first | refine blk_drewN ?_ _ | refine blk_drew ?_ | refine blk_alloc ?_ _)); exact BK226.out) hb); have n5_ := Aside0.mk (below_step (by repeat (first | (with_reducible first | exact HB.out | apply below_alloc | apply pw_below_drewN | apply below_drew1 | refine below_set ?_ GE226.out) | exact HB.out)) hb); clear BK226; clear HB; have HO323 := n0_; have HO327 := n1_; have HO330 := n2_; have HO333 := n3_; have BK226 := n4_; have HB := n5_; clear n0_ n1_ n2_ n3_ n4_ n5_; (try clear hb); (try clear hb2); (try clear hk); (try clear hi); (try clear ho0); (try clear ho1); (try clear ho2); (try clear ho3)) | ((with_reducible refine gate_dst (N := 15) rfl ?_); (try (refine gate_guard (by rfl) ?_; dsimp only)); refine box_event ?hg (N := 15) ?hd (cs := #[.string (⟨#[]⟩ : ByteArray), .slice none 0 0, .int .i64 0, .slice none 0 0, .slice none 0 0, .slice none 0 0]) (t := 27) ?hr ?_; (case hd => rfl); (case hg => rfl); (case hr => first | (go_simp; done) | (go_simp; rfl)); intro gb334 hg w163 hbox hb; have n0_ := Aside0.mk (Kd.R_below (by (with_reducible repeat (first | apply Kd.R_alloc | apply Kd.R_drewN | apply Kd.R_drew)); exact HO323.out) hb); have n1_ := Aside0.mk (Kd.R_below (by (with_reducible repeat (first | apply Kd.R_alloc | apply Kd.R_drewN | apply Kd.R_drew)); exact HO327.out) hb); have n2_ := Aside0.mk (Kd.R_below (by (with_reducible repeat (first | apply Kd.R_alloc | apply Kd.R_drewN | apply Kd.R_drew)); exact HO330.out) hb); have n3_ := Aside0.mk (Kd.R_below (by (with_reducible repeat (first | apply Kd.R_alloc | apply Kd.R_drewN | apply Kd.R_drew)); exact HO333.out) hb); have n4_ := Aside0.mk (blk_below (g := gb226) (o := .cells #[.string a0_0, .slice A0_1 l0_1.length c0_1, .int .i64 a0_2, .slice A0_3 l0_3.length c0_3, .slice A0_4 l0_4.length c0_4, .slice A0_5 l0_5.length c0_5] 27 (0, 0)) (by (with_reducible repeat (first | refine blk_drewN ?_ _ | refine blk_drew ?_ | refine blk_alloc ?_ _)); exact BK226.out) hb); have n5_ := Aside0.mk (below_step (by repeat (first | (with_reducible first | exact HB.out | apply below_alloc | apply pw_below_drewN | apply below_drew1 | refine below_set ?_ GE226.out) | exact HB.out)) hb); have n6_ := Aside0.mk (hbox); have n7_ := Aside0.mk ((by rw [hg]; exact (below_size (by repeat (first | (with_reducible first | exact HB.out | apply below_alloc | apply pw_below_drewN | apply below_drew1 | refine below_set ?_ GE226.out) | exact HB.out))) : w.heap.size ≤ gb334)); have n8_ := Aside0.mk ((by rw [hg]; exact (below_size (by repeat (first | (with_reducible first | exact HB.out | apply below_alloc | apply pw_below_drewN | apply below_drew1 | refine below_set ?_ GE226.out) | exact HB.out))) : w.heap.size ≤ gb334)); have n9_ := Aside0.mk ((by rw [hg]; exact Nat.ne_of_lt (blk_lt (g := gb226) (o := .cells #[.string a0_0, .slice A0_1 l0_1.length c0_1, .int .i64 a0_2, .slice A0_3 l0_3.length c0_3, .slice A0_4 l0_4.length c0_4, .slice A0_5 l0_5.length c0_5] 27 (0, 0)) (by (with_reducible repeat (first | refine blk_drewN ?_ _ | refine blk_drew ?_ | refine blk_alloc ?_ _)); exact BK226.out)) : gb226 ≠ gb334)); have n10_ := Aside0.mk ((by rw [hg]; exact Nat.ne_of_gt (blk_lt (g := gb226) (o := .cells #[.string a0_0, .slice A0_1 l0_1.length c0_1, .int .i64 a0_2, .slice A0_3 l0_3.length c0_3, .slice A0_4 l0_4.length c0_4, .slice A0_5 l0_5.length c0_5] 27 (0, 0)) (by (with_reducible repeat (first | refine blk_drewN ?_ _ | refine blk_drew ?_ | refine blk_alloc ?_ _)); exact BK226.out)) : gb334 ≠ gb226)); clear HO323; clear HO327; clear HO330; clear HO333; clear BK226; clear HB; have HO323 := n0_; have HO327 := n1_; have HO330 := n2_; have HO333 := n3_; have BK226 := n4_; have HB := n5_; have BK334 := n6_; have GW334 := n7_; have GE334 := n8_; have NB226_334 := n9_; have NB334_226 := n10_; clear n0_ n1_ n2_ n3_ n4_ n5_ n6_ n7_ n8_ n9_ n10_; clear hb hbox hg; have hnb164 := NB334_226.out; have hnc164 := NB226_334.out; have hcz165_0 : w163.cell? ⟨gb334, 0, none⟩ = some (.string (⟨#[]⟩ : ByteArray)) := (blk_cell BK334.out 0).trans rfl; have hcz165_1 : w163.cell? ⟨gb334, 1, none⟩ = some (.slice none 0 0) := (blk_cell BK334.out 1).trans rfl; have hcz165_2 : w163.cell? ⟨gb334, 2, none⟩ = some (.int .i64 0) := (blk_cell BK334.out 2).trans rfl; have hcz165_3 : w163.cell? ⟨gb334, 3, none⟩ = some (.slice none 0 0) := (blk_cell BK334.out 3).trans rfl; have hcz165_4 : w163.cell? ⟨gb334, 4, none⟩ = some (.slice none 0 0) := (blk_cell BK334.out 4).trans rfl; have hcz165_5 : w163.cell? ⟨gb334, 5, none⟩ = some (.slice none 0 0) := (blk_cell BK334.out 5).trans rfl; have hfz165_0 := blk_frozen BK334.out 0; have hfz165_1 := blk_frozen BK334.out 1; have hfz165_2 := blk_frozen BK334.out 2; have hfz165_3 := blk_frozen BK334.out 3; have hfz165_4 := blk_frozen BK334.out 4; have hfz165_5 := blk_frozen BK334.out 5; obtain ⟨Ao166, co166, eo166⟩ := Kd.R_slice HO323.out; subst eo166; obtain ⟨Ao167, co167, eo167⟩ := Kd.R_slice HO327.out; subst eo167; obtain ⟨Ao168, co168, eo168⟩ := Kd.R_slice HO330.out; subst eo168; obtain ⟨Ao169, co169, eo169⟩ := Kd.R_slice HO333.out; subst eo169))
                      have n0_ : Aside0 (Kd.R (Kd.int .u32) 42 ((((((w163.setCell ⟨gb334, 0, none⟩ (.string t320)).setCell ⟨gb334, 1, none⟩ (.slice Ao166 t321.length co166)).setCell ⟨gb334, 2, none⟩ (.int .i64 t324)).setCell ⟨gb334, 3, none⟩ (.slice Ao167 t325.length co167)).setCell ⟨gb334, 4, none⟩ (.slice Ao168 t328.length co168)).setCell ⟨gb334, 5, none⟩ (.slice Ao169 t331.length co169)) w.heap.size (fun _ => True) (.slice Ao166 t321.length co166) t321) := ⟨by (with_reducible repeat (first | apply Kd.R_alloc | apply Kd.R_drewN | apply Kd.R_drew)); exact Kd.R_mono (Kd.R_far (p := ⟨gb334, 5, none⟩) (Kd.R_far (p := ⟨gb334, 4, none⟩) (Kd.R_far (p := ⟨gb334, 3, none⟩) (Kd.R_far (p := ⟨gb334, 2, none⟩) (Kd.R_far (p := ⟨gb334, 1, none⟩) (Kd.R_far (p := ⟨gb334, 0, none⟩) (Kd.R_types HO323.out BK334.out (by decide)) (fun _ hk => hk.2) (.string t320)) (fun _ hk => hk.2) (.slice Ao166 t321.length co166)) (fun _ hk => hk.2) (.int .i64 t324)) (fun _ hk => hk.2) (.slice Ao167 t325.length co167)) (fun _ hk => hk.2) (.slice Ao168 t328.length co168)) (fun _ hk => hk.2) (.slice Ao169 t331.length co169)) (fun _ hk => trivial)⟩
                      have n1_ : Aside0 (Kd.R (Kd.int .i64) 2 ((((((w163.setCell ⟨gb334, 0, none⟩ (.string t320)).setCell ⟨gb334, 1, none⟩ (.slice Ao166 t321.length co166)).setCell ⟨gb334, 2, none⟩ (.int .i64 t324)).setCell ⟨gb334, 3, none⟩ (.slice Ao167 t325.length co167)).setCell ⟨gb334, 4, none⟩ (.slice Ao168 t328.length co168)).setCell ⟨gb334, 5, none⟩ (.slice Ao169 t331.length co169)) w.heap.size (fun _ => True) (.slice Ao167 t325.length co167) t325) := ⟨by (with_reducible repeat (first | apply Kd.R_alloc | apply Kd.R_drewN | apply Kd.R_drew)); exact Kd.R_mono (Kd.R_far (p := ⟨gb334, 5, none⟩) (Kd.R_far (p := ⟨gb334, 4, none⟩) (Kd.R_far (p := ⟨gb334, 3, none⟩) (Kd.R_far (p := ⟨gb334, 2, none⟩) (Kd.R_far (p := ⟨gb334, 1, none⟩) (Kd.R_far (p := ⟨gb334, 0, none⟩) (Kd.R_types HO327.out BK334.out (by decide)) (fun _ hk => hk.2) (.string t320)) (fun _ hk => hk.2) (.slice Ao166 t321.length co166)) (fun _ hk => hk.2) (.int .i64 t324)) (fun _ hk => hk.2) (.slice Ao167 t325.length co167)) (fun _ hk => hk.2) (.slice Ao168 t328.length co168)) (fun _ hk => hk.2) (.slice Ao169 t331.length co169)) (fun _ hk => trivial)⟩
                      have n2_ : Aside0 (Kd.R k37 37 ((((((w163.setCell ⟨gb334, 0, none⟩ (.string t320)).setCell ⟨gb334, 1, none⟩ (.slice Ao166 t321.length co166)).setCell ⟨gb334, 2, none⟩ (.int .i64 t324)).setCell ⟨gb334, 3, none⟩ (.slice Ao167 t325.length co167)).setCell ⟨gb334, 4, none⟩ (.slice Ao168 t328.length co168)).setCell ⟨gb334, 5, none⟩ (.slice Ao169 t331.length co169)) w.heap.size (fun _ => True) (.slice Ao168 t328.length co168) t328) := ⟨by (with_reducible repeat (first | apply Kd.R_alloc | apply Kd.R_drewN | apply Kd.R_drew)); exact Kd.R_mono (Kd.R_far (p := ⟨gb334, 5, none⟩) (Kd.R_far (p := ⟨gb334, 4, none⟩) (Kd.R_far (p := ⟨gb334, 3, none⟩) (Kd.R_far (p := ⟨gb334, 2, none⟩) (Kd.R_far (p := ⟨gb334, 1, none⟩) (Kd.R_far (p := ⟨gb334, 0, none⟩) (Kd.R_types HO330.out BK334.out (by decide)) (fun _ hk => hk.2) (.string t320)) (fun _ hk => hk.2) (.slice Ao166 t321.length co166)) (fun _ hk => hk.2) (.int .i64 t324)) (fun _ hk => hk.2) (.slice Ao167 t325.length co167)) (fun _ hk => hk.2) (.slice Ao168 t328.length co168)) (fun _ hk => hk.2) (.slice Ao169 t331.length co169)) (fun _ hk => trivial)⟩
                      have n3_ : Aside0 (Kd.R k41 41 ((((((w163.setCell ⟨gb334, 0, none⟩ (.string t320)).setCell ⟨gb334, 1, none⟩ (.slice Ao166 t321.length co166)).setCell ⟨gb334, 2, none⟩ (.int .i64 t324)).setCell ⟨gb334, 3, none⟩ (.slice Ao167 t325.length co167)).setCell ⟨gb334, 4, none⟩ (.slice Ao168 t328.length co168)).setCell ⟨gb334, 5, none⟩ (.slice Ao169 t331.length co169)) w.heap.size (fun _ => True) (.slice Ao169 t331.length co169) t331) := ⟨by (with_reducible repeat (first | apply Kd.R_alloc | apply Kd.R_drewN | apply Kd.R_drew)); exact Kd.R_mono (Kd.R_far (p := ⟨gb334, 5, none⟩) (Kd.R_far (p := ⟨gb334, 4, none⟩) (Kd.R_far (p := ⟨gb334, 3, none⟩) (Kd.R_far (p := ⟨gb334, 2, none⟩) (Kd.R_far (p := ⟨gb334, 1, none⟩) (Kd.R_far (p := ⟨gb334, 0, none⟩) (Kd.R_types HO333.out BK334.out (by decide)) (fun _ hk => hk.2) (.string t320)) (fun _ hk => hk.2) (.slice Ao166 t321.length co166)) (fun _ hk => hk.2) (.int .i64 t324)) (fun _ hk => hk.2) (.slice Ao167 t325.length co167)) (fun _ hk => hk.2) (.slice Ao168 t328.length co168)) (fun _ hk => hk.2) (.slice Ao169 t331.length co169)) (fun _ hk => trivial)⟩
                      have n4_ : Aside0 (((((((w163.setCell ⟨gb334, 0, none⟩ (.string t320)).setCell ⟨gb334, 1, none⟩ (.slice Ao166 t321.length co166)).setCell ⟨gb334, 2, none⟩ (.int .i64 t324)).setCell ⟨gb334, 3, none⟩ (.slice Ao167 t325.length co167)).setCell ⟨gb334, 4, none⟩ (.slice Ao168 t328.length co168)).setCell ⟨gb334, 5, none⟩ (.slice Ao169 t331.length co169)).heap[gb226]? = some (.cells #[.string a0_0, .slice A0_1 l0_1.length c0_1, .int .i64 a0_2, .slice A0_3 l0_3.length c0_3, .slice A0_4 l0_4.length c0_4, .slice A0_5 l0_5.length c0_5] 27 (0, 0))) := ⟨by (with_reducible repeat (first | refine blk_drewN ?_ _ | refine blk_drew ?_ | refine blk_alloc ?_ _)); refine blk_far ?_ NB226_334.out _; (with_reducible repeat (first | refine blk_drewN ?_ _ | refine blk_drew ?_ | refine blk_alloc ?_ _)); refine blk_far ?_ NB226_334.out _; (with_reducible repeat (first | refine blk_drewN ?_ _ | refine blk_drew ?_ | refine blk_alloc ?_ _)); refine blk_far ?_ NB226_334.out _; (with_reducible repeat (first | refine blk_drewN ?_ _ | refine blk_drew ?_ | refine blk_alloc ?_ _)); refine blk_far ?_ NB226_334.out _; (with_reducible repeat (first | refine blk_drewN ?_ _ | refine blk_drew ?_ | refine blk_alloc ?_ _)); refine blk_far ?_ NB226_334.out _; (with_reducible repeat (first | refine blk_drewN ?_ _ | refine blk_drew ?_ | refine blk_alloc ?_ _)); refine blk_far ?_ NB226_334.out _; (with_reducible repeat (first | refine blk_drewN ?_ _ | refine blk_drew ?_ | refine blk_alloc ?_ _)); exact BK226.out⟩
                      have n5_ : Aside0 (((((((w163.setCell ⟨gb334, 0, none⟩ (.string t320)).setCell ⟨gb334, 1, none⟩ (.slice Ao166 t321.length co166)).setCell ⟨gb334, 2, none⟩ (.int .i64 t324)).setCell ⟨gb334, 3, none⟩ (.slice Ao167 t325.length co167)).setCell ⟨gb334, 4, none⟩ (.slice Ao168 t328.length co168)).setCell ⟨gb334, 5, none⟩ (.slice Ao169 t331.length co169)).heap[gb334]? = some (.cells #[.string t320, .slice Ao166 t321.length co166, .int .i64 t324, .slice Ao167 t325.length co167, .slice Ao168 t328.length co168, .slice Ao169 t331.length co169] 27 (0, 0))) := ⟨by (with_reducible repeat (first | refine blk_drewN ?_ _ | refine blk_drew ?_ | refine blk_alloc ?_ _)); refine blk_put (cs := #[.string t320, .slice Ao166 t321.length co166, .int .i64 t324, .slice Ao167 t325.length co167, .slice Ao168 t328.length co168, .slice none 0 0]) ?_ 5 _ rfl; (with_reducible repeat (first | refine blk_drewN ?_ _ | refine blk_drew ?_ | refine blk_alloc ?_ _)); refine blk_put (cs := #[.string t320, .slice Ao166 t321.length co166, .int .i64 t324, .slice Ao167 t325.length co167, .slice none 0 0, .slice none 0 0]) ?_ 4 _ rfl; (with_reducible repeat (first | refine blk_drewN ?_ _ | refine blk_drew ?_ | refine blk_alloc ?_ _)); refine blk_put (cs := #[.string t320, .slice Ao166 t321.length co166, .int .i64 t324, .slice none 0 0, .slice none 0 0, .slice none 0 0]) ?_ 3 _ rfl; (with_reducible repeat (first | refine blk_drewN ?_ _ | refine blk_drew ?_ | refine blk_alloc ?_ _)); refine blk_put (cs := #[.string t320, .slice Ao166 t321.length co166, .int .i64 0, .slice none 0 0, .slice none 0 0, .slice none 0 0]) ?_ 2 _ rfl; (with_reducible repeat (first | refine blk_drewN ?_ _ | refine blk_drew ?_ | refine blk_alloc ?_ _)); refine blk_put (cs := #[.string t320, .slice none 0 0, .int .i64 0, .slice none 0 0, .slice none 0 0, .slice none 0 0]) ?_ 1 _ rfl; (with_reducible repeat (first | refine blk_drewN ?_ _ | refine blk_drew ?_ | refine blk_alloc ?_ _)); refine blk_put (cs := #[.string (⟨#[]⟩ : ByteArray), .slice none 0 0, .int .i64 0, .slice none 0 0, .slice none 0 0, .slice none 0 0]) ?_ 0 _ rfl; (with_reducible repeat (first | refine blk_drewN ?_ _ | refine blk_drew ?_ | refine blk_alloc ?_ _)); exact BK334.out⟩
                      have n6_ : Aside0 (Below w.heap.size w ((((((w163.setCell ⟨gb334, 0, none⟩ (.string t320)).setCell ⟨gb334, 1, none⟩ (.slice Ao166 t321.length co166)).setCell ⟨gb334, 2, none⟩ (.int .i64 t324)).setCell ⟨gb334, 3, none⟩ (.slice Ao167 t325.length co167)).setCell ⟨gb334, 4, none⟩ (.slice Ao168 t328.length co168)).setCell ⟨gb334, 5, none⟩ (.slice Ao169 t331.length co169))) := ⟨by repeat (first | (with_reducible first | exact HB.out | apply below_alloc | apply pw_below_drewN | apply below_drew1 | refine below_set ?_ GE226.out | refine below_set ?_ GE334.out) | exact HB.out)⟩
                      (try clear HO323)
                      (try clear HO327)
                      (try clear HO330)
                      (try clear HO333)
                      (try clear BK226)
                      (try clear BK334)
                      (try clear HB)
                      generalize ((((((w163.setCell ⟨gb334, 0, none⟩ (.string t320)).setCell ⟨gb334, 1, none⟩ (.slice Ao166 t321.length co166)).setCell ⟨gb334, 2, none⟩ (.int .i64 t324)).setCell ⟨gb334, 3, none⟩ (.slice Ao167 t325.length co167)).setCell ⟨gb334, 4, none⟩ (.slice Ao168 t328.length co168)).setCell ⟨gb334, 5, none⟩ (.slice Ao169 t331.length co169)) = w170 at n0_ n1_ n2_ n3_ n4_ n5_ n6_ ⊢
                      have HO323 := n0_
                      have HO327 := n1_
                      have HO330 := n2_
                      have HO333 := n3_
                      have BK226 := n4_
                      have BK334 := n5_
                      have HB := n6_
                      clear n0_ n1_ n2_ n3_ n4_ n5_ n6_
                      have n0_ := Aside0.mk (Kd.R_drew HO323.out)
                      have n1_ := Aside0.mk (Kd.R_drew HO327.out)
                      have n2_ := Aside0.mk (Kd.R_drew HO330.out)
                      have n3_ := Aside0.mk (Kd.R_drew HO333.out)
                      have n4_ := Aside0.mk (blk_drew BK226.out)
                      have n5_ := Aside0.mk (blk_drew BK334.out)
                      have n6_ := Aside0.mk (below_drew1 HB.out)
                      clear HO323
                      clear HO327
                      clear HO330
                      clear HO333
                      clear BK226
                      clear BK334
                      clear HB
                      have HO323 := n0_
                      have HO327 := n1_
                      have HO330 := n2_
                      have HO333 := n3_
                      have BK226 := n4_
                      have BK334 := n5_
                      have HB := n6_
                      clear n0_ n1_ n2_ n3_ n4_ n5_ n6_
                      have p335 : 0 ≤ ((ji153) : Int) := of_decide_eq_true (by first | (with_reducible assumption) | assumption)
                      have q335 : (ji153) < (l0_4.length : Int) := of_decide_eq_true (by first | (with_reducible assumption) | assumption)
                      obtain ⟨ad335, e335, hx335_0, hx335_1, hx335_2⟩ := at_T37 HR0_4.out (ji153) p335 q335
                      have hw335_2 := hx335_2
                      have hw335_1 := hx335_1
                      have hw335_0 := hx335_0
                      cases e335
                      replace hx335_0 := (HB.out.cell (World.block_lt_of_cell? w _ hx335_0)).trans hx335_0
                      replace hx335_1 := (HB.out.cell (World.block_lt_of_cell? w _ hx335_1)).trans hx335_1
                      replace hx335_2 := (HB.out.cell (World.block_lt_of_cell? w _ hx335_2)).trans hx335_2
                      replace p335 := eq_true p335
                      replace q335 := eq_true q335
                      refine start_ (n := 16) (S := fun w' => w'.cell? ⟨gb334, 0, none⟩ = some (.string t320) ∧ w'.cell? ⟨gb334, 1, none⟩ = some (.slice Ao166 t321.length co166) ∧ w'.cell? ⟨gb334, 2, none⟩ = some (.int .i64 t324) ∧ w'.cell? ⟨gb334, 3, none⟩ = some (.slice Ao167 t325.length co167) ∧ w'.cell? ⟨gb334, 4, none⟩ = some (.slice Ao168 t328.length co168) ∧ w'.cell? ⟨gb334, 5, none⟩ = some (.slice Ao169 t331.length co169) ∧ w'.cell? ⟨gb226, 0, none⟩ = some (.string a0_0) ∧ w'.cell? ⟨gb226, 1, none⟩ = some (.slice A0_1 l0_1.length c0_1) ∧ w'.cell? ⟨gb226, 2, none⟩ = some (.int .i64 a0_2) ∧ w'.cell? ⟨gb226, 3, none⟩ = some (.slice A0_3 l0_3.length c0_3) ∧ w'.cell? ⟨gb226, 4, none⟩ = some (.slice (some ad335) l0_4.length c0_4) ∧ w'.cell? ⟨gb226, 5, none⟩ = some (.slice A0_5 l0_5.length c0_5) ∧ w'.cell? (ad335.add (((ji153)).toNat * 3)) = some (.string ((rd_T37 l0_4 (ji153)).f0)) ∧ w'.cell? ⟨(ad335.add (((ji153)).toNat * 3)).block, (ad335.add (((ji153)).toNat * 3)).off + 1, none⟩ = some (.int .i8 ((rd_T37 l0_4 (ji153)).f1)) ∧ w'.cell? ⟨(ad335.add (((ji153)).toNat * 3)).block, (ad335.add (((ji153)).toNat * 3)).off + 2, none⟩ = some (.int .i64 ((rd_T37 l0_4 (ji153)).f2))) (ds := [15]) #[false, false, false, false, false, false, false, false, false, false, false, false, false, false, false, false] (by kernel_rfl) rfl rfl ⟨(blk_cell BK334.out 0).trans rfl, (blk_cell BK334.out 1).trans rfl, (blk_cell BK334.out 2).trans rfl, (blk_cell BK334.out 3).trans rfl, (blk_cell BK334.out 4).trans rfl, (blk_cell BK334.out 5).trans rfl, (blk_cell BK226.out 0).trans rfl, (blk_cell BK226.out 1).trans rfl, (blk_cell BK226.out 2).trans rfl, (blk_cell BK226.out 3).trans rfl, (blk_cell BK226.out 4).trans rfl, (blk_cell BK226.out 5).trans rfl, ((HB.out.cell (World.block_lt_of_cell? w _ hw335_0)).trans hw335_0), ((HB.out.cell (World.block_lt_of_cell? w _ hw335_1)).trans hw335_1), ((HB.out.cell (World.block_lt_of_cell? w _ hw335_2)).trans hw335_2)⟩ (fun hHeld => ?_); refine with_tabW pleatlaw03_ObjectFinds.tab30 pleatlaw03_ObjectFinds.bits30 (fun HT_ HW_ => ?_)
                      generalize w170.drew = w171 at HO323 HO327 HO330 HO333 BK226 BK334 HB hx335_0 hx335_1 hx335_2 hHeld ⊢
                      refine pure_ (i := 0) (N := some 127) (v := ?_) (a' := ?_) #[true, false, false, false, false, false, false, false, false, false, false, false, false, false, false, false] rfl rfl (any_of HT_.out (by kernel_rfl)) (fun _ _ _ h => h) (Or.inl ⟨by rfl, ?_⟩) ?_ ?_
                      rotate_left
                      ·
                       intro w'
                       go_simp
                       with_reducible rfl
                      rotate_left
                      ·
                       simp only [Act.put, List.setIfInBounds_toArray, List.set_cons_zero, List.set_cons_succ, i64_w, i32_w]
                       rfl
                      refine pure_ (i := 2) (N := some 129) (v := ?_) (a' := ?_) #[true, false, true, false, false, false, false, false, false, false, false, false, false, false, false, false] rfl rfl (any_of HT_.out (by kernel_rfl)) (fun _ _ _ h => h) (Or.inl ⟨by rfl, ?_⟩) ?_ ?_
                      rotate_left
                      ·
                       intro w'
                       go_simp
                       with_reducible rfl
                      rotate_left
                      ·
                       simp only [Act.put, List.setIfInBounds_toArray, List.set_cons_zero, List.set_cons_succ, i64_w, i32_w]
                       rfl
                      refine pure_ (i := 4) (N := some 131) (v := ?_) (a' := ?_) #[true, false, true, false, true, false, false, false, false, false, false, false, false, false, false, false] rfl rfl (any_of HT_.out (by kernel_rfl)) (fun _ _ _ h => h) (Or.inl ⟨by rfl, ?_⟩) ?_ ?_
                      rotate_left
                      ·
                       intro w'
                       go_simp
                       with_reducible rfl
                      rotate_left
                      ·
                       simp only [Act.put, List.setIfInBounds_toArray, List.set_cons_zero, List.set_cons_succ, i64_w, i32_w]
                       rfl
                      refine pure_ (i := 5) (N := some 132) (v := ?_) (a' := ?_) #[true, false, true, false, true, true, false, false, false, false, false, false, false, false, false, false] rfl rfl (any_of HT_.out (by kernel_rfl)) (fun _ _ _ h => h) (Or.inl ⟨by rfl, ?_⟩) ?_ ?_
                      rotate_left
                      ·
                       intro w'
                       go_simp
                       with_reducible rfl
                      rotate_left
                      ·
                       simp only [Act.put, List.setIfInBounds_toArray, List.set_cons_zero, List.set_cons_succ, i64_w, i32_w]
                       rfl
                      refine pure_ (i := 6) (N := some 133) (v := ?_) (a' := ?_) #[true, false, true, false, true, true, true, false, false, false, false, false, false, false, false, false] rfl rfl (any_of HT_.out (by kernel_rfl)) (fun _ _ _ h => h) (Or.inl ⟨by rfl, ?_⟩) ?_ ?_
                      rotate_left
                      ·
                       intro w'
                       go_simp
                       with_reducible rfl
                      rotate_left
                      ·
                       simp only [Act.put, List.setIfInBounds_toArray, List.set_cons_zero, List.set_cons_succ, i64_w, i32_w]
                       rfl
                      refine take_ (i := 1) (N := some 128) (v := ?_) (a' := ?_) #[true, true, true, false, true, true, true, false, false, false, false, false, false, false, false, false] rfl rfl (take_ofW HT_.out HW_.out (by kernel_rfl)) (fun _ _ _ h => h) (Or.inl ⟨by rfl, ?_⟩) hHeld ?_ ?_
                      rotate_left
                      ·
                       rintro w' ⟨s0, s1, s2, s3, s4, s5, s6, s7, s8, s9, s10, s11, s12, s13, s14⟩
                       go_simp
                       with_reducible rfl
                      rotate_left
                      ·
                       simp only [Act.put, List.setIfInBounds_toArray, List.set_cons_zero, List.set_cons_succ, i64_w, i32_w]
                       rfl
                      refine take_ (i := 3) (N := some 130) (v := ?_) (a' := ?_) #[true, true, true, true, true, true, true, false, false, false, false, false, false, false, false, false] rfl rfl (take_ofW HT_.out HW_.out (by kernel_rfl)) (fun _ _ _ h => h) (Or.inl ⟨by rfl, ?_⟩) hHeld ?_ ?_
                      rotate_left
                      ·
                       rintro w' ⟨s0, s1, s2, s3, s4, s5, s6, s7, s8, s9, s10, s11, s12, s13, s14⟩
                       go_simp
                       with_reducible rfl
                      rotate_left
                      ·
                       simp only [Act.put, List.setIfInBounds_toArray, List.set_cons_zero, List.set_cons_succ, i64_w, i32_w]
                       rfl
                      refine take_ (i := 7) (N := some 134) (v := ?_) (a' := ?_) #[true, true, true, true, true, true, true, true, false, false, false, false, false, false, false, false] rfl rfl (take_ofW HT_.out HW_.out (by kernel_rfl)) (fun _ _ _ h => h) (Or.inl ⟨by rfl, ?_⟩) hHeld ?_ ?_
                      rotate_left
                      ·
                       rintro w' ⟨s0, s1, s2, s3, s4, s5, s6, s7, s8, s9, s10, s11, s12, s13, s14⟩
                       go_simp
                       with_reducible rfl
                      rotate_left
                      ·
                       simp only [Act.put, List.setIfInBounds_toArray, List.set_cons_zero, List.set_cons_succ, i64_w, i32_w]
                       rfl
                      refine pure_ (i := 8) (N := some 135) (v := ?_) (a' := ?_) #[true, true, true, true, true, true, true, true, true, false, false, false, false, false, false, false] rfl rfl (any_of HT_.out (by kernel_rfl)) (fun _ _ _ h => h) (Or.inl ⟨by rfl, ?_⟩) ?_ ?_
                      rotate_left
                      ·
                       intro w'
                       go_simp
                       with_reducible rfl
                      rotate_left
                      ·
                       simp only [Act.put, List.setIfInBounds_toArray, List.set_cons_zero, List.set_cons_succ, i64_w, i32_w]
                       rfl
                      refine pure_ (i := 9) (N := some 136) (v := ?_) (a' := ?_) #[true, true, true, true, true, true, true, true, true, true, false, false, false, false, false, false] rfl rfl (any_of HT_.out (by kernel_rfl)) (fun _ _ _ h => h) (Or.inl ⟨by rfl, ?_⟩) ?_ ?_
                      rotate_left
                      ·
                       intro w'
                       go_simp
                       with_reducible rfl
                      rotate_left
                      ·
                       simp only [Act.put, List.setIfInBounds_toArray, List.set_cons_zero, List.set_cons_succ, i64_w, i32_w]
                       rfl
                      refine pure_ (i := 10) (N := some 137) (v := ?_) (a' := ?_) #[true, true, true, true, true, true, true, true, true, true, true, false, false, false, false, false] rfl rfl (any_of HT_.out (by kernel_rfl)) (fun _ _ _ h => h) (Or.inl ⟨by rfl, ?_⟩) ?_ ?_
                      rotate_left
                      ·
                       intro w'
                       go_simp
                       with_reducible rfl
                      rotate_left
                      ·
                       simp only [Act.put, List.setIfInBounds_toArray, List.set_cons_zero, List.set_cons_succ, i64_w, i32_w]
                       rfl
                      refine take_ (i := 11) (N := some 138) (v := ?_) (a' := ?_) #[true, true, true, true, true, true, true, true, true, true, true, true, false, false, false, false] rfl rfl (take_ofW HT_.out HW_.out (by kernel_rfl)) (fun _ _ _ h => h) (Or.inl ⟨by rfl, ?_⟩) hHeld ?_ ?_
                      rotate_left
                      ·
                       rintro w' ⟨s0, s1, s2, s3, s4, s5, s6, s7, s8, s9, s10, s11, s12, s13, s14⟩
                       go_simp
                       with_reducible rfl
                      rotate_left
                      ·
                       simp only [Act.put, List.setIfInBounds_toArray, List.set_cons_zero, List.set_cons_succ, i64_w, i32_w]
                       rfl
                      refine one_ (i := 12) (N := some 139) #[true, true, true, true, true, true, true, true, true, true, true, true, true, false, false, false] rfl rfl (one_of HT_.out (by kernel_rfl)) (by decide) (fun K hK => ?_)
                      refine value_ (w1 := ?_) (v := ?_) (by rfl) rfl ?_ ?_
                      rotate_left 2
                      ·
                       go_simp
                       constructor
                       ·
                        rfl
                       ·
                        rfl
                      refine hK.out _ _ ⟨(blk_cell (blk_alloc BK334.out _) 0).trans rfl, (blk_cell (blk_alloc BK334.out _) 1).trans rfl, (blk_cell (blk_alloc BK334.out _) 2).trans rfl, (blk_cell (blk_alloc BK334.out _) 3).trans rfl, (blk_cell (blk_alloc BK334.out _) 4).trans rfl, (blk_cell (blk_alloc BK334.out _) 5).trans rfl, (blk_cell (blk_alloc BK226.out _) 0).trans rfl, (blk_cell (blk_alloc BK226.out _) 1).trans rfl, (blk_cell (blk_alloc BK226.out _) 2).trans rfl, (blk_cell (blk_alloc BK226.out _) 3).trans rfl, (blk_cell (blk_alloc BK226.out _) 4).trans rfl, (blk_cell (blk_alloc BK226.out _) 5).trans rfl, (World.cell?_alloc_lt _ _ _ (World.block_lt_of_cell? _ _ (((HB.out.cell (World.block_lt_of_cell? w _ hw335_0)).trans hw335_0)))).trans (((HB.out.cell (World.block_lt_of_cell? w _ hw335_0)).trans hw335_0)), (World.cell?_alloc_lt _ _ _ (World.block_lt_of_cell? _ _ (((HB.out.cell (World.block_lt_of_cell? w _ hw335_1)).trans hw335_1)))).trans (((HB.out.cell (World.block_lt_of_cell? w _ hw335_1)).trans hw335_1)), (World.cell?_alloc_lt _ _ _ (World.block_lt_of_cell? _ _ (((HB.out.cell (World.block_lt_of_cell? w _ hw335_2)).trans hw335_2)))).trans (((HB.out.cell (World.block_lt_of_cell? w _ hw335_2)).trans hw335_2))⟩ (fun hHeld => ?_)
                      clear hK K
                      refine norm_ (a' := ?_) ?_ ?_
                      rotate_left
                      ·
                       show Act.put _ (some 139) _ = _
                       simp only [Act.put, List.setIfInBounds_toArray, List.set_cons_zero, List.set_cons_succ, i64_w, i32_w]
                       rfl
                      refine one_ (i := 13) (N := some 140) #[true, true, true, true, true, true, true, true, true, true, true, true, true, true, false, false] rfl rfl (one_of HT_.out (by kernel_rfl)) (by decide) (fun K hK => ?_)
                      refine Kd.R_append_step k37 (w0 := w) w.heap.size (by rfl) (.tmp 128) (.tmp 139) 24 37 (.agg #[(.string ⟨#[]⟩), (.int .i8 0), (.int .i64 0)]) 32 rfl Try.underlying24 info37 rfl (by decide) (by omega) (.slice Ao168 t328.length co168) t328 (⟨(rd_T37 l0_4 (ji153)).f0, (rd_T37 l0_4 (ji153)).f1, (rd_T37 l0_4 (ji153)).f2⟩ : S37) [.string ((rd_T37 l0_4 (ji153)).f0), .int .i8 ((rd_T37 l0_4 (ji153)).f1), .int .i64 ((rd_T37 l0_4 (ji153)).f2)] (fun _ => True) (fun _ => False) rfl rfl ?aP (fun _ hk => hk.elim) ?aF ?aO ?aB ?aS ?aL ?_
                      (case aP => exact k37_mkM _ _ _ (⟨(rd_T37 l0_4 (ji153)).f0, (rd_T37 l0_4 (ji153)).f1, (rd_T37 l0_4 (ji153)).f2⟩ : S37))
                      (case aB => exact (by repeat (first | (with_reducible first | exact HB.out | apply below_alloc | apply pw_below_drewN | apply below_drew1 | refine below_set ?_ GE226.out | refine below_set ?_ GE334.out) | exact HB.out)))
                      (case aF => exact (fun _ _ => trivial))
                      (case aO => exact (by (with_reducible repeat (first | apply Kd.R_alloc | apply Kd.R_drewN | apply Kd.R_drew)); exact HO330.out))
                      (case aS => exact (below_size (by repeat (first | (with_reducible first | exact HB.out | apply below_alloc | apply pw_below_drewN | apply below_drew1 | refine below_set ?_ GE226.out | refine below_set ?_ GE334.out) | exact HB.out))))
                      (case aL => have := LMc156.out; omega)
                      intro v337 w172 ho hb hg hat
                      rw [← Ny336.out] at ho
                      have n0_ := Aside0.mk (blk_grown (g := gb226) (o := .cells #[.string a0_0, .slice A0_1 l0_1.length c0_1, .int .i64 a0_2, .slice A0_3 l0_3.length c0_3, .slice (some ad335) l0_4.length c0_4, .slice A0_5 l0_5.length c0_5] 27 (0, 0)) (by (with_reducible repeat (first | refine blk_drewN ?_ _ | refine blk_drew ?_ | refine blk_alloc ?_ _)); exact BK226.out) hg (Kd.R_ne HO330.out BK226.out (by decide)))
                      have n1_ := Aside0.mk (Kd.R_over' (by (with_reducible repeat (first | apply Kd.R_alloc | apply Kd.R_drewN | apply Kd.R_drew)); exact HO323.out) (Kd.R_typed (by (with_reducible repeat (first | apply Kd.R_alloc | apply Kd.R_drewN | apply Kd.R_drew)); exact HO330.out)) (by decide) hg)
                      have n2_ := Aside0.mk (Kd.R_over' (by (with_reducible repeat (first | apply Kd.R_alloc | apply Kd.R_drewN | apply Kd.R_drew)); exact HO327.out) (Kd.R_typed (by (with_reducible repeat (first | apply Kd.R_alloc | apply Kd.R_drewN | apply Kd.R_drew)); exact HO330.out)) (by decide) hg)
                      have n3_ := Aside0.mk (Kd.R_over' (by (with_reducible repeat (first | apply Kd.R_alloc | apply Kd.R_drewN | apply Kd.R_drew)); exact HO333.out) (Kd.R_typed (by (with_reducible repeat (first | apply Kd.R_alloc | apply Kd.R_drewN | apply Kd.R_drew)); exact HO330.out)) (by decide) hg)
                      have n4_ := Aside0.mk (blk_grown (g := gb334) (o := .cells #[.string t320, .slice Ao166 t321.length co166, .int .i64 t324, .slice Ao167 t325.length co167, .slice Ao168 t328.length co168, .slice Ao169 t331.length co169] 27 (0, 0)) (by (with_reducible repeat (first | refine blk_drewN ?_ _ | refine blk_drew ?_ | refine blk_alloc ?_ _)); exact BK334.out) hg (Kd.R_ne HO330.out BK334.out (by decide)))
                      have n5_ := Aside0.mk (hb)
                      have n6_ := Aside0.mk (ho)
                      clear BK226
                      clear HO323
                      clear HO327
                      clear HO333
                      clear BK334
                      clear HB
                      clear HO330
                      have BK226 := n0_
                      have HO323 := n1_
                      have HO327 := n2_
                      have HO333 := n3_
                      have BK334 := n4_
                      have HB := n5_
                      have HO338 := n6_
                      clear n0_ n1_ n2_ n3_ n4_ n5_ n6_
                      clear ho hb hg hat
                      obtain ⟨Ao173, co173, eo173⟩ := Kd.R_slice HO338.out
                      (first | subst eo173 | (injection eo173 with f1_ f2_ f3_; have f4_ := f1_.symm; have f5_ := f3_.symm; clear f1_ f2_ f3_; subst f4_; subst f5_))
                      refine hK.out _ _ ⟨(blk_cell BK334.out 0).trans rfl, (blk_cell BK334.out 1).trans rfl, (blk_cell BK334.out 2).trans rfl, (blk_cell BK334.out 3).trans rfl, (blk_cell BK334.out 4).trans rfl, (blk_cell BK334.out 5).trans rfl, (blk_cell BK226.out 0).trans rfl, (blk_cell BK226.out 1).trans rfl, (blk_cell BK226.out 2).trans rfl, (blk_cell BK226.out 3).trans rfl, (blk_cell BK226.out 4).trans rfl, (blk_cell BK226.out 5).trans rfl, ((HB.out.cell (World.block_lt_of_cell? w _ hw335_0)).trans hw335_0), ((HB.out.cell (World.block_lt_of_cell? w _ hw335_1)).trans hw335_1), ((HB.out.cell (World.block_lt_of_cell? w _ hw335_2)).trans hw335_2)⟩ (fun hHeld => ?_)
                      clear hK K
                      refine norm_ (a' := ?_) ?_ ?_
                      rotate_left
                      ·
                       show Act.put _ (some 140) _ = _
                       simp only [Act.put, List.setIfInBounds_toArray, List.set_cons_zero, List.set_cons_succ, i64_w, i32_w]
                       rfl
                      refine pure_ (i := 14) (N := some 141) (v := ?_) (a' := ?_) #[true, true, true, true, true, true, true, true, true, true, true, true, true, true, true, false] rfl rfl (any_of HT_.out (by kernel_rfl)) (fun _ _ _ h => h) (Or.inl ⟨by rfl, ?_⟩) ?_ ?_
                      rotate_left
                      ·
                       intro w'
                       go_simp
                       with_reducible rfl
                      rotate_left
                      ·
                       simp only [Act.put, List.setIfInBounds_toArray, List.set_cons_zero, List.set_cons_succ, i64_w, i32_w]
                       rfl
                      refine last_ (i := 15) (N := none) #[true, true, true, true, true, true, true, true, true, true, true, true, true, true, true, true] rfl rfl (one_of HT_.out (by kernel_rfl)) (by decide) (fun K hK => ?_)
                      have hs174 : w172.cell? ⟨gb334, 4, none⟩ = some (.slice Ao168 t328.length co168) := (blk_cell BK334.out 4).trans rfl
                      have hfs174 := blk_frozen BK334.out 4
                      have hns174_0 := NB226_334.out
                      have hms174_0 := NB334_226.out
                      refine skip_ (w1 := ?_) (by rfl) rfl ?_ ?_
                      rotate_left
                      ·
                       go_simp
                       rfl
                      refine hK.out _ _ ?_
                      clear hK K
                      refine done_ (done_of HT_.out (by kernel_rfl)) ?_
                      have hcz175_0 : w172.cell? ⟨gb334, 0, none⟩ = some (.string t320) := (blk_cell BK334.out 0).trans rfl
                      have hcz175_1 : w172.cell? ⟨gb334, 1, none⟩ = some (.slice Ao166 t321.length co166) := (blk_cell BK334.out 1).trans rfl
                      have hcz175_2 : w172.cell? ⟨gb334, 2, none⟩ = some (.int .i64 t324) := (blk_cell BK334.out 2).trans rfl
                      have hcz175_3 : w172.cell? ⟨gb334, 3, none⟩ = some (.slice Ao167 t325.length co167) := (blk_cell BK334.out 3).trans rfl
                      have hcz175_4 : w172.cell? ⟨gb334, 4, none⟩ = some (.slice Ao168 t328.length co168) := (blk_cell BK334.out 4).trans rfl
                      have hcz175_5 : w172.cell? ⟨gb334, 5, none⟩ = some (.slice Ao169 t331.length co169) := (blk_cell BK334.out 5).trans rfl
                      have hfz175_0 := blk_frozen BK334.out 0
                      have hfz175_1 := blk_frozen BK334.out 1
                      have hfz175_2 := blk_frozen BK334.out 2
                      have hfz175_3 := blk_frozen BK334.out 3
                      have hfz175_4 := blk_frozen BK334.out 4
                      have hfz175_5 := blk_frozen BK334.out 5
                      try go_wp2_with (first | ((with_reducible refine gate_callee (f := 8) rfl ?_); refine goesL_ (some 144) rfl rfl Try.func8 (by kernel_rfl) rfl #[.agg #[.string t320, .slice Ao166 t321.length co166, .int .i64 t324, .slice Ao167 t325.length co167, .slice Ao173 y336.length co173, .slice Ao169 t331.length co169]] rfl (by (try simp only [List.map_toArray, List.map_cons, List.map_nil]); first | done | rfl | (simp only [List.length_drop, List.length_take]; rfl)) ?_; (with_reducible refine (object_Check.calls t320 _ _ t321 t324 _ _ t325 _ _ y336 _ _ t331 t339 t340 _ ?side1 ?side2 ?side3 ?side4 ?side5 ?side6 ?side7 ?side8 A157.out).mono ?_); (case side1 => refine (Kd.R_reads' (e := 42) (base := w.heap.size) (ok := fun k_ => True) (n := t321.length) (c := co166) ?_).2.2; exact (by (with_reducible repeat (first | apply Kd.R_alloc | apply Kd.R_drewN | apply Kd.R_drew)); exact (Kd.R_mono (Kd.R_far (p := ⟨gb334, 4, none⟩) (Kd.R_types HO323.out BK334.out (by decide)) (fun _ hk => hk.2) (.slice Ao173 y336.length co173)) (fun _ h_ => h_.1)))); (case side2 => exact (Kd.R_reads' HO323.out).2.1); (case side3 => refine (Kd.R_reads' (e := 2) (base := w.heap.size) (ok := fun k_ => True) (n := t325.length) (c := co167) ?_).2.2; exact (by (with_reducible repeat (first | apply Kd.R_alloc | apply Kd.R_drewN | apply Kd.R_drew)); exact (Kd.R_mono (Kd.R_far (p := ⟨gb334, 4, none⟩) (Kd.R_types HO327.out BK334.out (by decide)) (fun _ hk => hk.2) (.slice Ao173 y336.length co173)) (fun _ h_ => h_.1)))); (case side4 => exact (Kd.R_reads' HO327.out).2.1); (case side5 => refine (Kd.R_reads' (e := 37) (base := w.heap.size) (ok := fun k_ => True) (n := y336.length) (c := co173) ?_).2.2; exact (by (with_reducible repeat (first | apply Kd.R_alloc | apply Kd.R_drewN | apply Kd.R_drew)); exact (Kd.R_mono (Kd.R_far (p := ⟨gb334, 4, none⟩) (Kd.R_types HO338.out BK334.out (by decide)) (fun _ hk => hk.2) (.slice Ao173 y336.length co173)) (fun _ h_ => h_.1)))); (case side6 => exact (Kd.R_reads' HO338.out).2.1); (case side7 => refine (Kd.R_reads' (e := 41) (base := w.heap.size) (ok := fun k_ => True) (n := t331.length) (c := co169) ?_).2.2; exact (by (with_reducible repeat (first | apply Kd.R_alloc | apply Kd.R_drewN | apply Kd.R_drew)); exact (Kd.R_mono (Kd.R_far (p := ⟨gb334, 4, none⟩) (Kd.R_types HO333.out BK334.out (by decide)) (fun _ hk => hk.2) (.slice Ao173 y336.length co173)) (fun _ h_ => h_.1)))); (case side8 => exact (Kd.R_reads' HO333.out).2.1); rintro e w176 ⟨rfl, hb⟩; refine ⟨_, rfl, ?_⟩; have n0_ := Aside0.mk (Kd.R_below (by (with_reducible repeat (first | apply Kd.R_alloc | apply Kd.R_drewN | apply Kd.R_drew)); exact (Kd.R_mono (Kd.R_far (p := ⟨gb334, 4, none⟩) (Kd.R_types HO323.out BK334.out (by decide)) (fun _ hk => hk.2) (.slice Ao173 y336.length co173)) (fun _ h_ => h_.1))) hb); have n1_ := Aside0.mk (Kd.R_below (by (with_reducible repeat (first | apply Kd.R_alloc | apply Kd.R_drewN | apply Kd.R_drew)); exact (Kd.R_mono (Kd.R_far (p := ⟨gb334, 4, none⟩) (Kd.R_types HO327.out BK334.out (by decide)) (fun _ hk => hk.2) (.slice Ao173 y336.length co173)) (fun _ h_ => h_.1))) hb); have n2_ := Aside0.mk (Kd.R_below (by (with_reducible repeat (first | apply Kd.R_alloc | apply Kd.R_drewN | apply Kd.R_drew)); exact (Kd.R_mono (Kd.R_far (p := ⟨gb334, 4, none⟩) (Kd.R_types HO333.out BK334.out (by decide)) (fun _ hk => hk.2) (.slice Ao173 y336.length co173)) (fun _ h_ => h_.1))) hb); have n3_ := Aside0.mk (Kd.R_below (by (with_reducible repeat (first | apply Kd.R_alloc | apply Kd.R_drewN | apply Kd.R_drew)); exact (Kd.R_mono (Kd.R_far (p := ⟨gb334, 4, none⟩) (Kd.R_types HO338.out BK334.out (by decide)) (fun _ hk => hk.2) (.slice Ao173 y336.length co173)) (fun _ h_ => h_.1))) hb); have n4_ := Aside0.mk (blk_below (g := gb226) (o := .cells #[.string a0_0, .slice A0_1 l0_1.length c0_1, .int .i64 a0_2, .slice A0_3 l0_3.length c0_3, .slice (some ad335) l0_4.length c0_4, .slice A0_5 l0_5.length c0_5] 27 (0, 0)) (by (with_reducible repeat (first | refine blk_drewN ?_ _ | refine blk_drew ?_ | refine blk_alloc ?_ _)); refine blk_far ?_ NB226_334.out _; (with_reducible repeat (first | refine blk_drewN ?_ _ | refine blk_drew ?_ | refine blk_alloc ?_ _)); exact BK226.out) hb); have n5_ := Aside0.mk (blk_below (g := gb334) (o := .cells #[.string t320, .slice Ao166 t321.length co166, .int .i64 t324, .slice Ao167 t325.length co167, .slice Ao173 y336.length co173, .slice Ao169 t331.length co169] 27 (0, 0)) (by (with_reducible repeat (first | refine blk_drewN ?_ _ | refine blk_drew ?_ | refine blk_alloc ?_ _)); refine blk_put (cs := #[.string t320, .slice Ao166 t321.length co166, .int .i64 t324, .slice Ao167 t325.length co167, .slice Ao168 t328.length co168, .slice Ao169 t331.length co169]) ?_ 4 _ rfl; (with_reducible repeat (first | refine blk_drewN ?_ _ | refine blk_drew ?_ | refine blk_alloc ?_ _)); exact BK334.out) hb); have n6_ := Aside0.mk (below_step (by repeat (first | (with_reducible first | exact HB.out | apply below_alloc | apply pw_below_drewN | apply below_drew1 | refine below_set ?_ GE226.out | refine below_set ?_ GE334.out) | exact HB.out)) hb); clear HO323; clear HO327; clear HO333; clear HO338; clear BK226; clear BK334; clear HB; have HO323 := n0_; have HO327 := n1_; have HO333 := n2_; have HO338 := n3_; have BK226 := n4_; have BK334 := n5_; have HB := n6_; clear n0_ n1_ n2_ n3_ n4_ n5_ n6_; (try clear hb); (try clear hb2); (try clear hk); (try clear hi); have hcz177_0 : w176.cell? ⟨gb226, 0, none⟩ = some (.string a0_0) := (blk_cell BK226.out 0).trans rfl; have hcz177_1 : w176.cell? ⟨gb226, 1, none⟩ = some (.slice A0_1 l0_1.length c0_1) := (blk_cell BK226.out 1).trans rfl; have hcz177_2 : w176.cell? ⟨gb226, 2, none⟩ = some (.int .i64 a0_2) := (blk_cell BK226.out 2).trans rfl; have hcz177_3 : w176.cell? ⟨gb226, 3, none⟩ = some (.slice A0_3 l0_3.length c0_3) := (blk_cell BK226.out 3).trans rfl; have hcz177_4 : w176.cell? ⟨gb226, 4, none⟩ = some (.slice (some ad335) l0_4.length c0_4) := (blk_cell BK226.out 4).trans rfl; have hcz177_5 : w176.cell? ⟨gb226, 5, none⟩ = some (.slice A0_5 l0_5.length c0_5) := (blk_cell BK226.out 5).trans rfl; have hfz177_0 := blk_frozen BK226.out 0; have hfz177_1 := blk_frozen BK226.out 1; have hfz177_2 := blk_frozen BK226.out 2; have hfz177_3 := blk_frozen BK226.out 3; have hfz177_4 := blk_frozen BK226.out 4; have hfz177_5 := blk_frozen BK226.out 5) | ((with_reducible refine gate_callee (f := 7) rfl ?_); refine goesL_ (some 156) rfl rfl Try.func7 (by kernel_rfl) rfl #[] rfl (by (try simp only [List.map_toArray, List.map_cons, List.map_nil]); first | done | rfl | (simp only [List.length_drop, List.length_take]; rfl)) ?_; (with_reducible refine (pleatlaw03_lives.calls kj145  t341 _ A160.out).mono ?_); rintro e w178 ⟨rfl, hb⟩; refine ⟨_, rfl, ?_⟩; have n0_ := Aside0.mk (Kd.R_below (by (with_reducible repeat (first | apply Kd.R_alloc | apply Kd.R_drewN | apply Kd.R_drew)); exact HO323.out) hb); have n1_ := Aside0.mk (Kd.R_below (by (with_reducible repeat (first | apply Kd.R_alloc | apply Kd.R_drewN | apply Kd.R_drew)); exact HO327.out) hb); have n2_ := Aside0.mk (Kd.R_below (by (with_reducible repeat (first | apply Kd.R_alloc | apply Kd.R_drewN | apply Kd.R_drew)); exact HO333.out) hb); have n3_ := Aside0.mk (Kd.R_below (by (with_reducible repeat (first | apply Kd.R_alloc | apply Kd.R_drewN | apply Kd.R_drew)); exact HO338.out) hb); have n4_ := Aside0.mk (blk_below (g := gb226) (o := .cells #[.string a0_0, .slice A0_1 l0_1.length c0_1, .int .i64 a0_2, .slice A0_3 l0_3.length c0_3, .slice (some ad335) l0_4.length c0_4, .slice A0_5 l0_5.length c0_5] 27 (0, 0)) (by (with_reducible repeat (first | refine blk_drewN ?_ _ | refine blk_drew ?_ | refine blk_alloc ?_ _)); exact BK226.out) hb); have n5_ := Aside0.mk (blk_below (g := gb334) (o := .cells #[.string t320, .slice Ao166 t321.length co166, .int .i64 t324, .slice Ao167 t325.length co167, .slice Ao173 y336.length co173, .slice Ao169 t331.length co169] 27 (0, 0)) (by (with_reducible repeat (first | refine blk_drewN ?_ _ | refine blk_drew ?_ | refine blk_alloc ?_ _)); exact BK334.out) hb); have n6_ := Aside0.mk (below_step (by repeat (first | (with_reducible first | exact HB.out | apply below_alloc | apply pw_below_drewN | apply below_drew1 | refine below_set ?_ GE226.out | refine below_set ?_ GE334.out) | exact HB.out)) hb); clear HO323; clear HO327; clear HO333; clear HO338; clear BK226; clear BK334; clear HB; have HO323 := n0_; have HO327 := n1_; have HO333 := n2_; have HO338 := n3_; have BK226 := n4_; have BK334 := n5_; have HB := n6_; clear n0_ n1_ n2_ n3_ n4_ n5_ n6_; (try clear hb); (try clear hb2); (try clear hk); (try clear hi)))
                      go_ret
                      exact ⟨by first | rfl | (simp [errW_none, errW_some] <;> rfl) | (simp only [← hji153]; first | rfl | (simp [errW_none, errW_some] <;> rfl)) | (simp [*, errW_none, errW_some] <;> rfl), by repeat (first | (with_reducible first | exact HB.out | apply below_alloc | apply pw_below_drewN | apply below_drew1 | refine below_set ?_ GE226.out | refine below_set ?_ GE334.out) | exact HB.out)⟩
                     ·
                      rw [if_neg c159] at H
                      exact absurd ((Option.some.inj H).trans HRT.out) (by decide)
                    ·
                     rw [if_neg c158] at H
                     exact absurd ((Option.some.inj H).trans HRT.out) (by decide)
                   ·
                    rw [if_neg c156] at H
                    exact absurd H (by simp)
                  ·
                   rw [if_neg c155] at H
                   exact absurd H (by simp)
                 ·
                  rw [if_neg c154] at H
                  exact absurd H (by simp)
               ·
                replace c150 := Bool.eq_false_iff.mpr c150
                subst c150
                have H1 : ((pleatlaw03_lives.f kj145).bind fun t342 => (some t342)) = some r := by rw [if_neg (show ¬ (false = true) by decide)] at H; exact H
                clear H
                have H := H1
                clear H1
                replace H := Option.bind_eq_some_iff.mp H
                obtain ⟨t342, A2120, H⟩ := H
                try dsimp only at H
                have A212 := Aside0.mk A2120
                clear A2120
                obtain rfl := Option.some.inj H
                go_wp2_with (first | ((with_reducible refine gate_callee (f := 7) rfl ?_); refine goesL_ (some 156) rfl rfl Try.func7 (by kernel_rfl) rfl #[] rfl (by (try simp only [List.map_toArray, List.map_cons, List.map_nil]); first | done | rfl | (simp only [List.length_drop, List.length_take]; rfl)) ?_; (with_reducible refine (pleatlaw03_lives.calls kj145  t342 _ A212.out).mono ?_); rintro e w213 ⟨rfl, hb⟩; refine ⟨_, rfl, ?_⟩; have n0_ := Aside0.mk (blk_below (g := gb226) (o := .cells #[.string a0_0, .slice A0_1 l0_1.length c0_1, .int .i64 a0_2, .slice A0_3 l0_3.length c0_3, .slice A0_4 l0_4.length c0_4, .slice A0_5 l0_5.length c0_5] 27 (0, 0)) (by (with_reducible repeat (first | refine blk_drewN ?_ _ | refine blk_drew ?_ | refine blk_alloc ?_ _)); exact BK226.out) hb); have n1_ := Aside0.mk (below_step (by repeat (first | (with_reducible first | exact HB.out | apply below_alloc | apply pw_below_drewN | apply below_drew1 | refine below_set ?_ GE226.out) | exact HB.out)) hb); clear BK226; clear HB; have BK226 := n0_; have HB := n1_; clear n0_ n1_; (try clear hb); (try clear hb2); (try clear hk); (try clear hi)))
                go_ret
                exact ⟨by first | rfl | (simp [errW_none, errW_some] <;> rfl) | (simp [*, errW_none, errW_some] <;> rfl), by repeat (first | (with_reducible first | exact HB.out | apply below_alloc | apply pw_below_drewN | apply below_drew1 | refine below_set ?_ GE226.out) | exact HB.out)⟩
  ·
   rw [if_neg c12] at H
   have c12b0 : (t243 == 0) = false := beq_eq_false_iff_ne.mpr c12
   have c12b1 : (t243 != 0) = true := bne_iff_ne.mpr c12
   replace H := Option.bind_eq_some_iff.mp H
   obtain ⟨t245, A2140, H⟩ := H
   try dsimp only at H
   have A214 := Aside0.mk A2140
   clear A2140
   obtain rfl := Option.some.inj H
   go_enter Try.func3, Try.ntmps3
   go_wp2_with (first | ((with_reducible refine gate_dst (N := 2) rfl ?_); (try (refine gate_guard (by rfl) ?_; dsimp only)); refine box_event ?hg (N := 2) ?hd (cs := #[.string a0_0, .slice A0_1 l0_1.length c0_1, .int .i64 a0_2, .slice A0_3 l0_3.length c0_3, .slice A0_4 l0_4.length c0_4, .slice A0_5 l0_5.length c0_5]) (t := 27) ?hr ?_; (case hd => rfl); (case hg => rfl); (case hr => first | (go_simp; done) | (go_simp; rfl)); intro gb226 hg w215 hbox hb; have n0_ := Aside0.mk (below_step (by repeat (first | (with_reducible first | exact HB.out | apply below_alloc | apply pw_below_drewN | apply below_drew1) | exact HB.out)) hb); have n1_ := Aside0.mk (hbox); have n2_ := Aside0.mk ((by rw [hg]; exact (below_size (by repeat (first | (with_reducible first | exact HB.out | apply below_alloc | apply pw_below_drewN | apply below_drew1) | exact HB.out))) : w.heap.size ≤ gb226)); have n3_ := Aside0.mk ((by rw [hg]; exact (below_size (by repeat (first | (with_reducible first | exact HB.out | apply below_alloc | apply pw_below_drewN | apply below_drew1) | exact HB.out))) : w.heap.size ≤ gb226)); clear HB; have HB := n0_; have BK226 := n1_; have GW226 := n2_; have GE226 := n3_; clear n0_ n1_ n2_ n3_; clear hb hbox hg; have hcz216_0 : w215.cell? ⟨gb226, 0, none⟩ = some (.string a0_0) := (blk_cell BK226.out 0).trans rfl; have hcz216_1 : w215.cell? ⟨gb226, 1, none⟩ = some (.slice A0_1 l0_1.length c0_1) := (blk_cell BK226.out 1).trans rfl; have hcz216_2 : w215.cell? ⟨gb226, 2, none⟩ = some (.int .i64 a0_2) := (blk_cell BK226.out 2).trans rfl; have hcz216_3 : w215.cell? ⟨gb226, 3, none⟩ = some (.slice A0_3 l0_3.length c0_3) := (blk_cell BK226.out 3).trans rfl; have hcz216_4 : w215.cell? ⟨gb226, 4, none⟩ = some (.slice A0_4 l0_4.length c0_4) := (blk_cell BK226.out 4).trans rfl; have hcz216_5 : w215.cell? ⟨gb226, 5, none⟩ = some (.slice A0_5 l0_5.length c0_5) := (blk_cell BK226.out 5).trans rfl; have hfz216_0 := blk_frozen BK226.out 0; have hfz216_1 := blk_frozen BK226.out 1; have hfz216_2 := blk_frozen BK226.out 2; have hfz216_3 := blk_frozen BK226.out 3; have hfz216_4 := blk_frozen BK226.out 4; have hfz216_5 := blk_frozen BK226.out 5) | ((with_reducible refine gate_callee (f := 6) rfl ?_); refine goesL_ (some 19) rfl rfl Try.func6 (by kernel_rfl) rfl #[.agg #[.string a0_0, .slice A0_1 l0_1.length c0_1, .int .i64 a0_2, .slice A0_3 l0_3.length c0_3, .slice A0_4 l0_4.length c0_4, .slice A0_5 l0_5.length c0_5]] rfl (by (try simp only [List.map_toArray, List.map_cons, List.map_nil]); first | done | rfl | (simp only [List.length_drop, List.length_take]; rfl)) ?_; (with_reducible refine (pleatlaw03_heavy.calls k a0_0 _ _ l0_1 a0_2 _ _ l0_3 _ _ l0_4 _ _ l0_5 false _ ?side1 ?side2 ?side3 ?side4 ?side5 ?side6 ?side7 ?side8 A3.out).mono ?_); (case side1 => repeat (first | exact (Kd.C_below HR0_1.out HB.out) | (with_reducible refine Kd.C_alloc ?_ _) | (with_reducible refine Kd.C_drewN ?_ _) | (with_reducible refine Kd.C_drew ?_))); (case side2 => exact HC0_1.out); (case side3 => repeat (first | exact (Kd.C_below HR0_3.out HB.out) | (with_reducible refine Kd.C_alloc ?_ _) | (with_reducible refine Kd.C_drewN ?_ _) | (with_reducible refine Kd.C_drew ?_))); (case side4 => exact HC0_3.out); (case side5 => repeat (first | exact (Kd.C_below HR0_4.out HB.out) | (with_reducible refine Kd.C_alloc ?_ _) | (with_reducible refine Kd.C_drewN ?_ _) | (with_reducible refine Kd.C_drew ?_))); (case side6 => exact HC0_4.out); (case side7 => repeat (first | exact (Kd.C_below HR0_5.out HB.out) | (with_reducible refine Kd.C_alloc ?_ _) | (with_reducible refine Kd.C_drewN ?_ _) | (with_reducible refine Kd.C_drew ?_))); (case side8 => exact HC0_5.out); rintro e w217 ⟨rfl, hb⟩; refine ⟨_, rfl, ?_⟩; have n0_ := Aside0.mk (blk_below (g := gb226) (o := .cells #[.string a0_0, .slice A0_1 l0_1.length c0_1, .int .i64 a0_2, .slice A0_3 l0_3.length c0_3, .slice A0_4 l0_4.length c0_4, .slice A0_5 l0_5.length c0_5] 27 (0, 0)) (by (with_reducible repeat (first | refine blk_drewN ?_ _ | refine blk_drew ?_ | refine blk_alloc ?_ _)); exact BK226.out) hb); have n1_ := Aside0.mk (below_step (by repeat (first | (with_reducible first | exact HB.out | apply below_alloc | apply pw_below_drewN | apply below_drew1 | refine below_set ?_ GE226.out) | exact HB.out)) hb); clear BK226; clear HB; have BK226 := n0_; have HB := n1_; clear n0_ n1_; (try clear hb); (try clear hb2); (try clear hk); (try clear hi); have hcz218_0 : w217.cell? ⟨gb226, 0, none⟩ = some (.string a0_0) := (blk_cell BK226.out 0).trans rfl; have hcz218_1 : w217.cell? ⟨gb226, 1, none⟩ = some (.slice A0_1 l0_1.length c0_1) := (blk_cell BK226.out 1).trans rfl; have hcz218_2 : w217.cell? ⟨gb226, 2, none⟩ = some (.int .i64 a0_2) := (blk_cell BK226.out 2).trans rfl; have hcz218_3 : w217.cell? ⟨gb226, 3, none⟩ = some (.slice A0_3 l0_3.length c0_3) := (blk_cell BK226.out 3).trans rfl; have hcz218_4 : w217.cell? ⟨gb226, 4, none⟩ = some (.slice A0_4 l0_4.length c0_4) := (blk_cell BK226.out 4).trans rfl; have hcz218_5 : w217.cell? ⟨gb226, 5, none⟩ = some (.slice A0_5 l0_5.length c0_5) := (blk_cell BK226.out 5).trans rfl; have hfz218_0 := blk_frozen BK226.out 0; have hfz218_1 := blk_frozen BK226.out 1; have hfz218_2 := blk_frozen BK226.out 2; have hfz218_3 := blk_frozen BK226.out 3; have hfz218_4 := blk_frozen BK226.out 4; have hfz218_5 := blk_frozen BK226.out 5) | ((with_reducible refine gate_callee (f := 9) rfl ?_); refine goesL_ (some 23) rfl rfl Try.func9 (by kernel_rfl) rfl #[.agg #[.string a0_0, .slice A0_1 l0_1.length c0_1, .int .i64 a0_2, .slice A0_3 l0_3.length c0_3, .slice A0_4 l0_4.length c0_4, .slice A0_5 l0_5.length c0_5]] rfl (by (try simp only [List.map_toArray, List.map_cons, List.map_nil]); first | done | rfl | (simp only [List.length_drop, List.length_take]; rfl)) ?_; (with_reducible refine (pleatref00_CopyObject.calls a0_0 _ _ l0_1 a0_2 _ _ l0_3 _ _ l0_4 _ _ l0_5 t229 t230 t233 t234 t237 t240 _ ?side1 ?side2 ?side3 ?side4 ?side5 ?side6 ?side7 ?side8 A10.out).mono ?_); (case side1 => repeat (first | exact (Kd.C_below HR0_1.out HB.out) | (with_reducible refine Kd.C_alloc ?_ _) | (with_reducible refine Kd.C_drewN ?_ _) | (with_reducible refine Kd.C_drew ?_))); (case side2 => exact HC0_1.out); (case side3 => repeat (first | exact (Kd.C_below HR0_3.out HB.out) | (with_reducible refine Kd.C_alloc ?_ _) | (with_reducible refine Kd.C_drewN ?_ _) | (with_reducible refine Kd.C_drew ?_))); (case side4 => exact HC0_3.out); (case side5 => repeat (first | exact (Kd.C_below HR0_4.out HB.out) | (with_reducible refine Kd.C_alloc ?_ _) | (with_reducible refine Kd.C_drewN ?_ _) | (with_reducible refine Kd.C_drew ?_))); (case side6 => exact HC0_4.out); (case side7 => repeat (first | exact (Kd.C_below HR0_5.out HB.out) | (with_reducible refine Kd.C_alloc ?_ _) | (with_reducible refine Kd.C_drewN ?_ _) | (with_reducible refine Kd.C_drew ?_))); (case side8 => exact HC0_5.out); rintro e w219 ⟨v231, v235, v238, v241, rfl, ho0, ho1, ho2, ho3, hb⟩; refine ⟨_, rfl, ?_⟩; have n0_ := Aside0.mk (Kd.R_lower ho0 (below_size (by repeat (first | (with_reducible first | exact HB.out | apply below_alloc | apply pw_below_drewN | apply below_drew1 | refine below_set ?_ GE226.out) | exact HB.out)))); have n1_ := Aside0.mk (Kd.R_lower ho1 (below_size (by repeat (first | (with_reducible first | exact HB.out | apply below_alloc | apply pw_below_drewN | apply below_drew1 | refine below_set ?_ GE226.out) | exact HB.out)))); have n2_ := Aside0.mk (Kd.R_lower ho2 (below_size (by repeat (first | (with_reducible first | exact HB.out | apply below_alloc | apply pw_below_drewN | apply below_drew1 | refine below_set ?_ GE226.out) | exact HB.out)))); have n3_ := Aside0.mk (Kd.R_lower ho3 (below_size (by repeat (first | (with_reducible first | exact HB.out | apply below_alloc | apply pw_below_drewN | apply below_drew1 | refine below_set ?_ GE226.out) | exact HB.out)))); have n4_ := Aside0.mk (blk_below (g := gb226) (o := .cells #[.string a0_0, .slice A0_1 l0_1.length c0_1, .int .i64 a0_2, .slice A0_3 l0_3.length c0_3, .slice A0_4 l0_4.length c0_4, .slice A0_5 l0_5.length c0_5] 27 (0, 0)) (by (with_reducible repeat (first | refine blk_drewN ?_ _ | refine blk_drew ?_ | refine blk_alloc ?_ _)); exact BK226.out) hb); have n5_ := Aside0.mk (below_step (by repeat (first | (with_reducible first | exact HB.out | apply below_alloc | apply pw_below_drewN | apply below_drew1 | refine below_set ?_ GE226.out) | exact HB.out)) hb); clear BK226; clear HB; have HO232 := n0_; have HO236 := n1_; have HO239 := n2_; have HO242 := n3_; have BK226 := n4_; have HB := n5_; clear n0_ n1_ n2_ n3_ n4_ n5_; (try clear hb); (try clear hb2); (try clear hk); (try clear hi); (try clear ho0); (try clear ho1); (try clear ho2); (try clear ho3); obtain ⟨Ao220, co220, eo220⟩ := Kd.R_slice HO232.out; subst eo220; obtain ⟨Ao221, co221, eo221⟩ := Kd.R_slice HO236.out; subst eo221; obtain ⟨Ao222, co222, eo222⟩ := Kd.R_slice HO239.out; subst eo222; obtain ⟨Ao223, co223, eo223⟩ := Kd.R_slice HO242.out; subst eo223) | ((with_reducible refine gate_callee (f := 8) rfl ?_); refine goesL_ (some 24) rfl rfl Try.func8 (by kernel_rfl) rfl #[.agg #[.string t229, .slice Ao220 t230.length co220, .int .i64 t233, .slice Ao221 t234.length co221, .slice Ao222 t237.length co222, .slice Ao223 t240.length co223]] rfl (by (try simp only [List.map_toArray, List.map_cons, List.map_nil]); first | done | rfl | (simp only [List.length_drop, List.length_take]; rfl)) ?_; (with_reducible refine (object_Check.calls t229 _ _ t230 t233 _ _ t234 _ _ t237 _ _ t240 t243 t244 _ ?side1 ?side2 ?side3 ?side4 ?side5 ?side6 ?side7 ?side8 A11.out).mono ?_); (case side1 => repeat (first | exact (Kd.R_reads' HO232.out).2.2 | (with_reducible refine Kd.C_alloc ?_ _) | (with_reducible refine Kd.C_drewN ?_ _) | (with_reducible refine Kd.C_drew ?_))); (case side2 => exact (Kd.R_reads' HO232.out).2.1); (case side3 => repeat (first | exact (Kd.R_reads' HO236.out).2.2 | (with_reducible refine Kd.C_alloc ?_ _) | (with_reducible refine Kd.C_drewN ?_ _) | (with_reducible refine Kd.C_drew ?_))); (case side4 => exact (Kd.R_reads' HO236.out).2.1); (case side5 => repeat (first | exact (Kd.R_reads' HO239.out).2.2 | (with_reducible refine Kd.C_alloc ?_ _) | (with_reducible refine Kd.C_drewN ?_ _) | (with_reducible refine Kd.C_drew ?_))); (case side6 => exact (Kd.R_reads' HO239.out).2.1); (case side7 => repeat (first | exact (Kd.R_reads' HO242.out).2.2 | (with_reducible refine Kd.C_alloc ?_ _) | (with_reducible refine Kd.C_drewN ?_ _) | (with_reducible refine Kd.C_drew ?_))); (case side8 => exact (Kd.R_reads' HO242.out).2.1); rintro e w224 ⟨rfl, hb⟩; refine ⟨_, rfl, ?_⟩; have n0_ := Aside0.mk (Kd.R_below (by (with_reducible repeat (first | apply Kd.R_alloc | apply Kd.R_drewN | apply Kd.R_drew)); exact HO232.out) hb); have n1_ := Aside0.mk (Kd.R_below (by (with_reducible repeat (first | apply Kd.R_alloc | apply Kd.R_drewN | apply Kd.R_drew)); exact HO236.out) hb); have n2_ := Aside0.mk (Kd.R_below (by (with_reducible repeat (first | apply Kd.R_alloc | apply Kd.R_drewN | apply Kd.R_drew)); exact HO239.out) hb); have n3_ := Aside0.mk (Kd.R_below (by (with_reducible repeat (first | apply Kd.R_alloc | apply Kd.R_drewN | apply Kd.R_drew)); exact HO242.out) hb); have n4_ := Aside0.mk (blk_below (g := gb226) (o := .cells #[.string a0_0, .slice A0_1 l0_1.length c0_1, .int .i64 a0_2, .slice A0_3 l0_3.length c0_3, .slice A0_4 l0_4.length c0_4, .slice A0_5 l0_5.length c0_5] 27 (0, 0)) (by (with_reducible repeat (first | refine blk_drewN ?_ _ | refine blk_drew ?_ | refine blk_alloc ?_ _)); exact BK226.out) hb); have n5_ := Aside0.mk (below_step (by repeat (first | (with_reducible first | exact HB.out | apply below_alloc | apply pw_below_drewN | apply below_drew1 | refine below_set ?_ GE226.out) | exact HB.out)) hb); clear HO232; clear HO236; clear HO239; clear HO242; clear BK226; clear HB; have HO232 := n0_; have HO236 := n1_; have HO239 := n2_; have HO242 := n3_; have BK226 := n4_; have HB := n5_; clear n0_ n1_ n2_ n3_ n4_ n5_; (try clear hb); (try clear hb2); (try clear hk); (try clear hi)) | ((with_reducible refine gate_callee (f := 7) rfl ?_); refine goesL_ (some 29) rfl rfl Try.func7 (by kernel_rfl) rfl #[] rfl (by (try simp only [List.map_toArray, List.map_cons, List.map_nil]); first | done | rfl | (simp only [List.length_drop, List.length_take]; rfl)) ?_; (with_reducible refine (pleatlaw03_lives.calls k  t245 _ A214.out).mono ?_); rintro e w225 ⟨rfl, hb⟩; refine ⟨_, rfl, ?_⟩; have n0_ := Aside0.mk (Kd.R_below (by (with_reducible repeat (first | apply Kd.R_alloc | apply Kd.R_drewN | apply Kd.R_drew)); exact HO232.out) hb); have n1_ := Aside0.mk (Kd.R_below (by (with_reducible repeat (first | apply Kd.R_alloc | apply Kd.R_drewN | apply Kd.R_drew)); exact HO236.out) hb); have n2_ := Aside0.mk (Kd.R_below (by (with_reducible repeat (first | apply Kd.R_alloc | apply Kd.R_drewN | apply Kd.R_drew)); exact HO239.out) hb); have n3_ := Aside0.mk (Kd.R_below (by (with_reducible repeat (first | apply Kd.R_alloc | apply Kd.R_drewN | apply Kd.R_drew)); exact HO242.out) hb); have n4_ := Aside0.mk (blk_below (g := gb226) (o := .cells #[.string a0_0, .slice A0_1 l0_1.length c0_1, .int .i64 a0_2, .slice A0_3 l0_3.length c0_3, .slice A0_4 l0_4.length c0_4, .slice A0_5 l0_5.length c0_5] 27 (0, 0)) (by (with_reducible repeat (first | refine blk_drewN ?_ _ | refine blk_drew ?_ | refine blk_alloc ?_ _)); exact BK226.out) hb); have n5_ := Aside0.mk (below_step (by repeat (first | (with_reducible first | exact HB.out | apply below_alloc | apply pw_below_drewN | apply below_drew1 | refine below_set ?_ GE226.out) | exact HB.out)) hb); clear HO232; clear HO236; clear HO239; clear HO242; clear BK226; clear HB; have HO232 := n0_; have HO236 := n1_; have HO239 := n2_; have HO242 := n3_; have BK226 := n4_; have HB := n5_; clear n0_ n1_ n2_ n3_ n4_ n5_; (try clear hb); (try clear hb2); (try clear hk); (try clear hi)))
   go_ret
   exact ⟨by first | rfl | (simp [errW_none, errW_some] <;> rfl) | (simp [*, errW_none, errW_some] <;> rfl), by repeat (first | (with_reducible first | exact HB.out | apply below_alloc | apply pw_below_drewN | apply below_drew1 | refine below_set ?_ GE226.out) | exact HB.out)⟩
theorem pleatlaw03_ObjectFinds.calls (k : Nat) (a0_0 : ByteArray) (A0_1 : Option Addr) (c0_1 : Nat) (l0_1 : List Int) (a0_2 : Int) (A0_3 : Option Addr) (c0_3 : Nat) (l0_3 : List Int) (A0_4 : Option Addr) (c0_4 : Nat) (l0_4 : List (S37)) (A0_5 : Option Addr) (c0_5 : Nat) (l0_5 : List (S41)) (a1 : Int) (r : Bool) (w : World) (hr0_1 : Kd.C (Kd.int .u32) w A0_1 l0_1.length l0_1) (hc0_1 : l0_1.length ≤ c0_1) (hr0_3 : Kd.C (Kd.int .i64) w A0_3 l0_3.length l0_3) (hc0_3 : l0_3.length ≤ c0_3) (hr0_4 : Kd.C k37 w A0_4 l0_4.length l0_4) (hc0_4 : l0_4.length ≤ c0_4) (hr0_5 : Kd.C k41 w A0_5 l0_5.length l0_5) (hc0_5 : l0_5.length ≤ c0_5) (h : pleatlaw03_ObjectFinds.f k a0_0 l0_1 a0_2 l0_3 l0_4 l0_5 a1 = some true) :
  Calls Try.prog 3 #[.agg #[.string a0_0, .slice A0_1 l0_1.length c0_1, .int .i64 a0_2, .slice A0_3 l0_3.length c0_3, .slice A0_4 l0_4.length c0_4, .slice A0_5 l0_5.length c0_5], .int .u8 a1] w fun e w' => e = .returned (.bool true) ∧ Below w.heap.size w w' := pleatlaw03_ObjectFinds.callsT k a0_0 A0_1 c0_1 l0_1 a0_2 A0_3 c0_3 l0_3 A0_4 c0_4 l0_4 A0_5 c0_5 l0_5 a1 true w hr0_1 hc0_1 hr0_3 hc0_3 hr0_4 hc0_4 hr0_5 hc0_5 h rfl
end Go.Proofs.Ytiaohbbafaaibab.P
