/- OWN TEXT: what isa.Name and isa.Of come to (their table is an array, which the print does not take), in the print's own form. -/
import Derived.Test.YtiaohbbafaaibaaP0
import Derived.Test.YtiaohbbafaaibaaHArr
import Derived.LoopTactic
namespace Go.Proofs.Ytiaohbbafaaibaa.P
open Go.RowKit Go.Proofs.YtiaohbbafaaibaaW.PrintWords Go.Proofs.YtiaohbbafaaibaaW.PrintLast Go.Proofs.YtiaohbbafaaibaaW.PrintMore Go.Proofs.Ytiaohbbafaaibaa.Arr
set_option linter.unusedVariables false
set_option linter.unusedSimpArgs false

/-- The names of the ops, in order. -/
def namesL : List ByteArray := [⟨#[116, 114, 97, 112]⟩, ⟨#[115, 101, 116]⟩, ⟨#[109, 111, 118, 101]⟩, ⟨#[97, 100, 100]⟩, ⟨#[115, 117, 98]⟩, ⟨#[109, 117, 108]⟩, ⟨#[97, 110, 100]⟩, ⟨#[111, 114]⟩, ⟨#[120, 111, 114]⟩, ⟨#[108, 101, 115, 115]⟩, ⟨#[115, 97, 109, 101]⟩, ⟨#[108, 111, 97, 100]⟩, ⟨#[115, 116, 111, 114, 101]⟩, ⟨#[105, 110]⟩, ⟨#[111, 117, 116]⟩, ⟨#[106, 117, 109, 112]⟩, ⟨#[122, 101, 114, 111]⟩, ⟨#[99, 97, 108, 108]⟩, ⟨#[99, 97, 108, 108, 115]⟩, ⟨#[103, 111]⟩, ⟨#[112, 108, 97, 99, 101]⟩, ⟨#[104, 97, 108, 116]⟩]
def namesA : Array Value := #[.string ⟨#[116, 114, 97, 112]⟩, .string ⟨#[115, 101, 116]⟩, .string ⟨#[109, 111, 118, 101]⟩, .string ⟨#[97, 100, 100]⟩, .string ⟨#[115, 117, 98]⟩, .string ⟨#[109, 117, 108]⟩, .string ⟨#[97, 110, 100]⟩, .string ⟨#[111, 114]⟩, .string ⟨#[120, 111, 114]⟩, .string ⟨#[108, 101, 115, 115]⟩, .string ⟨#[115, 97, 109, 101]⟩, .string ⟨#[108, 111, 97, 100]⟩, .string ⟨#[115, 116, 111, 114, 101]⟩, .string ⟨#[105, 110]⟩, .string ⟨#[111, 117, 116]⟩, .string ⟨#[106, 117, 109, 112]⟩, .string ⟨#[122, 101, 114, 111]⟩, .string ⟨#[99, 97, 108, 108]⟩, .string ⟨#[99, 97, 108, 108, 115]⟩, .string ⟨#[103, 111]⟩, .string ⟨#[112, 108, 97, 99, 101]⟩, .string ⟨#[104, 97, 108, 116]⟩]
theorem namesA_eq : namesA = (namesL.map Value.string).toArray := rfl
theorem namesA_one : (namesA.all fun v => v.oneCell') = true := by kernel_rfl
theorem isa_size9 (W : World) : (sizeOf 9).run Try.prog W = .ok 1 W := by kernel_rfl
set_option maxHeartbeats 2000000 in
set_option maxRecDepth 100000 in
theorem isa_names.calls (w : World) :
    Calls Try.prog 91 #[] w fun e w' => e = .returned (.agg namesA) ∧ Below w.heap.size w w' := by
  have HB := Aside0.mk (Below.refl w.heap.size w)
  go_enter Try.func91, Try.ntmps91
  go_wp2_with (first | ((with_reducible refine gate_dst (N := 0) rfl ?_); refine box_event ?hg (N := 0) ?hd (cs := #[.string ⟨#[]⟩, .string ⟨#[]⟩, .string ⟨#[]⟩, .string ⟨#[]⟩, .string ⟨#[]⟩, .string ⟨#[]⟩, .string ⟨#[]⟩, .string ⟨#[]⟩, .string ⟨#[]⟩, .string ⟨#[]⟩, .string ⟨#[]⟩, .string ⟨#[]⟩, .string ⟨#[]⟩, .string ⟨#[]⟩, .string ⟨#[]⟩, .string ⟨#[]⟩, .string ⟨#[]⟩, .string ⟨#[]⟩, .string ⟨#[]⟩, .string ⟨#[]⟩, .string ⟨#[]⟩, .string ⟨#[]⟩]) (t := 105) ?hr ?_; (case hd => rfl); (case hg => rfl); (case hr => first | (go_simp; done) | (go_simp; rfl)); intro g0 hge0 w1 BK0 hb0; have HB1 := Aside0.mk (below_then HB.out (Nat.le_refl _) hb0); have BG0 := Aside0.mk BK0; have GE0 := Aside0.mk (show w.heap.size ≤ g0 by omega); clear BK0 hb0 hge0) | ((with_reducible refine gate_store (t := 105) rfl ?_); refine wpList_store_whole rfl rfl rfl g0 _ namesA _ rfl (by rfl) BG0.out (by kernel_rfl) (by rfl) namesA_one ?_; intro w3 hp; have HBn := Aside0.mk (hp.below HB1.out GE0.out); have BG0n := Aside0.mk hp.blk; clear BG0 HB1 hp))
  exact bodyPost_ret (v := .agg namesA) (results_cell_row Try.results91 _ _ g0 105 namesA (0, 0) _ rfl BG0n.out Try.underlying105 rfl (by kernel_rfl)) rfl ⟨rfl, HBn.out⟩

def isa_Name.f (a0 : Int) : Option (ByteArray) := if a0 < 0 then (some (⟨#[]⟩ : ByteArray)) else (if a0 ≥ 22 then (some (⟨#[]⟩ : ByteArray)) else (some (namesL.getD a0.toNat (⟨#[]⟩ : ByteArray))))
theorem namesA_at {i : Nat} {x : ByteArray} (h : namesL[i]? = some x) : namesA[i]? = some (.string x) := by
  rw [namesA_eq, List.getElem?_toArray, List.getElem?_map, h]
  rfl
set_option maxHeartbeats 1000000 in
set_option maxRecDepth 100000 in
theorem isa_Name.calls (a0 : Int) (r : ByteArray) (w : World) (h : isa_Name.f a0 = some r) :
    Calls Try.prog 41 #[.int .i8 a0] w fun e w' => e = .returned (.string r) ∧ Below w.heap.size w w' := by
  unfold isa_Name.f at h
  by_cases c1 : a0 < 0
  · rw [if_pos c1] at h
    obtain rfl := Option.some.inj h
    go_enter Try.func41, Try.ntmps41
    go_wp2
    go_ret
    exact ⟨rfl, Below.refl _ _⟩
  rw [if_neg c1] at h
  by_cases c2 : a0 ≥ 22
  · rw [if_pos c2] at h
    obtain rfl := Option.some.inj h
    go_enter Try.func41, Try.ntmps41
    go_wp2
    go_ret
    exact ⟨rfl, Below.refl _ _⟩
  rw [if_neg c2] at h
  have hr := Option.some.inj h
  have hl : a0.toNat < namesL.length := by
    have : namesL.length = 22 := rfl
    omega
  have hv : namesA[a0.toNat]? = some (.string r) := by
    refine namesA_at ?_
    rw [← hr, List.getD_eq_getElem?_getD, List.getElem?_eq_getElem hl]
    rfl
  have hix := fun W => run_index_arr (P := Try.prog) (w := W) (cs := namesA) (k := .i8) (i := a0) Try.underlying105 (by kernel_rfl) (isa_size9 W) (by omega) (by omega) hv
  clear h hr hv hl
  go_enter Try.func41, Try.ntmps41
  go_wp2_with (go_at_call 91; refine (isa_names.calls _).mono ?_; rintro e w1 ⟨rfl, hb⟩)
  go_ret
  exact ⟨rfl, hb⟩

def ofL (s : ByteArray) : List ByteArray → Int → Int × Bool
  | [], _ => (0, false)
  | n :: r, i => if n.toList = s.toList then (i, true) else ofL s r (i + 1)
def isa_Of.f (a0 : ByteArray) : Option (Int × Bool) := some (ofL a0 namesL 0)
set_option maxHeartbeats 2000000 in
set_option maxRecDepth 100000 in
theorem isa_Of.calls (a0 : ByteArray) (r1 : Int) (r2 : Bool) (w : World) (h : isa_Of.f a0 = some (r1, r2)) :
    Calls Try.prog 39 #[.string a0] w fun e w' => e = .returned (.tuple #[.int .i8 r1, .bool r2]) ∧ Below w.heap.size w w' := by
  have H := Aside0.mk (Option.some.inj h)
  clear h
  go_enter Try.func39, Try.ntmps39
  go_wp2_with (go_at_call 91; refine (isa_names.calls _).mono ?_; rintro e w1 ⟨rfl, hb⟩; have HB := Aside0.mk hb; clear hb)
  go_loop [7] (fun i => ∃ k : Nat, k ≤ 22 ∧ i = .int .i64 k ∧ ofL a0 (namesL.drop k) k = (r1, r2)) (fun i => 22 - (intOf i).toNat)
  case atStart => exact ⟨0, by omega, rfl, H.out⟩
  case round =>
    obtain ⟨k, hk, rfl, hr⟩ := hrel
    by_cases hlt : k < 22
    · have hl : k < namesL.length := hlt
      have hd : namesL.drop k = namesL[k] :: namesL.drop (k + 1) := List.drop_eq_getElem_cons hl
      have hx : namesL[k]? = some namesL[k] := List.getElem?_eq_getElem hl
      rw [hd] at hr
      generalize namesL[k] = x at hr hx
      clear hd hl
      have hv := namesA_at hx
      have hix := fun W => run_index_arr (P := Try.prog) (w := W) (cs := namesA) (k := .i64) (i := (k : Int)) Try.underlying105 (by kernel_rfl) (isa_size9 W) (by omega) (by omega) (by rw [Int.toNat_natCast]; exact hv)
      clear hv hx
      by_cases he : x.toList = a0.toList
      · have hb : (x.toList == a0.toList) = true := by simp [he]
        have HR := Aside0.mk (show (r1, r2) = ((k : Int), true) by rw [← hr]; unfold ofL; rw [if_pos he])
        clear hr he
        go_wp2
        go_ret2
        have e1 := HR.out
        injection e1 with e1 e2
        subst e1 e2
        exact ⟨rfl, HB.out⟩
      · have hb : (x.toList == a0.toList) = false := by simp [he]
        have HR := Aside0.mk (show ofL a0 (namesL.drop (k + 1)) ((k + 1 : Nat) : Int) = (r1, r2) from (show ofL a0 (namesL.drop (k + 1)) ((k : Int) + 1) = (r1, r2) by rw [← hr]; show _ = (if x.toList = a0.toList then ((k : Int), true) else ofL a0 (namesL.drop (k + 1)) ((k : Int) + 1)); rw [if_neg he]) |> fun z => by rw [show ((k + 1 : Nat) : Int) = (k : Int) + 1 by omega]; exact z)
        clear hr he
        go_wp2
        go_round
        case rel => exact ⟨k + 1, by omega, by go_num, HR.out⟩
        case measure => simp [intOf]; omega
    · have hk2 : k = 22 := by omega
      subst hk2
      have HR := Aside0.mk hr
      clear hr hlt hk
      go_wp2
      go_ret2
      have e1 := HR.out
      have e2 : ofL a0 (namesL.drop 22) ((22 : Nat) : Int) = (0, false) := rfl
      rw [e2] at e1
      injection e1 with e1 e2
      subst e1 e2
      exact ⟨rfl, HB.out⟩

end Go.Proofs.Ytiaohbbafaaibaa.P
