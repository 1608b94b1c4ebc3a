/- OWN TEXT and printed parts of this claim, laid together: ObjL, ObjF, SymN, P12. -/
import Derived.Test.YtiaohbbafaaibabZrM4
import Derived.Test.YtiaohbbafaaibabZrM3
import Derived.Test.YtiaohbbafaaibabZrM0
import Derived.Test.YtiaohbbafaaibabZrM1
/- OWN TEXT: objects over plain lists: names, what is found by a name or a place, the reference's check: all come to the same as the program's. -/
set_option linter.unusedVariables false
set_option linter.unusedSimpArgs false
namespace Go.Proofs.Ytiaohbbafaaibab.P
open Go.RowKit Go.Maps Go.Proofs.YtiaohbbafaaibabW.PrintWords Go.Proofs.YtiaohbbafaaibabW.PrintLast Go.Proofs.YtiaohbbafaaibabW.PrintMore Go.Proofs.Ytiaohbbafaaibab.MapB

theorem Ev.upto {α : Type} {g : Nat → Int → Option α} {r : α} {n : Nat} (p : Nat → Prop) (step : ∀ i : Nat, i < n → p i → (p (i + 1) → Ev (fun k => g k ((i + 1 : Nat) : Int)) r) → Ev (fun k => g k (i : Int)) r) (last : p n → Ev (fun k => g k (n : Int)) r) : ∀ i : Nat, i ≤ n → p i → Ev (fun k => g k (i : Int)) r := by
  have : ∀ d i : Nat, i + d = n → p i → Ev (fun k => g k (i : Int)) r := by
    intro d
    induction d with
    | zero => intro i hi hp; obtain rfl : i = n := by omega
              exact last hp
    | succ d ih => intro i hi hp; exact step i (by omega) hp (ih (i + 1) (by omega))
  intro i hi
  exact this (n - i) i (by omega)
theorem wrapS {i n : Nat} (hi : i < n) (hn : n ≤ 1000000000) : wrap64 ((i : Int) + 1) = ((i + 1 : Nat) : Int) := by rw [wrap64_id (by omega) (by omega)]; rfl
theorem sy_get {l : List Sym} {i : Nat} (h : i < l.length) : rd_T37 l (i : Int) = l[i] := by
 unfold rd_T37
 simp [List.getD_eq_getElem?_getD, List.getElem?_eq_getElem h]
theorem rl_get {l : List Rel} {i : Nat} (h : i < l.length) : rd_T41 l (i : Int) = l[i] := by
 unfold rd_T41
 simp [List.getD_eq_getElem?_getD, List.getElem?_eq_getElem h]
theorem sy_at {l : List Sym} {i : Nat} (h : i < l.length) : sy l i = l[i] := sy_get h
theorem rl_at {l : List Rel} {i : Nat} (h : i < l.length) : rl l i = l[i] := rl_get h
theorem toList_loop (s : ByteArray) : ∀ (d i : Nat) (r : List UInt8), i + d = s.size → ByteArray.toList.loop s i r = r.reverse ++ s.data.toList.drop i := by
 intro d
 induction d with
 | zero =>
  intro i r hi
  rw [ByteArray.toList.loop, if_neg (by omega), List.drop_eq_nil_of_le (by rw [data_length]; omega), List.append_nil]
 | succ d ih =>
  intro i r hi
  have hlt : i < s.data.toList.length := by rw [data_length]; omega
  rw [ByteArray.toList.loop, if_pos (by omega), ih (i + 1) _ (by omega), List.drop_eq_getElem_cons hlt, List.reverse_cons, List.append_assoc]
  have e : s.get! i = s.data.toList[i] := by
   have h2 : i < s.data.size := by simpa using hlt
   simp only [ByteArray.get!]
   exact getElem!_pos s.data i h2
  rw [e]
  rfl
theorem toList_eq (s : ByteArray) : s.toList = s.data.toList := by
 have := toList_loop s s.size 0 [] (by omega)
 simpa [ByteArray.toList] using this
theorem toList_inj {a b : ByteArray} : a.toList = b.toList ↔ a = b := by
 rw [toList_eq, toList_eq]
 constructor
 ·
  intro h
  have : a.data = b.data := Array.toList_inj.1 h
  cases a; cases b; simp at this; subst this; rfl
 ·
  intro h; rw [h]
theorem key_inj {a b : ByteArray} : (keyN a).sameKey (keyN b) = true ↔ a = b := by
 unfold keyN
 show (a.data.toList == b.data.toList) = true ↔ _
 rw [beq_iff_eq, ← toList_eq, ← toList_eq]
 exact toList_inj
theorem seen_iff (l : List Sym) (s : ByteArray) : ∀ i, nameSeen l i (keyN s) = true ↔ ∃ j, j < i ∧ (sy l j).f0 = s
  | 0 => by simp [nameSeen]
  | i + 1 => by
    show addS (nameSeen l i) (keyN (sy l i).f0) (keyN s) = true ↔ _
    unfold addS
    rw [Bool.or_eq_true, seen_iff l s i, key_inj]
    constructor
    · rintro (h | ⟨j, hj, h⟩)
      · exact ⟨i, by omega, h.symm⟩
      · exact ⟨j, by omega, h⟩
    · rintro ⟨j, hj, h⟩
      by_cases e : j = i
      · subst e; exact .inl h.symm
      · exact .inr ⟨j, by omega, h⟩

def ofN (nm : ByteArray) : List Sym → Nat → Int
 | [], _ => -1
 | s :: r, i => if s.f0.toList = nm.toList then (i : Int) else ofN nm r (i + 1)
def atN (p : Int) : List Rel → Nat → Int
 | [], _ => -1
 | s :: r, i => if s.f0 = p then (i : Int) else atN p r (i + 1)
/-- it is i just if none before it has the name, where i itself has it. -/
theorem ofN_at (nm : ByteArray) : ∀ (l : List Sym) (b i : Nat), (h : i < l.length) → l[i].f0 = nm → (∀ j, (hj : j < i) → (l[j]'(by omega)).f0 ≠ nm) → ofN nm l b = ((b + i : Nat) : Int)
  | s :: r, b, 0, h, hn, _ => by
    unfold ofN
    rw [if_pos (by rw [← hn]; rfl)]
    rfl
  | s :: r, b, i + 1, h, hn, hb => by
    unfold ofN
    have h0 : s.f0 ≠ nm := hb 0 (by omega)
    rw [if_neg (fun e => h0 (toList_inj.1 e)), ofN_at nm r (b + 1) i (by simpa using h) (by simpa using hn) (fun j hj => by have := hb (j + 1) (by omega); simpa using this)]
    congr 1
    omega
theorem ofN_lt (nm : ByteArray) : ∀ (l : List Sym) (b j : Nat), (h : j < l.length) → l[j].f0 = nm → ofN nm l b ≤ ((b + j : Nat) : Int)
  | s :: r, b, j, h, hn => by
    unfold ofN
    by_cases c : s.f0.toList = nm.toList
    · rw [if_pos c]; omega
    · rw [if_neg c]
      cases j with
      | zero => exact absurd (toList_inj.2 hn) c
      | succ j =>
        have := ofN_lt nm r (b + 1) j (by simpa using h) (by simpa using hn)
        omega
theorem ofN_seen {l : List Sym} {i : Nat} (h : i < l.length) : ofN (sy l i).f0 l 0 = (i : Int) ↔ nameSeen l i (keyN (sy l i).f0) = false := by
 rw [← Bool.not_eq_true, seen_iff]
 constructor
 ·
  rintro e ⟨j, hj, hn⟩
  rw [sy_at (by omega)] at hn
  have := ofN_lt (sy l i).f0 l 0 j (by omega) hn
  omega
 ·
  intro hn
  have := ofN_at (sy l i).f0 l 0 i h (by rw [sy_at h]) (fun j hj e => hn ⟨j, hj, by rw [sy_at (by omega)]; exact e⟩)
  rw [this]
  simp

theorem mark_of {l : List Rel} {k : Nat} : ∀ {n : Nat}, markB l n k = true → ∃ j, j < n ∧ k = (rl l j).f0.toNat
  | 0, h => by cases h
  | n + 1, h => by
    have h : (decide (k = (rl l n).f0.toNat) || markB l n k) = true := h
    rw [Bool.or_eq_true, decide_eq_true_eq] at h
    rcases h with h | h
    · exact ⟨n, by omega, h⟩
    · obtain ⟨j, hj, e⟩ := mark_of h
      exact ⟨j, by omega, e⟩
theorem relE_ok {code : List Int} {ns : Int} {l : List Rel} {i : Nat} (h : relE code ns l i = 0) : lastR l i < (rl l i).f0 ∧ (rl l i).f0 < (code.length : Int) ∧ 0 ≤ (rl l i).f1 ∧ (rl l i).f1 < ns ∧ (tgtS (rd code (rl l i).f0)).2 = true ∧ (tgtS (rd code (rl l i).f0)).1 = 0 := by
 rw [relE_eq] at h
 split at h
 ·
  exact absurd h (by decide)
 split at h
 ·
  exact absurd h (by decide)
 split at h
 ·
  exact absurd h (by decide)
 split at h
 ·
  exact absurd h (by decide)
 split at h
 ·
  rename_i h5
  split at h
  ·
   rename_i h6
   exact ⟨by omega, by omega, by omega, by omega, h5, h6⟩
  ·
   exact absurd h (by decide)
 ·
  exact absurd h (by decide)
theorem scan_plain {code : List Int} {ns : Int} {l : List Rel} (hz : ∀ j, j < l.length → relE code ns l j = 0) (k : Nat) : scanE code (markB l l.length) k = if (tgtS (rd code (k : Int))).2 = true then (if (tgtS (rd code (k : Int))).1 > (code.length : Int) then 22 else 0) else 0 := by
 rw [scanE_eq]
 by_cases h : (tgtS (rd code (k : Int))).2 = true
 ·
  rw [if_pos h, if_pos h]
  by_cases hn : markB l l.length k = true
  ·
   rw [if_pos hn]
   obtain ⟨j, hj, e⟩ := mark_of hn
   obtain ⟨h1, _, _, _, _, h6⟩ := relE_ok (hz j hj)
   have hlo := lastR_lo code ns l j (fun q hq => hz q (by omega))
   rw [show ((rl l j).f0) = (k : Int) by omega] at h6
   rw [if_neg (by omega)]
  ·
   rw [if_neg hn]
 ·
  rw [if_neg h, if_neg h]
theorem firstS_iff {g : Nat → Int} {n : Nat} (h : (firstS g n n).1 = 0) : ∀ j, j < n → g j = 0 := by
  intro j hj
  have key : ∀ d i, i + d = n → (∀ q, q < i → g q = 0) → ∀ q, q < n → g q = 0 := by
    intro d
    induction d with
    | zero => intro i hi hz q hq; exact hz q (by omega)
    | succ d ih =>
      intro i hi hz q hq
      by_cases e : g i = 0
      · exact ih (i + 1) (by omega) (fun p hp => by
          by_cases e2 : p = i
          · rw [e2]; exact e
          · exact hz p (by omega)) q hq
      · rw [firstS_at (by omega) hz e] at h
        exact absurd h e
  exact key n 0 (by omega) (fun q hq => absurd hq (Nat.not_lt_zero _)) j hj
end Go.Proofs.Ytiaohbbafaaibab.P

/- OWN TEXT: what holds in an object that may be, over plain lists; a word more, a relocation less, a symbol twice. -/
set_option linter.unusedVariables false
set_option linter.unusedSimpArgs false
namespace Go.Proofs.Ytiaohbbafaaibab.P
open Go.RowKit Go.Maps Go.Proofs.YtiaohbbafaaibabW.PrintWords Go.Proofs.YtiaohbbafaaibabW.PrintLast Go.Proofs.YtiaohbbafaaibabW.PrintMore Go.Proofs.Ytiaohbbafaaibab.MapB

def plainE (code : List Int) (k : Nat) : Int := if (tgtS (rd code (k : Int))).2 = true then (if (tgtS (rd code (k : Int))).1 > (code.length : Int) then 22 else 0) else 0
structure OkO (nm : ByteArray) (code : List Int) (dat : Int) (data : List Int) (syms : List Sym) (rels : List Rel) : Prop where
  osize : (sizeS nm code dat data syms.length rels.length).1 = 0
  osyms : ∀ j, j < syms.length → symE syms (code.length : Int) j = 0
  orels : ∀ j, j < rels.length → relE code (syms.length : Int) rels j = 0
  oscan : ∀ k, k < code.length → plainE code k = 0
section
variable {nm : ByteArray} {code : List Int} {dat : Int} {data : List Int} {syms : List Sym} {rels : List Rel}
theorem scanS_iff {g : Nat → Int} {n : Nat} (h : (scanS g n n).1 = 0) : ∀ j, j < n → g j = 0 := by
  intro j hj
  have key : ∀ d i, i + d = n → (∀ q, q < i → g q = 0) → ∀ q, q < n → g q = 0 := by
    intro d
    induction d with
    | zero => intro i hi hz q hq; exact hz q (by omega)
    | succ d ih =>
      intro i hi hz q hq
      by_cases e : g i = 0
      · exact ih (i + 1) (by omega) (fun p hp => by
          by_cases e2 : p = i
          · rw [e2]; exact e
          · exact hz p (by omega)) q hq
      · rw [scanS_at (by omega) hz e] at h
        exact absurd h e
  exact key n 0 (by omega) (fun q hq => absurd hq (Nat.not_lt_zero _)) j hj
theorem okO_of (h : (chkO nm code dat data syms rels).1 = 0) : OkO nm code dat data syms rels := by
 unfold chkO at h
 by_cases h1 : (sizeS nm code dat data syms.length rels.length).1 = 0
 ·
  rw [if_pos h1] at h
  by_cases h2 : (symsS syms (code.length : Int)).1 = 0
  ·
   rw [if_pos h2] at h
   by_cases h3 : (relocsS code (syms.length : Int) rels).1 = 0
   ·
    have hs := firstS_iff (g := symE syms (code.length : Int)) h2
    have hr : ∀ j, j < rels.length → relE code (syms.length : Int) rels j = 0 := by
     unfold relocsS at h3
     by_cases h4 : (firstS (relE code (syms.length : Int) rels) rels.length rels.length).1 = 0
     ·
      exact firstS_iff h4
     ·
      rw [if_neg h4] at h3; exact absurd h3 h4
    rw [relocs_scan hr] at h3
    have hk := scanS_iff h3
    exact ⟨h1, hs, hr, fun k hk' => (scan_plain hr k).symm.trans (hk k hk')⟩
   ·
    rw [if_neg h3] at h; exact absurd h h3
  ·
   rw [if_neg h2] at h; exact absurd h h2
 ·
  rw [if_neg h1] at h; exact absurd h h1
theorem symE_ok {l : List Sym} {n : Int} {i : Nat} (h : symE l n i = 0) : nameS (sy l i).f0 = true ∧ nameSeen l i (keyN (sy l i).f0) = false ∧ 0 ≤ (sy l i).f1 ∧ (sy l i).f1 ≤ 3 ∧ 0 ≤ (sy l i).f2 ∧ (sy l i).f2 ≤ n ∧ ((sy l i).f1 = 3 → (sy l i).f2 = 0) := by
 rw [symE_eq] at h
 split at h
 ·
  rename_i h0
  refine ⟨h0, ?_⟩
  split at h
  ·
   exact absurd h (by decide)
  rename_i h1
  refine ⟨by simpa using h1, ?_⟩
  split at h
  ·
   exact absurd h (by decide)
  split at h
  ·
   exact absurd h (by decide)
  split at h
  ·
   exact absurd h (by decide)
  split at h
  ·
   exact absurd h (by decide)
  split at h
  ·
   split at h
   ·
    exact ⟨by omega, by omega, by omega, by omega, fun _ => by assumption⟩
   ·
    exact absurd h (by decide)
  ·
   exact ⟨by omega, by omega, by omega, by omega, fun e => by contradiction⟩
 ·
  exact absurd h (by decide)
theorem symE_mk {l : List Sym} {n : Int} {i : Nat} (h0 : nameS (sy l i).f0 = true) (h1 : nameSeen l i (keyN (sy l i).f0) = false) (h2 : 0 ≤ (sy l i).f1) (h3 : (sy l i).f1 ≤ 3) (h4 : 0 ≤ (sy l i).f2) (h5 : (sy l i).f2 ≤ n) (h6 : (sy l i).f1 = 3 → (sy l i).f2 = 0) : symE l n i = 0 := by
 rw [symE_eq, if_pos h0, if_neg (by rw [h1]; decide), if_neg (by omega), if_neg (by omega), if_neg (by omega), if_neg (by omega)]
 by_cases c : (sy l i).f1 = 3
 ·
  rw [if_pos c, if_pos (h6 c)]
 ·
  rw [if_neg c]
theorem relE_mk {l : List Rel} {ns : Int} {i : Nat} (h1 : lastR l i < (rl l i).f0) (h2 : (rl l i).f0 < (code.length : Int)) (h3 : 0 ≤ (rl l i).f1) (h4 : (rl l i).f1 < ns) (h5 : (tgtS (rd code (rl l i).f0)).2 = true) (h6 : (tgtS (rd code (rl l i).f0)).1 = 0) : relE code ns l i = 0 := by
 rw [relE_eq, if_neg (by omega), if_neg (by omega), if_neg (by omega), if_neg (by omega), if_pos h5, if_pos h6]
theorem lastR_rise {ns : Int} (h : ∀ j, j < rels.length → relE code ns rels j = 0) : ∀ i, i < rels.length → ∀ j, j < i → (rl rels j).f0 < (rl rels i).f0
  | 0, _, j, hj => absurd hj (Nat.not_lt_zero _)
  | i + 1, hi, j, hj => by
    have h1 : (rl rels i).f0 < (rl rels (i + 1)).f0 := (relE_ok (h (i + 1) hi)).1
    by_cases e : j = i
    · rw [e]; exact h1
    · have := lastR_rise h i (by omega) j (by omega)
      omega
theorem atN_at (p : Int) : ∀ (l : List Rel) (b i : Nat), (h : i < l.length) → l[i].f0 = p → (∀ j, (hj : j < i) → (l[j]'(by omega)).f0 ≠ p) → atN p l b = ((b + i : Nat) : Int)
  | s :: r, b, 0, h, hn, _ => by
    unfold atN
    rw [if_pos (by rw [← hn]; rfl)]
    rfl
  | s :: r, b, i + 1, h, hn, hb => by
    unfold atN
    have h0 : s.f0 ≠ p := hb 0 (by omega)
    rw [if_neg h0, atN_at p r (b + 1) i (by simpa using h) (by simpa using hn) (fun j hj => by have := hb (j + 1) (by omega); simpa using this)]
    congr 1
    omega
theorem OkO.at (h : OkO nm code dat data syms rels) {i : Nat} (hi : i < rels.length) : atN (rl rels i).f0 rels 0 = (i : Int) := by
  have := atN_at (rl rels i).f0 rels 0 i hi (by rw [rl_at hi]) (fun j hj e => by
    have := lastR_rise h.orels i hi j hj
    rw [rl_at (show j < rels.length by omega), e] at this
    omega)
  rw [this]
  simp
theorem OkO.of (h : OkO nm code dat data syms rels) {i : Nat} (hi : i < syms.length) : ofN (sy syms i).f0 syms 0 = (i : Int) := (ofN_seen hi).2 (symE_ok (h.osyms i hi)).2.1
theorem rd_app {l m : List Int} {x : Int} (h0 : 0 ≤ x) (h1 : x < (l.length : Int)) : rd (l ++ m) x = rd l x := by
 unfold rd
 rw [List.getD_eq_getElem?_getD, List.getD_eq_getElem?_getD, List.getElem?_append_left (by omega)]
theorem rel_lo (h : OkO nm code dat data syms rels) {j : Nat} (hj : j < rels.length) : 0 ≤ (rl rels j).f0 := by
 have h1 := (relE_ok (h.orels j hj)).1
 have h2 := lastR_lo code (syms.length : Int) rels j (fun q hq => h.orels q (by omega))
 omega
set_option maxRecDepth 100000 in
theorem tgt_one : (tgtS 1).2 = false := by kernel_rfl
theorem sizeS_mk {ns nr : Nat} (h0 : nameS nm = true) (h1 : code.length ≤ 16384) (h2 : ns ≤ 256) (h3 : nr ≤ code.length) (h4 : 0 ≤ dat) (h5 : dat + (data.length : Int) ≤ 4096) : (sizeS nm code dat data ns nr).1 = 0 := by
 unfold sizeS
 rw [if_pos h0, if_neg (by omega), if_neg (by omega), if_neg (by omega), if_neg (by omega), if_neg (by omega), if_neg (by omega)]
/-- one word more, that is no instruction. -/
theorem OkO.word (h : OkO nm code dat data syms rels) (hl : code.length < 16384) : OkO nm (code ++ [1]) dat data syms rels := by
 obtain ⟨a0, a1, a2, a3, a4, a5⟩ := sizeS_ok h.osize
 have hlen : (code ++ [1]).length = code.length + 1 := by simp
 refine ⟨sizeS_mk a0 (by omega) a2 (by omega) a4 a5, fun j hj => ?_, fun j hj => ?_, fun k hk => ?_⟩
 ·
  obtain ⟨b0, b1, b2, b3, b4, b5, b6⟩ := symE_ok (h.osyms j hj)
  exact symE_mk b0 b1 b2 b3 b4 (by omega) b6
 ·
  obtain ⟨b0, b1, b2, b3, b4, b5⟩ := relE_ok (h.orels j hj)
  have hlo := rel_lo h hj
  exact relE_mk b0 (by omega) b2 b3 (by rw [rd_app hlo b1]; exact b4) (by rw [rd_app hlo b1]; exact b5)
 ·
  unfold plainE
  by_cases e : k < code.length
  ·
   have hs := h.oscan k e
   unfold plainE at hs
   rw [rd_app (by omega) (by omega)]
   by_cases c : (tgtS (rd code (k : Int))).2 = true
   ·
    rw [if_pos c] at hs ⊢
    by_cases c2 : (tgtS (rd code (k : Int))).1 > (code.length : Int)
    ·
     rw [if_pos c2] at hs; exact absurd hs (by decide)
    ·
     rw [if_neg (by omega)]
   ·
    rw [if_neg c]
  ·
   obtain rfl : k = code.length := by omega
   have : rd (code ++ [1]) (code.length : Int) = 1 := by unfold rd; simp
   rw [this, tgt_one, if_neg (by decide)]
theorem rl_take {n j : Nat} (hj : j < n) : rl (rels.take n) j = rl rels j := by
 unfold rl rd_T41
 simp only [List.getD_eq_getElem?_getD, Int.toNat_natCast, List.getElem?_take_of_lt hj]
theorem lastR_take {n j : Nat} (hj : j ≤ n) : lastR (rels.take n) j = lastR rels j := by
 cases j with
 | zero => rfl
 | succ j => show (rl (rels.take n) j).f0 = (rl rels j).f0; rw [rl_take (by omega)]
/-- a relocation less: the last. -/
theorem OkO.less (h : OkO nm code dat data syms rels) {n : Nat} (hn : n ≤ rels.length) : OkO nm code dat data syms (rels.take n) := by
 obtain ⟨a0, a1, a2, a3, a4, a5⟩ := sizeS_ok h.osize
 have hlen : (rels.take n).length = n := by simp; omega
 refine ⟨sizeS_mk a0 a1 a2 (by omega) a4 a5, h.osyms, fun j hj => ?_, h.oscan⟩
 rw [hlen] at hj
 obtain ⟨b0, b1, b2, b3, b4, b5⟩ := relE_ok (h.orels j (by omega))
 refine relE_mk ?_ ?_ ?_ ?_ ?_ ?_
 ·
  rw [rl_take hj, lastR_take (by omega)]; exact b0
 ·
  rw [rl_take hj]; exact b1
 ·
  rw [rl_take hj]; exact b2
 ·
  rw [rl_take hj]; exact b3
 ·
  rw [rl_take hj]; exact b4
 ·
  rw [rl_take hj]; exact b5
theorem sy_app {s : Sym} {j : Nat} (hj : j < syms.length) : sy (syms ++ [s]) j = sy syms j := by
 rw [sy_at (by simp; omega), sy_at hj, List.getElem_append_left hj]
theorem seen_app {s : Sym} : ∀ j, j ≤ syms.length → nameSeen (syms ++ [s]) j = nameSeen syms j
  | 0, _ => rfl
  | j + 1, h => by
    show addS (nameSeen (syms ++ [s]) j) (keyN (sy (syms ++ [s]) j).f0) = addS (nameSeen syms j) (keyN (sy syms j).f0)
    rw [seen_app j (by omega), sy_app (by omega)]
/-- a symbol twice: the second is told. -/
theorem OkO.twice (h : OkO nm code dat data syms rels) (hl : syms.length < 256) {p : Nat} (hp : p < syms.length) {s : Sym} (hs : s.f0 = (sy syms p).f0) : chkO nm code dat data (syms ++ [s]) rels = (26, (syms.length : Int)) := by
  obtain ⟨a0, a1, a2, a3, a4, a5⟩ := sizeS_ok h.osize
  have hlen : (syms ++ [s]).length = syms.length + 1 := by simp
  have hlast : sy (syms ++ [s]) syms.length = s := by rw [sy_at (by omega)]; simp
  have hsy : symsS (syms ++ [s]) (code.length : Int) = (26, (syms.length : Int)) := by
    have h26 : symE (syms ++ [s]) (code.length : Int) syms.length = 26 := by
      rw [symE_eq, hlast, if_pos (by rw [hs]; exact (symE_ok (h.osyms p hp)).1), if_pos (by rw [seen_app _ (Nat.le_refl _), seen_iff]; exact ⟨p, hp, hs.symm⟩)]
    have := firstS_at (g := symE (syms ++ [s]) (code.length : Int)) (n := (syms ++ [s]).length) (i := syms.length) (by omega) (fun j hj => by
      obtain ⟨b0, b1, b2, b3, b4, b5, b6⟩ := symE_ok (h.osyms j hj)
      rw [← sy_app (s := s) hj] at b0 b1 b2 b3 b4 b5 b6
      rw [← seen_app (s := s) j (by omega)] at b1
      exact symE_mk b0 b1 b2 b3 b4 b5 b6) (by rw [h26]; decide)
    rw [h26] at this
    exact this
  unfold chkO
  rw [if_pos (sizeS_mk a0 a1 (by omega) a3 a4 a5), hsy]
  exact if_neg (show ¬ (26 : Int) = 0 by decide)
end
end Go.Proofs.Ytiaohbbafaaibab.P

/- OWN TEXT: the first of a kind and name, the objects' own checks, the rows: plain laws, without the document's answer. -/
set_option linter.unusedVariables false
set_option linter.unusedSimpArgs false
namespace Go.Proofs.Ytiaohbbafaaibab.P
open Go.RowKit Go.Maps Go.Proofs.YtiaohbbafaaibabW.PrintWords Go.Proofs.YtiaohbbafaaibabW.PrintLast Go.Proofs.YtiaohbbafaaibabW.PrintMore Go.Proofs.Ytiaohbbafaaibab.Arr Go.Proofs.Ytiaohbbafaaibab.MapB Go.Proofs.Ytiaohbbafaaibab.SymM


structure Small (l : List ObjT) : Prop where
  len : l.length ≤ 1000000
  code : ∀ p, p < l.length → (ob l p).f1.length ≤ 100000000
  syms : ∀ p, p < l.length → (ob l p).f4.length ≤ 100000000
  rels : ∀ p, p < l.length → (ob l p).f5.length ≤ 100000000
  words : ∀ p, p < l.length → wordsO (ob l p).f1 = true
theorem symF_keep {syms : List Sym} {s : ByteArray} {kind a : Int} {q : Nat} (h : symF syms s kind q = some a) : ∀ d, symF syms s kind (q + d) = some a
  | 0 => h
  | d + 1 => by
    show (match symF syms s kind (q + d) with | some a => some a | none => _) = some a
    rw [symF_keep h d]
theorem symF_up {syms : List Sym} {s : ByteArray} {kind a : Int} {q q' : Nat} (h : symF syms s kind q = some a) (hq : q ≤ q') : symF syms s kind q' = some a := by
 have := symF_keep h (q' - q)
 rwa [show q + (q' - q) = q' by omega] at this
theorem symF_back {syms : List Sym} {s : ByteArray} {kind : Int} {q q' : Nat} (h : symF syms s kind q' = none) (hq : q ≤ q') : symF syms s kind q = none := by
 cases hc : symF syms s kind q with
 | none => rfl
 | some a => rw [symF_up hc hq] at h; cases h
theorem rowF_keep {l : List ObjT} {s : ByteArray} {kind : Int} {x : Int × Int} {q : Nat} (h : rowF l s kind q = some x) : ∀ d, rowF l s kind (q + d) = some x
  | 0 => h
  | d + 1 => by
    show (match rowF l s kind (q + d) with | some a => some a | none => _) = some x
    rw [rowF_keep h d]
theorem rowF_up {l : List ObjT} {s : ByteArray} {kind : Int} {x : Int × Int} {q q' : Nat} (h : rowF l s kind q = some x) (hq : q ≤ q') : rowF l s kind q' = some x := by
 have := rowF_keep h (q' - q)
 rwa [show q + (q' - q) = q' by omega] at this
theorem rowF_back {l : List ObjT} {s : ByteArray} {kind : Int} {q q' : Nat} (h : rowF l s kind q' = none) (hq : q ≤ q') : rowF l s kind q = none := by
 cases hc : rowF l s kind q with
 | none => rfl
 | some a => rw [rowF_up hc hq] at h; cases h
theorem rowF_step {l : List ObjT} {s : ByteArray} {kind : Int} {p : Nat} (h : rowF l s kind p = none) : rowF l s kind (p + 1) = (symF (ob l p).f4 s kind (ob l p).f4.length).map fun a => ((p : Int), a) := by
 show (match rowF l s kind p with | some x => some x | none => _) = _
 rw [h]
theorem symF_step {syms : List Sym} {s : ByteArray} {kind : Int} {j : Nat} (h : symF syms s kind j = none) : symF syms s kind (j + 1) = if (sy syms j).f0 = s ∧ (sy syms j).f1 = kind then some (sy syms j).f2 else none := by
 show (match symF syms s kind j with | some a => some a | none => _) = _
 rw [h]
theorem firstF_end {l : List ObjT} {s : ByteArray} {kind : Int} {i k : Nat} (h : rowF l s kind (i + 1) = none) (hk : k ≤ (ob l i).f4.length) : firstF l s kind i k = none := by
 have h1 := rowF_back h (Nat.le_succ i)
 rw [rowF_step h1] at h
 unfold firstF
 rw [h1]
 cases hs : symF (ob l i).f4 s kind (ob l i).f4.length with
 | some a => rw [hs] at h; cases h
 | none => rw [symF_back hs hk]; rfl
theorem firstF_hit {l : List ObjT} {s : ByteArray} {kind a : Int} {i k p q : Nat} (hr : rowF l s kind p = none) (hs : symF (ob l p).f4 s kind (q + 1) = some a) (hp : (p < i ∧ q < (ob l p).f4.length) ∨ (p = i ∧ q < k)) : firstF l s kind i k = some ((p : Int), a) := by
 unfold firstF
 rcases hp with ⟨h1, h2⟩ | ⟨rfl, h2⟩
 ·
  have h3 : rowF l s kind (p + 1) = some ((p : Int), a) := by rw [rowF_step hr, symF_up hs (by omega)]; rfl
  rw [rowF_up h3 (by omega)]
 ·
  rw [hr, symF_up hs (by omega)]; rfl
theorem ob_none {l : List ObjT} {i : Nat} (h : l.length ≤ i) : (ob l i).f4.length = 0 := by
 unfold ob rd_T27
 rw [Int.toNat_natCast, List.getD_eq_getElem?_getD, List.getElem?_eq_none h]
 rfl
theorem firstF_all (l : List ObjT) (s : ByteArray) (kind : Int) : firstF l s kind l.length 0 = rowF l s kind l.length := by
 unfold firstF
 cases rowF l s kind l.length with
 | some x => rfl
 | none => rfl
/-- wanted, and nowhere. -/
def lost (l : List ObjT) (i k : Nat) : Prop := (sy (ob l i).f4 k).f1 = 3 ∧ (findF l (sy (ob l i).f4 k).f0 l.length).2.2 = false
theorem objSeen_iff (l : List ObjT) (s : ByteArray) : ∀ i, objSeen l i (keyN s) = true ↔ ∃ j, j < i ∧ (ob l j).f0 = s
  | 0 => by simp [objSeen]
  | i + 1 => by
    show ((keyN s).sameKey (keyN (ob l i).f0) || objSeen l i (keyN s)) = true ↔ _
    rw [Bool.or_eq_true, key_inj, objSeen_iff l s i]
    constructor
    · rintro (h | ⟨j, h1, h2⟩)
      · exact ⟨i, Nat.lt_succ_self i, h.symm⟩
      · exact ⟨j, by omega, h2⟩
    · rintro ⟨j, h1, h2⟩
      by_cases e : j = i
      · rw [e] at h2; exact .inl h2.symm
      · exact .inr ⟨j, by omega, h2⟩
theorem objCheck {l : List ObjT} (hS : Small l) {p : Nat} (hp : p < l.length) : object_Check.f (ob l p).f0 (ob l p).f1 (ob l p).f2 (ob l p).f3 (ob l p).f4 (ob l p).f5 = some (chkO (ob l p).f0 (ob l p).f1 (ob l p).f2 (ob l p).f3 (ob l p).f4 (ob l p).f5) := by
 unfold object_Check.f
 rw [if_pos (hS.words p hp)]
theorem chkR_ne (l : List ObjT) : ∀ n x, chkR l n = some (some x) → x.1 ≠ 0
  | 0, x, h => by cases h
  | n + 1, x, h => by
    cases hc : chkR l n with
    | none => simp only [chkR, hc] at h; cases h
    | some o =>
      cases o with
      | some y =>
        simp only [chkR, hc] at h
        injection h with h; injection h with h
        rw [← h]; exact chkR_ne l n y hc
      | none =>
        rw [chkR_step l n hc] at h
        split at h
        · cases h
        · split at h
          · injection h with h; injection h with h
            rw [← h]; assumption
          · split at h
            · injection h with h; injection h with h
              rw [← h]; exact (show ¬ (26 : Int) = 0 by decide)
            · injection h with h; cases h
theorem first_uniq {l : List ObjT} {bad : Nat → Nat → Prop} {i k i' k' : Nat} (h : FirstBad l bad i k) (h' : FirstBad l bad i' k') : i = i' ∧ k = k' := by
 have hi : i = i' := by
  rcases Nat.lt_trichotomy i i' with c | c | c
  ·
   exact absurd h.here (h'.rows i c k h.hk)
  ·
   exact c
  ·
   exact absurd h'.here (h.rows i' c k' h'.hk)
 subst hi
 refine ⟨rfl, ?_⟩
 rcases Nat.lt_trichotomy k k' with c | c | c
 ·
  exact absurd h.here (h'.row k c)
 ·
  exact c
 ·
  exact absurd h'.here (h.row k' c)
theorem first_none {l : List ObjT} {bad : Nat → Nat → Prop} {i k : Nat} (h : FirstBad l bad i k) (h' : NoneBad l bad) : False := h' i h.hi k h.hk h.here
theorem first_congr {l : List ObjT} {bad bad' : Nat → Nat → Prop} (hc : ∀ p, p < l.length → ∀ q, q < (ob l p).f4.length → (bad p q ↔ bad' p q)) {i k : Nat} (h : FirstBad l bad i k) : FirstBad l bad' i k :=
 ⟨h.hi, h.hk, (hc i h.hi k h.hk).1 h.here, fun q hq hb => h.row q hq ((hc i h.hi q (by have := h.hk; omega)).2 hb), fun p hp q hq hb => h.rows p hp q hq ((hc p (by have := h.hi; omega) q hq).2 hb)⟩
theorem none_congr {l : List ObjT} {bad bad' : Nat → Nat → Prop} (hc : ∀ p, p < l.length → ∀ q, q < (ob l p).f4.length → (bad p q ↔ bad' p q)) (h : NoneBad l bad) : NoneBad l bad' :=
 fun p hp q hq hb => h p hp q hq ((hc p hp q hq).2 hb)
/-- the objects' own checks passed. -/
structure Fine (l : List ObjT) : Prop where
  each : ∀ p, p < l.length → OkO (ob l p).f0 (ob l p).f1 (ob l p).f2 (ob l p).f3 (ob l p).f4 (ob l p).f5
  names : ∀ p, p < l.length → ∀ q, q < p → ¬ (ob l q).f0 = (ob l p).f0
theorem chkR_back (l : List ObjT) {n p : Nat} (h : chkR l n = some none) (hp : p ≤ n) : chkR l p = some none := by
 cases hc : chkR l p with
 | none =>
  have := chkR_none l p (n - p) hc
  rw [show p + (n - p) = n by omega, h] at this; cases this
 | some o =>
  cases o with
  | none => rfl
  | some x =>
   have := chkR_some l p (n - p) x hc
   rw [show p + (n - p) = n by omega, h] at this; cases this
theorem fine_of {l : List ObjT} (hS : Small l) (h : chkR l l.length = some none) : Fine l := by
 have key : ∀ p, p < l.length → (chkO (ob l p).f0 (ob l p).f1 (ob l p).f2 (ob l p).f3 (ob l p).f4 (ob l p).f5).1 = 0 ∧ ∀ q, q < p → ¬ (ob l q).f0 = (ob l p).f0 := by
  intro p hp
  have h1 := chkR_step l p (chkR_back l h (Nat.le_of_lt hp))
  rw [chkR_back l h (show p + 1 ≤ l.length by omega), objCheck hS hp] at h1
  generalize chkO (ob l p).f0 (ob l p).f1 (ob l p).f2 (ob l p).f3 (ob l p).f4 (ob l p).f5 = x at h1 ⊢
  obtain ⟨e, n⟩ := x
  simp only at h1
  by_cases he : e = 0
  ·
   subst he
   refine ⟨rfl, fun q hq hqn => ?_⟩
   rw [if_neg (by decide), if_pos ((objSeen_iff l _ p).2 ⟨q, hq, hqn⟩)] at h1
   injection h1 with h1; cases h1
  ·
   rw [if_pos he] at h1
   injection h1 with h1; cases h1
 exact ⟨fun p hp => okO_of (key p hp).1, fun p hp => (key p hp).2⟩
theorem rowF_some {l : List ObjT} {s : ByteArray} {kind : Int} {p q : Nat} (hp : p < l.length) (hq : q < (ob l p).f4.length) (hs : (sy (ob l p).f4 q).f0 = s) (hk : (sy (ob l p).f4 q).f1 = kind) : (rowF l s kind l.length).isSome = true := by
 cases h : rowF l s kind l.length with
 | some x => rfl
 | none =>
  have h1 := rowF_back h (show p + 1 ≤ l.length by omega)
  rw [rowF_step (rowF_back h (Nat.le_of_lt hp))] at h1
  cases h2 : symF (ob l p).f4 s kind (ob l p).f4.length with
  | some a => rw [h2] at h1; cases h1
  | none =>
   have h3 := symF_back h2 (show q + 1 ≤ (ob l p).f4.length by omega)
   rw [symF_step (symF_back h2 (Nat.le_of_lt hq)), if_pos ⟨hs, hk⟩] at h3
   cases h3
theorem findF_some {l : List ObjT} {s : ByteArray} (h : (rowF l s 1 l.length).isSome = true ∨ (rowF l s 2 l.length).isSome = true) : (findF l s l.length).2.2 = true := by
 unfold findF
 cases h1 : rowF l s 1 l.length with
 | some x => rfl
 | none =>
  cases h2 : rowF l s 2 l.length with
  | some x => rfl
  | none => rw [h1, h2] at h; rcases h with h | h <;> cases h
theorem unbound_lost {l : List ObjT} (hF : Fine l) : ∀ p, p < l.length → ∀ q, q < (ob l p).f4.length → (unbound (gObj l l.length) l p q ↔ lost l p q) := by
 intro p hp q hq
 have hk := symE_ok ((hF.each p hp).osyms q hq)
 unfold unbound lost symX
 rw [findR_gObj]
 constructor
 ·
  intro h
  by_cases h0 : (sy (ob l p).f4 q).f1 = 0
  ·
   rw [if_pos h0] at h; cases h
  ·
   rw [if_neg h0] at h
   cases hf : (findF l (sy (ob l p).f4 q).f0 l.length).2.2 with
   | true => rw [hf, if_pos rfl] at h; cases h
   | false =>
    refine ⟨?_, rfl⟩
    by_cases h1 : (sy (ob l p).f4 q).f1 = 1
    ·
     rw [findF_some (.inl (rowF_some hp hq rfl h1))] at hf; cases hf
    ·
     by_cases h2 : (sy (ob l p).f4 q).f1 = 2
     ·
      rw [findF_some (.inr (rowF_some hp hq rfl h2))] at hf; cases hf
     ·
      omega
 ·
  rintro ⟨h3, hf⟩
  rw [if_neg (by omega), hf]
  exact if_neg (by decide)
theorem bound_row {L : List Ent} {l : List ObjT} {p q : Nat} (h : ¬ unbound L l p q) : ∃ x, symX L (p : Int) (sy (ob l p).f4 q) = some x ∧ rowL L (ob l p).f4 (p : Int) (q + 1) = rowL L (ob l p).f4 (p : Int) q ++ [x] := by
 unfold unbound at h
 cases hx : symX L (p : Int) (sy (ob l p).f4 q) with
 | none => exact absurd hx h
 | some x =>
  refine ⟨x, rfl, ?_⟩
  show rowL L (ob l p).f4 (p : Int) q ++ (symX L (p : Int) (sy (ob l p).f4 q)).toList = _
  rw [hx]; rfl
theorem rowL_length {L : List Ent} {l : List ObjT} {p : Nat} : ∀ q, (∀ q', q' < q → ¬ unbound L l p q') → (rowL L (ob l p).f4 (p : Int) q).length = q
  | 0, _ => rfl
  | q + 1, h => by
    obtain ⟨x, _, hx⟩ := bound_row (h q (by omega))
    rw [hx, List.length_append, rowL_length q (fun q' h' => h q' (by omega))]
    rfl
theorem rowsL_length (L : List Ent) (l : List ObjT) : ∀ n, (rowsL L l n).length = n
  | 0 => rfl
  | n + 1 => by
    show (rowsL L l n ++ [_]).length = _
    rw [List.length_append, rowsL_length L l n]; rfl
end Go.Proofs.Ytiaohbbafaaibab.P

/- What the Go functions named below come to, as plain functions, each with its proof; written by this session's prt.py over the kit's print. -/
namespace Go.Proofs.Ytiaohbbafaaibab.P
open Go.RowKit Go.Proofs.YtiaohbbafaaibabW.PrintWords Go.Proofs.YtiaohbbafaaibabW.PrintLast Go.Proofs.YtiaohbbafaaibabW.PrintMore
attribute [local go_sem] max2_int min2_int max_two min_two max_three min_three max_four min_four   -- for this text's walks alone
set_option linter.unusedVariables false
set_option linter.unusedSimpArgs false
/-! ### pleatref08_first: function 46 -/
mutual
def pleatref08_first.l0 : Nat → List (S27) → ByteArray → Int → Int → Int → Int → Option (Int × Int × Bool)
 | 0, _, _, _, _, _, _ => none
 | k + 1, x0, x1, x2, x3, x4, x12 => if x12 < (x0.length : Int) then (pleatref08_first.j1 k x0 x1 x2 x3 x4 x12 (decide (x12 ≤ x3))) else (pleatref08_first.j1 k x0 x1 x2 x3 x4 x12 false)
def pleatref08_first.j1 : Nat → List (S27) → ByteArray → Int → Int → Int → Int → Bool → Option (Int × Int × Bool)
 | 0, _, _, _, _, _, _, _ => none
 | k + 1, x0, x1, x2, x3, x4, x12, x23 => if x23 = true then (pleatref08_first.l1 k x0 x1 x2 x3 x4 x12 0) else (some (0, 0, false))
def pleatref08_first.l1 : Nat → List (S27) → ByteArray → Int → Int → Int → Int → Int → Option (Int × Int × Bool)
 | 0, _, _, _, _, _, _, _ => none
 | k + 1, x0, x1, x2, x3, x4, x12, x13 => if 0 ≤ x12 then (if x12 < (x0.length : Int) then (if x13 < (((rd_T27 x0 x12).f4).length : Int) then (if x12 = x3 then (pleatref08_first.j3 k x0 x1 x2 x3 x4 x12 x13 (decide (x13 ≥ x4))) else (pleatref08_first.j3 k x0 x1 x2 x3 x4 x12 x13 false)) else (pleatref08_first.l0 k x0 x1 x2 x3 x4 (wrap64 (x12 + 1)))) else (none)) else (none)
def pleatref08_first.j3 : Nat → List (S27) → ByteArray → Int → Int → Int → Int → Int → Bool → Option (Int × Int × Bool)
 | 0, _, _, _, _, _, _, _, _ => none
 | k + 1, x0, x1, x2, x3, x4, x12, x13, x43 => if x43 = true then (pleatref08_first.l0 k x0 x1 x2 x3 x4 (wrap64 (x12 + 1))) else (if 0 ≤ x12 then (if x12 < (x0.length : Int) then (if 0 ≤ x13 then (if x13 < (((rd_T27 x0 x12).f4).length : Int) then (if ((rd_T37 ((rd_T27 x0 x12).f4) x13).f0).toList = x1.toList then (if ((rd_T37 ((rd_T27 x0 x12).f4) x13).f1) = x2 then (some (x12, (rd_T37 ((rd_T27 x0 x12).f4) x13).f2, true)) else (pleatref08_first.l1 k x0 x1 x2 x3 x4 x12 (wrap64 (x13 + 1)))) else (pleatref08_first.l1 k x0 x1 x2 x3 x4 x12 (wrap64 (x13 + 1)))) else (none)) else (none)) else (none)) else (none))
end
def pleatref08_first.f (k : Nat) (l0 : List (S27)) (a1 : ByteArray) (a2 : Int) (a3 : Int) (a4 : Int) : Option (Int × Int × Bool) := pleatref08_first.l0 k l0 a1 a2 a3 a4 0
theorem pleatref08_first.mono_l : ∀ k, (∀ y0 y1 y2 y3 y4 y5, LeO (pleatref08_first.l0 k y0 y1 y2 y3 y4 y5) (pleatref08_first.l0 (k + 1) y0 y1 y2 y3 y4 y5)) ∧ (∀ y0 y1 y2 y3 y4 y5 y6, LeO (pleatref08_first.j1 k y0 y1 y2 y3 y4 y5 y6) (pleatref08_first.j1 (k + 1) y0 y1 y2 y3 y4 y5 y6)) ∧ (∀ y0 y1 y2 y3 y4 y5 y6, LeO (pleatref08_first.l1 k y0 y1 y2 y3 y4 y5 y6) (pleatref08_first.l1 (k + 1) y0 y1 y2 y3 y4 y5 y6)) ∧ (∀ y0 y1 y2 y3 y4 y5 y6 y7, LeO (pleatref08_first.j3 k y0 y1 y2 y3 y4 y5 y6 y7) (pleatref08_first.j3 (k + 1) y0 y1 y2 y3 y4 y5 y6 y7))
 | 0 => ⟨fun _ _ _ _ _ _ r h => by simp [pleatref08_first.l0] at h, fun _ _ _ _ _ _ _ r h => by simp [pleatref08_first.j1] at h, fun _ _ _ _ _ _ _ r h => by simp [pleatref08_first.l1] at h, fun _ _ _ _ _ _ _ _ r h => by simp [pleatref08_first.j3] at h⟩
 | k + 1 => by
  obtain ⟨ih0, ih1, ih2, ih3⟩ := pleatref08_first.mono_l k
  refine ⟨?_, ?_, ?_, ?_⟩
  ·
   intro y0 y1 y2 y3 y4 y5
   unfold pleatref08_first.l0
   repeat' first
   | (with_reducible first | exact ih0 _ _ _ _ _ _ | exact ih1 _ _ _ _ _ _ _ | exact ih2 _ _ _ _ _ _ _ | exact ih3 _ _ _ _ _ _ _ _ | exact LeO.refl _ | exact LeO.none _ | refine LeO.ite ?_ ?_ | refine LeO.bind ?_ (fun _ => ?_))
  ·
   intro y0 y1 y2 y3 y4 y5 y6
   unfold pleatref08_first.j1
   repeat' first
   | (with_reducible first | exact ih0 _ _ _ _ _ _ | exact ih1 _ _ _ _ _ _ _ | exact ih2 _ _ _ _ _ _ _ | exact ih3 _ _ _ _ _ _ _ _ | exact LeO.refl _ | exact LeO.none _ | refine LeO.ite ?_ ?_ | refine LeO.bind ?_ (fun _ => ?_))
  ·
   intro y0 y1 y2 y3 y4 y5 y6
   unfold pleatref08_first.l1
   repeat' first
   | (with_reducible first | exact ih0 _ _ _ _ _ _ | exact ih1 _ _ _ _ _ _ _ | exact ih2 _ _ _ _ _ _ _ | exact ih3 _ _ _ _ _ _ _ _ | exact LeO.refl _ | exact LeO.none _ | refine LeO.ite ?_ ?_ | refine LeO.bind ?_ (fun _ => ?_))
  ·
   intro y0 y1 y2 y3 y4 y5 y6 y7
   unfold pleatref08_first.j3
   repeat' first
   | (with_reducible first | exact ih0 _ _ _ _ _ _ | exact ih1 _ _ _ _ _ _ _ | exact ih2 _ _ _ _ _ _ _ | exact ih3 _ _ _ _ _ _ _ _ | exact LeO.refl _ | exact LeO.none _ | refine LeO.ite ?_ ?_ | refine LeO.bind ?_ (fun _ => ?_))
theorem pleatref08_first.mono : ∀ a0 a1 a2 a3 a4 k, LeO (pleatref08_first.f k a0 a1 a2 a3 a4) (pleatref08_first.f (k + 1) a0 a1 a2 a3 a4) := by
 intro a0 a1 a2 a3 a4 k
 obtain ⟨ih0, ih1, ih2, ih3⟩ := pleatref08_first.mono_l k
 unfold pleatref08_first.f
 repeat' first
   | (with_reducible first | exact ih0 _ _ _ _ _ _ | exact ih1 _ _ _ _ _ _ _ | exact ih2 _ _ _ _ _ _ _ | exact ih3 _ _ _ _ _ _ _ _ | exact LeO.refl _ | exact LeO.none _ | refine LeO.ite ?_ ?_ | refine LeO.bind ?_ (fun _ => ?_))
set_option maxHeartbeats 8000000 in
set_option maxRecDepth 100000 in
theorem pleatref08_first.calls (k : Nat) (A0 : Option Addr) (c0 : Nat) (l0 : List (S27)) (a1 : ByteArray) (a2 : Int) (a3 : Int) (a4 : Int) (r1 : Int) (r2 : Int) (r3 : Bool) (w : World) (hr0 : Kd.C k27 w A0 l0.length l0) (hc0 : l0.length ≤ c0) (h : pleatref08_first.f k l0 a1 a2 a3 a4 = some (r1, r2, r3)) :
  Calls Try.prog 46 #[.slice A0 l0.length c0, .string a1, .int .i8 a2, .int .i64 a3, .int .i64 a4] w fun e w' => e = .returned (.tuple #[.agg #[.int .i64 r1, .int .i64 r2], .bool r3]) ∧ Below w.heap.size w w' := by
 have hu57 := Try.underlying57
 have hu37 := Try.underlying37
 have HR0 := Aside0.mk hr0
 have HC0 := Aside0.mk hc0
 clear hr0 hc0
 have HB := Aside0.mk (Below.refl w.heap.size w)
 have H : (pleatref08_first.l0 k l0 a1 a2 a3 a4 0) = some (r1, r2, r3) := h
 clear h
 have H' := Aside0.mk H
 clear H
 go_enter Try.func46, Try.ntmps46
 go_wp2_with (first | ((with_reducible refine gate_dst (N := 10) rfl ?_); refine box_event ?hg (N := 10) ?hd (cs := #[.int .i64 0, .int .i64 0]) (t := 57) ?hr ?_; (case hd => rfl); (case hg => rfl); (case hr => go_simp; try rfl); intro gb439 hg w6 hbox hb; have BK439 := Aside0.mk (hbox); have GW439 := Aside0.mk (gwQ hg HB.out); have GE439 := Aside0.mk (gwQ hg HB.out); replace HB := Aside0.mk (bsQ hb HB.out); clear hb hbox hg))
 go_loopg [12] k (fun kq v12 w' => ∃ (x12_1 : Int) (x440000_1 : Int) (x440001_1 : Int), v12 = .int .i64 x12_1 ∧ Aside0 (pleatref08_first.l0 kq l0 a1 a2 a3 a4 x12_1 = some (r1, r2, r3)) ∧ Aside0 (kq ≤ k) ∧ Aside0 (w'.heap[gb439]? = some (.cells #[.int .i64 x440000_1, .int .i64 x440001_1] 57 (0, 0))) ∧ Aside0 (Below w.heap.size w w'))
 case atStart => exact ⟨(0), (0), (0), (by first | rfl | (simp; done) | (simp [*]; done)), H', ⟨Nat.le_refl _⟩, ⟨by exact BK439.out⟩, ⟨by repeat with_reducible first | exact HB.out | apply pw_below_drewN | apply below_drew1 | refine below_set ?_ GE439.out⟩⟩
 case round =>
  clear H'
  try clear p2
  try clear c4
  obtain ⟨x12_1, x440000_1, x440001_1, rfl, HA, HK1, BK439, HB⟩ := hrel
  cases gk with
  | zero => exact absurd HA.out (by simp [pleatref08_first.l0])
  | succ k1 =>
   have H := HA.out
   clear HA
   simp only [pleatref08_first.l0] at H
   have HC7 := Aside0.mk H
   clear H
   go_upto_region 2 with (fail)
   go_cut [23] (fun v23 wc => ∃ (kq : Nat) (x23_6 : Bool), v23 = .bool x23_6 ∧ Aside0 (pleatref08_first.j1 kq l0 a1 a2 a3 a4 x12_1 x23_6 = some (r1, r2, r3)) ∧ Aside0 (kq ≤ k1) ∧ Aside0 (wc.heap[gb439]? = some (.cells #[.int .i64 x440000_1, .int .i64 x440001_1] 57 (0, 0))) ∧ Aside0 (Below w.heap.size w wc))
   case first =>
    have H := HC7.out
    clear HC7
    by_cases c8 : x12_1 < (l0.length : Int)
    ·
     rw [if_pos c8] at H
     have c8b0 : decide (x12_1 < (l0.length : Int)) = true := decide_eq_true c8
     clear c8
     (first | rw [c8b0] | (simp only [i64_w, i32_w]; rw [c8b0]) | skip)
     have H' := Aside0.mk H
     clear H
     go_wp2
     go_meet
     case rel => exact ⟨_, (decide (x12_1 ≤ a3)), (by first | rfl | (simp; done) | (simp [*]; done)), H', ⟨by have := HK1.out; first | omega | exact Nat.le_refl _⟩, ⟨by exact BK439.out⟩, ⟨by repeat with_reducible first | exact HB.out | apply pw_below_drewN | apply below_drew1 | refine below_set ?_ GE439.out⟩⟩
    ·
     rw [if_neg c8] at H
     have c8b0 : decide (x12_1 < (l0.length : Int)) = false := decide_eq_false c8
     clear c8
     (first | rw [c8b0] | (simp only [i64_w, i32_w]; rw [c8b0]) | skip)
     have H' := Aside0.mk H
     clear H
     go_wp2
     go_meet
     case rel => exact ⟨_, (false), (by first | rfl | (simp; done) | (simp [*]; done)), H', ⟨by have := HK1.out; first | omega | exact Nat.le_refl _⟩, ⟨by exact BK439.out⟩, ⟨by repeat with_reducible first | exact HB.out | apply pw_below_drewN | apply below_drew1 | refine below_set ?_ GE439.out⟩⟩
   case rest =>
    clear HC7
    try clear p2
    try clear c4
    try clear c8
    try clear c8b0
    try clear p2
    obtain ⟨kq, x23_6, rfl, HA, HJ6, BK439, HB⟩ := hcut
    cases kq with
    | zero => exact absurd HA.out (by simp [pleatref08_first.j1])
    | succ kj6 =>
     have H := HA.out
     clear HA
     simp only [pleatref08_first.j1] at H
     by_cases c9 : x23_6 = true
     ·
      subst c9
      rw [if_pos rfl] at H
      have H' := Aside0.mk H
      clear H
      go_wp2
      go_loopg [13] kj6 (fun kq v13 w' => ∃ (x13_3 : Int) (x440000_3 : Int) (x440001_3 : Int), v13 = .int .i64 x13_3 ∧ Aside0 (pleatref08_first.l1 kq l0 a1 a2 a3 a4 x12_1 x13_3 = some (r1, r2, r3)) ∧ Aside0 (kq ≤ kj6) ∧ Aside0 (w'.heap[gb439]? = some (.cells #[.int .i64 x440000_3, .int .i64 x440001_3] 57 (0, 0))) ∧ Aside0 (Below w.heap.size w w'))
      case atStart => exact ⟨(0), (x440000_1), (x440001_1), (by first | rfl | (simp; done) | (simp [*]; done)), H', ⟨Nat.le_refl _⟩, ⟨by exact BK439.out⟩, ⟨by repeat with_reducible first | exact HB.out | apply pw_below_drewN | apply below_drew1 | refine below_set ?_ GE439.out⟩⟩
      case round =>
       clear H'
       try clear p2
       try clear c4
       try clear c8
       try clear c8b0
       try clear c9
       try clear p2
       obtain ⟨x13_3, x440000_3, x440001_3, rfl, HA, HK3, BK439, HB⟩ := hrel
       cases gk with
       | zero => exact absurd HA.out (by simp [pleatref08_first.l1])
       | succ k3 =>
        have H := HA.out
        clear HA
        simp only [pleatref08_first.l1] at H
        by_cases c10 : 0 ≤ x12_1
        ·
         rw [if_pos c10] at H
         have c10b0 : decide (0 ≤ x12_1) = true := decide_eq_true c10
         clear c10
         by_cases c11 : x12_1 < (l0.length : Int)
         ·
          rw [if_pos c11] at H
          have c11b0 : decide (x12_1 < (l0.length : Int)) = true := decide_eq_true c11
          clear c11
          by_cases c12 : x13_3 < (((rd_T27 l0 x12_1).f4).length : Int)
          ·
           rw [if_pos c12] at H
           have c12b0 : decide (x13_3 < (((rd_T27 l0 x12_1).f4).length : Int)) = true := decide_eq_true c12
           clear c12
           have HC13 := Aside0.mk H
           clear H
           have p440 : 0 ≤ (x12_1 : Int) := of_decide_eq_true ‹_›
           have q440 : x12_1 < (l0.length : Int) := of_decide_eq_true ‹_›
           obtain ⟨ad440, A440_1, c440_1, A440_3, c440_3, A440_4, c440_4, A440_5, c440_5, e440, hx440_0, hx440_1, hx440_2, hx440_3, hx440_4, hx440_5, -, -, -, -, -, -, -, -⟩ := atQ27 HR0.out HB.out x12_1 p440 q440
           cases e440
           replace p440 := eq_true p440
           replace q440 := eq_true q440
           go_upto_region 7 with (fail)
           go_cut [43] (fun v43 wc => ∃ (kq : Nat) (x43_12 : Bool), v43 = .bool x43_12 ∧ Aside0 (pleatref08_first.j3 kq l0 a1 a2 a3 a4 x12_1 x13_3 x43_12 = some (r1, r2, r3)) ∧ Aside0 (kq ≤ k3) ∧ Aside0 (wc.heap[gb439]? = some (.cells #[.int .i64 x440000_3, .int .i64 x440001_3] 57 (0, 0))) ∧ Aside0 (Below w.heap.size w wc))
           case first =>
            have H := HC13.out
            clear HC13
            by_cases c14 : x12_1 = a3
            ·
             rw [if_pos c14] at H
             have c14b0 : (x12_1 == a3) = true := beq_iff_eq.mpr c14
             have c14b1 : (x12_1 != a3) = false := bne_eq_false_iff_eq.mpr c14
             clear c14
             (first | rw [c14b0] | (simp only [i64_w, i32_w]; rw [c14b0]) | skip)
             have H' := Aside0.mk H
             clear H
             go_wp2
             go_meet
             case rel => exact ⟨_, (decide (x13_3 ≥ a4)), (by first | rfl | (simp; done) | (simp [*]; done)), H', ⟨by have := HK1.out; have := HJ6.out; have := HK3.out; first | omega | exact Nat.le_refl _⟩, ⟨by exact BK439.out⟩, ⟨by repeat with_reducible first | exact HB.out | apply pw_below_drewN | apply below_drew1 | refine below_set ?_ GE439.out⟩⟩
            ·
             rw [if_neg c14] at H
             have c14b0 : (x12_1 == a3) = false := beq_eq_false_iff_ne.mpr c14
             have c14b1 : (x12_1 != a3) = true := bne_iff_ne.mpr c14
             (first | rw [c14b0] | (simp only [i64_w, i32_w]; rw [c14b0]) | skip)
             have H' := Aside0.mk H
             clear H
             go_wp2
             go_meet
             case rel => exact ⟨_, (false), (by first | rfl | (simp; done) | (simp [*]; done)), H', ⟨by have := HK1.out; have := HJ6.out; have := HK3.out; first | omega | exact Nat.le_refl _⟩, ⟨by exact BK439.out⟩, ⟨by repeat with_reducible first | exact HB.out | apply pw_below_drewN | apply below_drew1 | refine below_set ?_ GE439.out⟩⟩
           case rest =>
            clear HC13
            try clear c1
            try clear p2
            try clear c4
            try clear p4
            try clear q4
            try clear hx4
            try clear c8
            try clear c8b0
            try clear c9
            try clear c10
            try clear c10b0
            try clear c11
            try clear c11b0
            try clear c12
            try clear c12b0
            try clear c14
            try clear c14b0
            try clear c14b1
            try clear hx440_0
            try clear hx440_1
            try clear hx440_2
            try clear hx440_3
            try clear hx440_4
            try clear hx440_5
            try clear p2
            try clear p440
            try clear q440
            obtain ⟨kq, x43_12, rfl, HA, HJ12, BK439, HB⟩ := hcut
            cases kq with
            | zero => exact absurd HA.out (by simp [pleatref08_first.j3])
            | succ kj12 =>
             have H := HA.out
             clear HA
             simp only [pleatref08_first.j3] at H
             by_cases c15 : x43_12 = true
             ·
              subst c15
              rw [if_pos rfl] at H
              have H' := Aside0.mk H
              clear H
              go_wp2
              go_roundg kj12
              case measure => have := HK1.out; have := HJ6.out; have := HK3.out; have := HJ12.out; omega
              case rel => exact ⟨(wrap64 (x12_1 + 1)), (x440000_3), (x440001_3), (by first | rfl | (simp; done) | (simp [*]; done)), H', ⟨by have := HK1.out; have := HJ6.out; have := HK3.out; have := HJ12.out; omega⟩, ⟨by exact BK439.out⟩, ⟨by repeat with_reducible first | exact HB.out | apply pw_below_drewN | apply below_drew1 | refine below_set ?_ GE439.out⟩⟩
             ·
              replace c15 := Bool.eq_false_iff.mpr c15
              subst c15
              rw [if_neg Bool.false_ne_true] at H
              by_cases c16 : 0 ≤ x12_1
              ·
               rw [if_pos c16] at H
               have c16b0 : decide (0 ≤ x12_1) = true := decide_eq_true c16
               clear c16
               by_cases c17 : x12_1 < (l0.length : Int)
               ·
                rw [if_pos c17] at H
                have c17b0 : decide (x12_1 < (l0.length : Int)) = true := decide_eq_true c17
                clear c17
                by_cases c18 : 0 ≤ x13_3
                ·
                 rw [if_pos c18] at H
                 have c18b0 : decide (0 ≤ x13_3) = true := decide_eq_true c18
                 clear c18
                 by_cases c19 : x13_3 < (((rd_T27 l0 x12_1).f4).length : Int)
                 ·
                  rw [if_pos c19] at H
                  have c19b0 : decide (x13_3 < (((rd_T27 l0 x12_1).f4).length : Int)) = true := decide_eq_true c19
                  clear c19
                  by_cases c20 : ((rd_T37 ((rd_T27 l0 x12_1).f4) x13_3).f0).toList = a1.toList
                  ·
                   rw [if_pos c20] at H
                   have c20b0 : (((rd_T37 ((rd_T27 l0 x12_1).f4) x13_3).f0).toList == a1.toList) = true := beq_iff_eq.mpr c20
                   have c20b1 : (((rd_T37 ((rd_T27 l0 x12_1).f4) x13_3).f0).toList != a1.toList) = false := bne_eq_false_iff_eq.mpr c20
                   clear c20
                   by_cases c21 : ((rd_T37 ((rd_T27 l0 x12_1).f4) x13_3).f1) = a2
                   ·
                    rw [if_pos c21] at H
                    have c21b0 : (((rd_T37 ((rd_T27 l0 x12_1).f4) x13_3).f1) == a2) = true := beq_iff_eq.mpr c21
                    have c21b1 : (((rd_T37 ((rd_T27 l0 x12_1).f4) x13_3).f1) != a2) = false := bne_eq_false_iff_eq.mpr c21
                    clear c21
                    simp only [Option.some.injEq, Prod.mk.injEq] at H
                    obtain ⟨rfl, rfl, rfl⟩ := H
                    have p441 : 0 ≤ (x12_1 : Int) := of_decide_eq_true ‹_›
                    have q441 : x12_1 < (l0.length : Int) := of_decide_eq_true ‹_›
                    obtain ⟨ad441, A441_1, c441_1, A441_3, c441_3, A441_4, c441_4, A441_5, c441_5, e441, hx441_0, hx441_1, hx441_2, hx441_3, hx441_4, hx441_5, -, -, -, -, hl441_4, hi441_4, -, -⟩ := atQ27 HR0.out HB.out x12_1 p441 q441
                    obtain rfl : ad440 = ad441 := (by injection e441)
                    have HR441_4 := Aside0.mk hi441_4
                    have HC441_4 := Aside0.mk hl441_4
                    clear hi441_4 hl441_4
                    replace p441 := eq_true p441
                    replace q441 := eq_true q441
                    have p442 : 0 ≤ (x13_3 : Int) := of_decide_eq_true ‹_›
                    have q442 : x13_3 < (((rd_T27 l0 x12_1).f4).length : Int) := of_decide_eq_true ‹_›
                    obtain ⟨ad442, e442, hx442_0, hx442_1, hx442_2⟩ := atQ37 HR441_4.out HB.out x13_3 p442 q442
                    cases e442
                    replace p442 := eq_true p442
                    replace q442 := eq_true q442
                    go_wp2_with (first | ((with_reducible refine gate_dst (N := 14) rfl ?_); refine box_event ?hg (N := 14) ?hd (cs := #[.string (⟨#[]⟩ : ByteArray), .int .i8 0, .int .i64 0]) (t := 37) ?hr ?_; (case hd => rfl); (case hg => rfl); (case hr => go_simp; try rfl); intro gb443 hg w22 hbox hb; have n0_ := Aside0.mk (bbQ hb BK439.out); have n1_ := Aside0.mk (bs1Q hb (by repeat with_reducible first | exact HB.out | apply pw_below_drewN | apply below_drew1 | refine below_set ?_ GE439.out)); have n2_ := Aside0.mk (hbox); have n3_ := Aside0.mk (gw1Q hg (by repeat with_reducible first | exact HB.out | apply pw_below_drewN | apply below_drew1 | refine below_set ?_ GE439.out)); have n4_ := Aside0.mk (gw1Q hg (by repeat with_reducible first | exact HB.out | apply pw_below_drewN | apply below_drew1 | refine below_set ?_ GE439.out)); have n5_ := Aside0.mk ((by rw [hg]; exact Nat.ne_of_lt (blk_lt (g := gb439) (o := .cells #[.int .i64 x440000_3, .int .i64 x440001_3] 57 (0, 0)) (by exact BK439.out)) : gb439 ≠ gb443)); have n6_ := Aside0.mk ((by rw [hg]; exact Nat.ne_of_gt (blk_lt (g := gb439) (o := .cells #[.int .i64 x440000_3, .int .i64 x440001_3] 57 (0, 0)) (by exact BK439.out)) : gb443 ≠ gb439)); clear BK439; clear HB; have BK439 := n0_; have HB := n1_; have BK443 := n2_; have GW443 := n3_; have GE443 := n4_; have NB439_443 := n5_; have NB443_439 := n6_; clear n0_ n1_ n2_ n3_ n4_ n5_ n6_; clear hb hbox hg; have hnb23 := NB443_439.out; have hnc23 := NB439_443.out; obtain ⟨hcz24_0, hcz24_1, hcz24_2⟩ := bcQ3 BK443.out; obtain ⟨hfz24_0, hfz24_1, hfz24_2⟩ := fzQ3 BK443.out; obtain ⟨hcz25_0, hcz25_1⟩ := bcQ2 BK439.out; obtain ⟨hfz25_0, hfz25_1⟩ := fzQ2 BK439.out))
                    refine bodyPost_ret (results_ct rfl _ _ gb439 57 #[.int .i64 x12_1, .int .i64 ((rd_T37 ((rd_T27 l0 x12_1).f4) x13_3).f2)] (0, 0) _ rfl (by refine blk_put (cs := #[.int .i64 x12_1, .int .i64 x440001_3]) ?_ 1 _ rfl; refine blk_put (cs := #[.int .i64 x440000_3, .int .i64 x440001_3]) ?_ 0 _ rfl; refine blk_far ?_ NB439_443.out _; refine blk_far ?_ NB439_443.out _; refine blk_far ?_ NB439_443.out _; exact BK439.out) Try.underlying57 rfl (by kernel_rfl)) rfl ?_
                    exact ⟨by first | rfl | (simp [errW_none, errW_some] <;> rfl) | (simp [*, errW_none, errW_some] <;> rfl), by repeat with_reducible first | exact HB.out | apply pw_below_drewN | apply below_drew1 | refine below_set ?_ GE439.out | refine below_set ?_ GE443.out⟩
                   ·
                    rw [if_neg c21] at H
                    have c21b0 : (((rd_T37 ((rd_T27 l0 x12_1).f4) x13_3).f1) == a2) = false := beq_eq_false_iff_ne.mpr c21
                    have c21b1 : (((rd_T37 ((rd_T27 l0 x12_1).f4) x13_3).f1) != a2) = true := bne_iff_ne.mpr c21
                    have H' := Aside0.mk H
                    clear H
                    have p441 : 0 ≤ (x12_1 : Int) := of_decide_eq_true ‹_›
                    have q441 : x12_1 < (l0.length : Int) := of_decide_eq_true ‹_›
                    obtain ⟨ad441, A441_1, c441_1, A441_3, c441_3, A441_4, c441_4, A441_5, c441_5, e441, hx441_0, hx441_1, hx441_2, hx441_3, hx441_4, hx441_5, -, -, -, -, hl441_4, hi441_4, -, -⟩ := atQ27 HR0.out HB.out x12_1 p441 q441
                    obtain rfl : ad440 = ad441 := (by injection e441)
                    have HR441_4 := Aside0.mk hi441_4
                    have HC441_4 := Aside0.mk hl441_4
                    clear hi441_4 hl441_4
                    replace p441 := eq_true p441
                    replace q441 := eq_true q441
                    have p442 : 0 ≤ (x13_3 : Int) := of_decide_eq_true ‹_›
                    have q442 : x13_3 < (((rd_T27 l0 x12_1).f4).length : Int) := of_decide_eq_true ‹_›
                    obtain ⟨ad442, e442, hx442_0, hx442_1, hx442_2⟩ := atQ37 HR441_4.out HB.out x13_3 p442 q442
                    cases e442
                    replace p442 := eq_true p442
                    replace q442 := eq_true q442
                    go_wp2_with (first | ((with_reducible refine gate_dst (N := 14) rfl ?_); refine box_event ?hg (N := 14) ?hd (cs := #[.string (⟨#[]⟩ : ByteArray), .int .i8 0, .int .i64 0]) (t := 37) ?hr ?_; (case hd => rfl); (case hg => rfl); (case hr => go_simp; try rfl); intro gb443 hg w26 hbox hb; have n0_ := Aside0.mk (bbQ hb BK439.out); have n1_ := Aside0.mk (bs1Q hb (by repeat with_reducible first | exact HB.out | apply pw_below_drewN | apply below_drew1 | refine below_set ?_ GE439.out)); have n2_ := Aside0.mk (hbox); have n3_ := Aside0.mk (gw1Q hg (by repeat with_reducible first | exact HB.out | apply pw_below_drewN | apply below_drew1 | refine below_set ?_ GE439.out)); have n4_ := Aside0.mk (gw1Q hg (by repeat with_reducible first | exact HB.out | apply pw_below_drewN | apply below_drew1 | refine below_set ?_ GE439.out)); have n5_ := Aside0.mk ((by rw [hg]; exact Nat.ne_of_lt (blk_lt (g := gb439) (o := .cells #[.int .i64 x440000_3, .int .i64 x440001_3] 57 (0, 0)) (by exact BK439.out)) : gb439 ≠ gb443)); have n6_ := Aside0.mk ((by rw [hg]; exact Nat.ne_of_gt (blk_lt (g := gb439) (o := .cells #[.int .i64 x440000_3, .int .i64 x440001_3] 57 (0, 0)) (by exact BK439.out)) : gb443 ≠ gb439)); clear BK439; clear HB; have BK439 := n0_; have HB := n1_; have BK443 := n2_; have GW443 := n3_; have GE443 := n4_; have NB439_443 := n5_; have NB443_439 := n6_; clear n0_ n1_ n2_ n3_ n4_ n5_ n6_; clear hb hbox hg; have hnb27 := NB443_439.out; have hnc27 := NB439_443.out; obtain ⟨hcz28_0, hcz28_1, hcz28_2⟩ := bcQ3 BK443.out; obtain ⟨hfz28_0, hfz28_1, hfz28_2⟩ := fzQ3 BK443.out))
                    go_roundg kj12
                    case measure => have := HK1.out; have := HJ6.out; have := HK3.out; have := HJ12.out; omega
                    case rel => exact ⟨(wrap64 (x13_3 + 1)), (x440000_3), (x440001_3), (by first | rfl | (simp; done) | (simp [*]; done)), H', ⟨by have := HK1.out; have := HJ6.out; have := HK3.out; have := HJ12.out; omega⟩, ⟨by refine blk_far ?_ NB439_443.out _; refine blk_far ?_ NB439_443.out _; refine blk_far ?_ NB439_443.out _; exact BK439.out⟩, ⟨by repeat with_reducible first | exact HB.out | apply pw_below_drewN | apply below_drew1 | refine below_set ?_ GE439.out | refine below_set ?_ GE443.out⟩⟩
                  ·
                   rw [if_neg c20] at H
                   have c20b0 : (((rd_T37 ((rd_T27 l0 x12_1).f4) x13_3).f0).toList == a1.toList) = false := beq_eq_false_iff_ne.mpr c20
                   have c20b1 : (((rd_T37 ((rd_T27 l0 x12_1).f4) x13_3).f0).toList != a1.toList) = true := bne_iff_ne.mpr c20
                   have H' := Aside0.mk H
                   clear H
                   have p441 : 0 ≤ (x12_1 : Int) := of_decide_eq_true ‹_›
                   have q441 : x12_1 < (l0.length : Int) := of_decide_eq_true ‹_›
                   obtain ⟨ad441, A441_1, c441_1, A441_3, c441_3, A441_4, c441_4, A441_5, c441_5, e441, hx441_0, hx441_1, hx441_2, hx441_3, hx441_4, hx441_5, -, -, -, -, hl441_4, hi441_4, -, -⟩ := atQ27 HR0.out HB.out x12_1 p441 q441
                   obtain rfl : ad440 = ad441 := (by injection e441)
                   have HR441_4 := Aside0.mk hi441_4
                   have HC441_4 := Aside0.mk hl441_4
                   clear hi441_4 hl441_4
                   replace p441 := eq_true p441
                   replace q441 := eq_true q441
                   have p442 : 0 ≤ (x13_3 : Int) := of_decide_eq_true ‹_›
                   have q442 : x13_3 < (((rd_T27 l0 x12_1).f4).length : Int) := of_decide_eq_true ‹_›
                   obtain ⟨ad442, e442, hx442_0, hx442_1, hx442_2⟩ := atQ37 HR441_4.out HB.out x13_3 p442 q442
                   cases e442
                   replace p442 := eq_true p442
                   replace q442 := eq_true q442
                   go_wp2_with (first | ((with_reducible refine gate_dst (N := 14) rfl ?_); refine box_event ?hg (N := 14) ?hd (cs := #[.string (⟨#[]⟩ : ByteArray), .int .i8 0, .int .i64 0]) (t := 37) ?hr ?_; (case hd => rfl); (case hg => rfl); (case hr => go_simp; try rfl); intro gb443 hg w29 hbox hb; have n0_ := Aside0.mk (bbQ hb BK439.out); have n1_ := Aside0.mk (bs1Q hb (by repeat with_reducible first | exact HB.out | apply pw_below_drewN | apply below_drew1 | refine below_set ?_ GE439.out)); have n2_ := Aside0.mk (hbox); have n3_ := Aside0.mk (gw1Q hg (by repeat with_reducible first | exact HB.out | apply pw_below_drewN | apply below_drew1 | refine below_set ?_ GE439.out)); have n4_ := Aside0.mk (gw1Q hg (by repeat with_reducible first | exact HB.out | apply pw_below_drewN | apply below_drew1 | refine below_set ?_ GE439.out)); have n5_ := Aside0.mk ((by rw [hg]; exact Nat.ne_of_lt (blk_lt (g := gb439) (o := .cells #[.int .i64 x440000_3, .int .i64 x440001_3] 57 (0, 0)) (by exact BK439.out)) : gb439 ≠ gb443)); have n6_ := Aside0.mk ((by rw [hg]; exact Nat.ne_of_gt (blk_lt (g := gb439) (o := .cells #[.int .i64 x440000_3, .int .i64 x440001_3] 57 (0, 0)) (by exact BK439.out)) : gb443 ≠ gb439)); clear BK439; clear HB; have BK439 := n0_; have HB := n1_; have BK443 := n2_; have GW443 := n3_; have GE443 := n4_; have NB439_443 := n5_; have NB443_439 := n6_; clear n0_ n1_ n2_ n3_ n4_ n5_ n6_; clear hb hbox hg; have hnb30 := NB443_439.out; have hnc30 := NB439_443.out; obtain ⟨hcz31_0, hcz31_1, hcz31_2⟩ := bcQ3 BK443.out; obtain ⟨hfz31_0, hfz31_1, hfz31_2⟩ := fzQ3 BK443.out))
                   go_roundg kj12
                   case measure => have := HK1.out; have := HJ6.out; have := HK3.out; have := HJ12.out; omega
                   case rel => exact ⟨(wrap64 (x13_3 + 1)), (x440000_3), (x440001_3), (by first | rfl | (simp; done) | (simp [*]; done)), H', ⟨by have := HK1.out; have := HJ6.out; have := HK3.out; have := HJ12.out; omega⟩, ⟨by refine blk_far ?_ NB439_443.out _; refine blk_far ?_ NB439_443.out _; refine blk_far ?_ NB439_443.out _; exact BK439.out⟩, ⟨by repeat with_reducible first | exact HB.out | apply pw_below_drewN | apply below_drew1 | refine below_set ?_ GE439.out | refine below_set ?_ GE443.out⟩⟩
                 ·
                  rw [if_neg c19] at H
                  exact absurd H (by simp)
                ·
                 rw [if_neg c18] at H
                 exact absurd H (by simp)
               ·
                rw [if_neg c17] at H
                exact absurd H (by simp)
              ·
               rw [if_neg c16] at H
               exact absurd H (by simp)
          ·
           rw [if_neg c12] at H
           have c12b0 : decide (x13_3 < (((rd_T27 l0 x12_1).f4).length : Int)) = false := decide_eq_false c12
           clear c12
           have H' := Aside0.mk H
           clear H
           have p440 : 0 ≤ (x12_1 : Int) := of_decide_eq_true ‹_›
           have q440 : x12_1 < (l0.length : Int) := of_decide_eq_true ‹_›
           obtain ⟨ad440, A440_1, c440_1, A440_3, c440_3, A440_4, c440_4, A440_5, c440_5, e440, hx440_0, hx440_1, hx440_2, hx440_3, hx440_4, hx440_5, -, -, -, -, -, -, -, -⟩ := atQ27 HR0.out HB.out x12_1 p440 q440
           cases e440
           replace p440 := eq_true p440
           replace q440 := eq_true q440
           go_wp2
           go_roundg k3
           case measure => have := HK1.out; have := HJ6.out; have := HK3.out; omega
           case rel => exact ⟨(wrap64 (x12_1 + 1)), (x440000_3), (x440001_3), (by first | rfl | (simp; done) | (simp [*]; done)), H', ⟨by have := HK1.out; have := HJ6.out; have := HK3.out; omega⟩, ⟨by exact BK439.out⟩, ⟨by repeat with_reducible first | exact HB.out | apply pw_below_drewN | apply below_drew1 | refine below_set ?_ GE439.out⟩⟩
         ·
          rw [if_neg c11] at H
          exact absurd H (by simp)
        ·
         rw [if_neg c10] at H
         exact absurd H (by simp)
     ·
      replace c9 := Bool.eq_false_iff.mpr c9
      subst c9
      rw [if_neg Bool.false_ne_true] at H
      simp only [Option.some.injEq, Prod.mk.injEq] at H
      obtain ⟨rfl, rfl, rfl⟩ := H
      obtain ⟨hcz32_0, hcz32_1⟩ := bcQ2 BK439.out
      obtain ⟨hfz32_0, hfz32_1⟩ := fzQ2 BK439.out
      go_wp2
      refine bodyPost_ret (results_ct rfl _ _ gb439 57 #[.int .i64 0, .int .i64 0] (0, 0) _ rfl (by refine blk_put (cs := #[.int .i64 0, .int .i64 x440001_1]) ?_ 1 _ rfl; refine blk_put (cs := #[.int .i64 x440000_1, .int .i64 x440001_1]) ?_ 0 _ rfl; exact BK439.out) Try.underlying57 rfl (by kernel_rfl)) rfl ?_
      exact ⟨by first | rfl | (simp [errW_none, errW_some] <;> rfl) | (simp [*, errW_none, errW_some] <;> rfl), by repeat with_reducible first | exact HB.out | apply pw_below_drewN | apply below_drew1 | refine below_set ?_ GE439.out⟩


/-! ### pleatref08_Find: function 19 -/
def pleatref08_Find.f (k : Nat) (l0 : List (S27)) (a1 : ByteArray) : Option (Int × Int × Bool) := (pleatref08_first.f k l0 a1 1 (l0.length : Int) 0).bind fun bt445 => (if bt445.2.2 = true then (some (bt445.1, bt445.2.1, true)) else ((pleatref08_first.f k l0 a1 2 (l0.length : Int) 0).bind fun bt449 => (some (bt449.1, bt449.2.1, bt449.2.2))))
theorem pleatref08_Find.mono : ∀ a0 a1 k, LeO (pleatref08_Find.f k a0 a1) (pleatref08_Find.f (k + 1) a0 a1) := by
 intro a0 a1 k
 unfold pleatref08_Find.f
 repeat' first
   | (with_reducible first | exact pleatref08_first.mono _ _ _ _ _ _ | exact LeO.refl _ | exact LeO.none _ | refine LeO.ite ?_ ?_ | refine LeO.bind ?_ (fun _ => ?_))
set_option maxHeartbeats 8000000 in
set_option maxRecDepth 100000 in
theorem pleatref08_Find.calls (k : Nat) (A0 : Option Addr) (c0 : Nat) (l0 : List (S27)) (a1 : ByteArray) (r1 : Int) (r2 : Int) (r3 : Bool) (w : World) (hr0 : Kd.C k27 w A0 l0.length l0) (hc0 : l0.length ≤ c0) (h : pleatref08_Find.f k l0 a1 = some (r1, r2, r3)) :
  Calls Try.prog 19 #[.slice A0 l0.length c0, .string a1] w fun e w' => e = .returned (.tuple #[.agg #[.int .i64 r1, .int .i64 r2], .bool r3]) ∧ Below w.heap.size w w' := by
 have hu57 := Try.underlying57
 have HR0 := Aside0.mk hr0
 have HC0 := Aside0.mk hc0
 clear hr0 hc0
 have HB := Aside0.mk (Below.refl w.heap.size w)
 have H : ((pleatref08_first.f k l0 a1 1 (l0.length : Int) 0).bind fun bt445 => (if bt445.2.2 = true then (some (bt445.1, bt445.2.1, true)) else ((pleatref08_first.f k l0 a1 2 (l0.length : Int) 0).bind fun bt449 => (some (bt449.1, bt449.2.1, bt449.2.2))))) = some (r1, r2, r3) := h
 clear h
 replace H := Option.bind_eq_some_iff.mp H
 obtain ⟨⟨t445, t446, t447⟩, A30, H⟩ := H
 try dsimp only at H
 have A3 := Aside0.mk A30
 clear A30
 by_cases c4 : t447 = true
 ·
  subst c4
  rw [if_pos rfl] at H
  simp only [Option.some.injEq, Prod.mk.injEq] at H
  obtain ⟨rfl, rfl, rfl⟩ := H
  go_enter Try.func19, Try.ntmps19
  go_wp2_with (first | ((with_reducible refine gate_dst (N := 4) rfl ?_); refine box_event ?hg (N := 4) ?hd (cs := #[.int .i64 0, .int .i64 0]) (t := 57) ?hr ?_; (case hd => rfl); (case hg => rfl); (case hr => go_simp; try rfl); intro gb444 hg w5 hbox hb; have BK444 := Aside0.mk (hbox); have GW444 := Aside0.mk (gwQ hg HB.out); have GE444 := Aside0.mk (gwQ hg HB.out); replace HB := Aside0.mk (bsQ hb HB.out); clear hb hbox hg) | ((with_reducible refine gate_callee (f := 46) rfl ?_); refine goesL_ (some 13) rfl rfl Try.func46 (by kernel_rfl) rfl #[.slice A0 l0.length c0, .string a1, .int .i8 1, .int .i64 (l0.length : Int), .int .i64 0] rfl (by (try simp only [List.map_toArray, List.map_cons, List.map_nil]); try rfl) ?_; (with_reducible refine (pleatref08_first.calls k _ _ l0 a1 1 (l0.length : Int) 0 t445 t446 true _ ?side1 ?side2 A3.out).mono ?_); (case side1 => exact cbQ HB.out HR0.out); (case side2 => exact HC0.out); rintro e w6 ⟨rfl, hb⟩; refine ⟨_, rfl, ?_⟩; replace BK444 := Aside0.mk (bbQ hb BK444.out); replace HB := Aside0.mk (bs1Q hb (by repeat with_reducible first | exact HB.out | apply pw_below_drewN | apply below_drew1 | refine below_set ?_ GE444.out)); (try clear hb); (try clear hb2); (try clear hk); (try clear hi)) | ((with_reducible refine gate_dst (N := 6) rfl ?_); refine box_event ?hg (N := 6) ?hd (cs := #[.int .i64 0, .int .i64 0]) (t := 57) ?hr ?_; (case hd => rfl); (case hg => rfl); (case hr => go_simp; try rfl); intro gb448 hg w7 hbox hb; have n0_ := Aside0.mk (bbQ hb BK444.out); have n1_ := Aside0.mk (bs1Q hb (by repeat with_reducible first | exact HB.out | apply pw_below_drewN | apply below_drew1 | refine below_set ?_ GE444.out)); have n2_ := Aside0.mk (hbox); have n3_ := Aside0.mk (gw1Q hg (by repeat with_reducible first | exact HB.out | apply pw_below_drewN | apply below_drew1 | refine below_set ?_ GE444.out)); have n4_ := Aside0.mk (gw1Q hg (by repeat with_reducible first | exact HB.out | apply pw_below_drewN | apply below_drew1 | refine below_set ?_ GE444.out)); have n5_ := Aside0.mk ((by rw [hg]; exact Nat.ne_of_lt (blk_lt (g := gb444) (o := .cells #[.int .i64 0, .int .i64 0] 57 (0, 0)) (by exact BK444.out)) : gb444 ≠ gb448)); have n6_ := Aside0.mk ((by rw [hg]; exact Nat.ne_of_gt (blk_lt (g := gb444) (o := .cells #[.int .i64 0, .int .i64 0] 57 (0, 0)) (by exact BK444.out)) : gb448 ≠ gb444)); clear BK444; clear HB; have BK444 := n0_; have HB := n1_; have BK448 := n2_; have GW448 := n3_; have GE448 := n4_; have NB444_448 := n5_; have NB448_444 := n6_; clear n0_ n1_ n2_ n3_ n4_ n5_ n6_; clear hb hbox hg; have hnb8 := NB448_444.out; have hnc8 := NB444_448.out; obtain ⟨hcz9_0, hcz9_1⟩ := bcQ2 BK448.out; obtain ⟨hfz9_0, hfz9_1⟩ := fzQ2 BK448.out; obtain ⟨hcz10_0, hcz10_1⟩ := bcQ2 BK444.out; obtain ⟨hfz10_0, hfz10_1⟩ := fzQ2 BK444.out))
  refine bodyPost_ret (results_ct rfl _ _ gb444 57 #[.int .i64 t445, .int .i64 t446] (0, 0) _ rfl (by refine blk_put (cs := #[.int .i64 t445, .int .i64 0]) ?_ 1 _ rfl; refine blk_put (cs := #[.int .i64 0, .int .i64 0]) ?_ 0 _ rfl; refine blk_far ?_ NB444_448.out _; refine blk_far ?_ NB444_448.out _; exact BK444.out) Try.underlying57 rfl (by kernel_rfl)) rfl ?_
  exact ⟨by first | rfl | (simp [errW_none, errW_some] <;> rfl) | (simp [*, errW_none, errW_some] <;> rfl), by repeat with_reducible first | exact HB.out | apply pw_below_drewN | apply below_drew1 | refine below_set ?_ GE444.out | refine below_set ?_ GE448.out⟩
 ·
  replace c4 := Bool.eq_false_iff.mpr c4
  subst c4
  rw [if_neg Bool.false_ne_true] at H
  replace H := Option.bind_eq_some_iff.mp H
  obtain ⟨⟨t449, t450, t451⟩, A110, H⟩ := H
  try dsimp only at H
  have A11 := Aside0.mk A110
  clear A110
  simp only [Option.some.injEq, Prod.mk.injEq] at H
  obtain ⟨rfl, rfl, rfl⟩ := H
  go_enter Try.func19, Try.ntmps19
  go_wp2_with (first | ((with_reducible refine gate_dst (N := 4) rfl ?_); refine box_event ?hg (N := 4) ?hd (cs := #[.int .i64 0, .int .i64 0]) (t := 57) ?hr ?_; (case hd => rfl); (case hg => rfl); (case hr => go_simp; try rfl); intro gb444 hg w12 hbox hb; have BK444 := Aside0.mk (hbox); have GW444 := Aside0.mk (gwQ hg HB.out); have GE444 := Aside0.mk (gwQ hg HB.out); replace HB := Aside0.mk (bsQ hb HB.out); clear hb hbox hg) | ((with_reducible refine gate_callee (f := 46) rfl ?_); refine goesL_ (some 13) rfl rfl Try.func46 (by kernel_rfl) rfl #[.slice A0 l0.length c0, .string a1, .int .i8 1, .int .i64 (l0.length : Int), .int .i64 0] rfl (by (try simp only [List.map_toArray, List.map_cons, List.map_nil]); try rfl) ?_; (with_reducible refine (pleatref08_first.calls k _ _ l0 a1 1 (l0.length : Int) 0 t445 t446 false _ ?side1 ?side2 A3.out).mono ?_); (case side1 => exact cbQ HB.out HR0.out); (case side2 => exact HC0.out); rintro e w13 ⟨rfl, hb⟩; refine ⟨_, rfl, ?_⟩; replace BK444 := Aside0.mk (bbQ hb BK444.out); replace HB := Aside0.mk (bs1Q hb (by repeat with_reducible first | exact HB.out | apply pw_below_drewN | apply below_drew1 | refine below_set ?_ GE444.out)); (try clear hb); (try clear hb2); (try clear hk); (try clear hi)) | ((with_reducible refine gate_dst (N := 6) rfl ?_); refine box_event ?hg (N := 6) ?hd (cs := #[.int .i64 0, .int .i64 0]) (t := 57) ?hr ?_; (case hd => rfl); (case hg => rfl); (case hr => go_simp; try rfl); intro gb448 hg w14 hbox hb; have n0_ := Aside0.mk (bbQ hb BK444.out); have n1_ := Aside0.mk (bs1Q hb (by repeat with_reducible first | exact HB.out | apply pw_below_drewN | apply below_drew1 | refine below_set ?_ GE444.out)); have n2_ := Aside0.mk (hbox); have n3_ := Aside0.mk (gw1Q hg (by repeat with_reducible first | exact HB.out | apply pw_below_drewN | apply below_drew1 | refine below_set ?_ GE444.out)); have n4_ := Aside0.mk (gw1Q hg (by repeat with_reducible first | exact HB.out | apply pw_below_drewN | apply below_drew1 | refine below_set ?_ GE444.out)); have n5_ := Aside0.mk ((by rw [hg]; exact Nat.ne_of_lt (blk_lt (g := gb444) (o := .cells #[.int .i64 0, .int .i64 0] 57 (0, 0)) (by exact BK444.out)) : gb444 ≠ gb448)); have n6_ := Aside0.mk ((by rw [hg]; exact Nat.ne_of_gt (blk_lt (g := gb444) (o := .cells #[.int .i64 0, .int .i64 0] 57 (0, 0)) (by exact BK444.out)) : gb448 ≠ gb444)); clear BK444; clear HB; have BK444 := n0_; have HB := n1_; have BK448 := n2_; have GW448 := n3_; have GE448 := n4_; have NB444_448 := n5_; have NB448_444 := n6_; clear n0_ n1_ n2_ n3_ n4_ n5_ n6_; clear hb hbox hg; have hnb15 := NB448_444.out; have hnc15 := NB444_448.out; obtain ⟨hcz16_0, hcz16_1⟩ := bcQ2 BK448.out; obtain ⟨hfz16_0, hfz16_1⟩ := fzQ2 BK448.out) | ((with_reducible refine gate_callee (f := 46) rfl ?_); refine goesL_ (some 22) rfl rfl Try.func46 (by kernel_rfl) rfl #[.slice A0 l0.length c0, .string a1, .int .i8 2, .int .i64 (l0.length : Int), .int .i64 0] rfl (by (try simp only [List.map_toArray, List.map_cons, List.map_nil]); try rfl) ?_; (with_reducible refine (pleatref08_first.calls k _ _ l0 a1 2 (l0.length : Int) 0 t449 t450 t451 _ ?side1 ?side2 A11.out).mono ?_); (case side1 => exact Kd.C_below HR0.out (by repeat with_reducible first | exact HB.out | apply pw_below_drewN | apply below_drew1 | refine below_set ?_ GE444.out | refine below_set ?_ GE448.out)); (case side2 => exact HC0.out); rintro e w17 ⟨rfl, hb⟩; refine ⟨_, rfl, ?_⟩; have n0_ := Aside0.mk (blk_below (g := gb444) (o := .cells #[.int .i64 0, .int .i64 0] 57 (0, 0)) (by refine blk_far ?_ NB444_448.out _; refine blk_far ?_ NB444_448.out _; exact BK444.out) hb); have n1_ := Aside0.mk (blk_below (g := gb448) (o := .cells #[.int .i64 t445, .int .i64 t446] 57 (0, 0)) (by refine blk_put (cs := #[.int .i64 t445, .int .i64 0]) ?_ 1 _ rfl; refine blk_put (cs := #[.int .i64 0, .int .i64 0]) ?_ 0 _ rfl; exact BK448.out) hb); have n2_ := Aside0.mk (bs1Q hb (by repeat with_reducible first | exact HB.out | apply pw_below_drewN | apply below_drew1 | refine below_set ?_ GE444.out | refine below_set ?_ GE448.out)); clear BK444; clear BK448; clear HB; have BK444 := n0_; have BK448 := n1_; have HB := n2_; clear n0_ n1_ n2_; (try clear hb); (try clear hb2); (try clear hk); (try clear hi); obtain ⟨hcz18_0, hcz18_1⟩ := bcQ2 BK444.out; obtain ⟨hfz18_0, hfz18_1⟩ := fzQ2 BK444.out))
  refine bodyPost_ret (results_ct rfl _ _ gb444 57 #[.int .i64 t449, .int .i64 t450] (0, 0) _ rfl (by refine blk_put (cs := #[.int .i64 t449, .int .i64 0]) ?_ 1 _ rfl; refine blk_put (cs := #[.int .i64 0, .int .i64 0]) ?_ 0 _ rfl; exact BK444.out) Try.underlying57 rfl (by kernel_rfl)) rfl ?_
  exact ⟨by first | rfl | (simp [errW_none, errW_some] <;> rfl) | (simp [*, errW_none, errW_some] <;> rfl), by repeat with_reducible first | exact HB.out | apply pw_below_drewN | apply below_drew1 | refine below_set ?_ GE444.out | refine below_set ?_ GE448.out⟩


/-! ### pleatref03_letter: function 76 -/
def pleatref03_letter.f (a0 : Int) : Option (Bool) := if a0 ≥ 97 then (if a0 ≤ 122 then (some true) else (if a0 ≥ 65 then (if a0 ≤ 90 then (some true) else (some (a0 == 95))) else (some (a0 == 95)))) else (if a0 ≥ 65 then (if a0 ≤ 90 then (some true) else (some (a0 == 95))) else (some (a0 == 95)))
set_option maxHeartbeats 8000000 in
set_option maxRecDepth 100000 in
theorem pleatref03_letter.calls (a0 : Int) (r : Bool) (w : World) (h : pleatref03_letter.f a0 = some r) :
  Calls Try.prog 76 #[.int .u8 a0] w fun e w' => e = .returned (.bool r) ∧ Drawn0 w w' := by
 have H : (if a0 ≥ 97 then (if a0 ≤ 122 then (some true) else (if a0 ≥ 65 then (if a0 ≤ 90 then (some true) else (some (a0 == 95))) else (some (a0 == 95)))) else (if a0 ≥ 65 then (if a0 ≤ 90 then (some true) else (some (a0 == 95))) else (some (a0 == 95)))) = some r := h
 clear h
 by_cases c2 : a0 ≥ 97
 ·
  rw [if_pos c2] at H
  have c2b0 : decide (97 ≤ a0) = true := decide_eq_true c2
  clear c2
  by_cases c3 : a0 ≤ 122
  ·
   rw [if_pos c3] at H
   have c3b0 : decide (a0 ≤ 122) = true := decide_eq_true c3
   clear c3
   obtain rfl := Option.some.inj H
   go_enter Try.func76, Try.ntmps76
   go_wp2
   go_ret
   exact ⟨by first | rfl | (simp; done) | (simp [*]; done), by repeat (first | exact Drawn0.refl _ | apply Drawn0.step)⟩
  ·
   rw [if_neg c3] at H
   have c3b0 : decide (a0 ≤ 122) = false := decide_eq_false c3
   clear c3
   by_cases c4 : a0 ≥ 65
   ·
    rw [if_pos c4] at H
    have c4b0 : decide (65 ≤ a0) = true := decide_eq_true c4
    clear c4
    by_cases c5 : a0 ≤ 90
    ·
     rw [if_pos c5] at H
     have c5b0 : decide (a0 ≤ 90) = true := decide_eq_true c5
     clear c5
     obtain rfl := Option.some.inj H
     go_enter Try.func76, Try.ntmps76
     go_wp2
     go_ret
     exact ⟨by first | rfl | (simp; done) | (simp [*]; done), by repeat (first | exact Drawn0.refl _ | apply Drawn0.step)⟩
    ·
     rw [if_neg c5] at H
     have c5b0 : decide (a0 ≤ 90) = false := decide_eq_false c5
     clear c5
     obtain rfl := Option.some.inj H
     go_enter Try.func76, Try.ntmps76
     go_wp2
     go_ret
     exact ⟨by first | rfl | (simp; done) | (simp [*]; done), by repeat (first | exact Drawn0.refl _ | apply Drawn0.step)⟩
   ·
    rw [if_neg c4] at H
    have c4b0 : decide (65 ≤ a0) = false := decide_eq_false c4
    clear c4
    obtain rfl := Option.some.inj H
    go_enter Try.func76, Try.ntmps76
    go_wp2
    go_ret
    exact ⟨by first | rfl | (simp; done) | (simp [*]; done), by repeat (first | exact Drawn0.refl _ | apply Drawn0.step)⟩
 ·
  rw [if_neg c2] at H
  have c2b0 : decide (97 ≤ a0) = false := decide_eq_false c2
  clear c2
  by_cases c6 : a0 ≥ 65
  ·
   rw [if_pos c6] at H
   have c6b0 : decide (65 ≤ a0) = true := decide_eq_true c6
   clear c6
   by_cases c7 : a0 ≤ 90
   ·
    rw [if_pos c7] at H
    have c7b0 : decide (a0 ≤ 90) = true := decide_eq_true c7
    clear c7
    obtain rfl := Option.some.inj H
    go_enter Try.func76, Try.ntmps76
    go_wp2
    go_ret
    exact ⟨by first | rfl | (simp; done) | (simp [*]; done), by repeat (first | exact Drawn0.refl _ | apply Drawn0.step)⟩
   ·
    rw [if_neg c7] at H
    have c7b0 : decide (a0 ≤ 90) = false := decide_eq_false c7
    clear c7
    obtain rfl := Option.some.inj H
    go_enter Try.func76, Try.ntmps76
    go_wp2
    go_ret
    exact ⟨by first | rfl | (simp; done) | (simp [*]; done), by repeat (first | exact Drawn0.refl _ | apply Drawn0.step)⟩
  ·
   rw [if_neg c6] at H
   have c6b0 : decide (65 ≤ a0) = false := decide_eq_false c6
   clear c6
   obtain rfl := Option.some.inj H
   go_enter Try.func76, Try.ntmps76
   go_wp2
   go_ret
   exact ⟨by first | rfl | (simp; done) | (simp [*]; done), by repeat (first | exact Drawn0.refl _ | apply Drawn0.step)⟩
end Go.Proofs.Ytiaohbbafaaibab.P
