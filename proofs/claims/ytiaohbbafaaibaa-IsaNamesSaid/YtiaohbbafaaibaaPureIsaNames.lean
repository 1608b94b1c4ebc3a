/- The statement IsaNames: of every input its law's Go function answers true and leaves its arguments as they were; no further condition. This text: the law over numbers and lists, no memory. -/
import Derived.Test.YtiaohbbafaaibaaSayIsaNames
import Derived.Test.YtiaohbbafaaibaaIsaL
set_option linter.unusedVariables false
set_option linter.unusedSimpArgs false
namespace Go.Proofs.Ytiaohbbafaaibaa.P
open Go.RowKit Go.Proofs.YtiaohbbafaaibaaW.PrintWords

theorem isa_works : Ev (fun k => pleatlaw02_works.f k) true := Ev.of (k := 30) (pleatlaw02_works.mono) (by decide +kernel)

def nameS (op : Int) : ByteArray := if op < 0 then ⟨#[]⟩ else if op ≥ 22 then ⟨#[]⟩ else namesL.getD op.toNat ⟨#[]⟩
theorem name1 (op : Int) : isa_Name.f op = some (nameS op) := by
  unfold isa_Name.f nameS
  repeat' split
  all_goals rfl
set_option maxRecDepth 100000 in
theorem name2_in : ∀ n : Fin 22, (pleatref02_Name.f 120 (n.val : Int)).map (fun s => s.data.toList) = some (namesL.getD n.val ⟨#[]⟩).data.toList := by decide +kernel
theorem bytes_eq {a b : ByteArray} (h : a.data.toList = b.data.toList) : a = b := by
  cases a; cases b
  simp only [ByteArray.mk.injEq]
  exact Array.ext' h
theorem name2 (op : Int) : Ev (fun k => pleatref02_Name.f k op) (nameS op) := by
  by_cases h : 0 ≤ op ∧ op < 22
  · refine ops22 (p := fun op => Ev (fun k => pleatref02_Name.f k op) (nameS op)) (fun n => ?_) h.1 h.2
    have h1 := name2_in n
    obtain ⟨s, hs, he⟩ := Option.map_eq_some_iff.1 h1
    refine (Ev.to (Ev.of (pleatref02_Name.mono _) hs) ?_)
    unfold nameS
    rw [if_neg (by omega), if_neg (by omega), Int.toNat_natCast]
    exact bytes_eq he
  · have e : nameS op = ⟨#[]⟩ := by unfold nameS; repeat' split
                                    all_goals first | rfl | omega
    rw [e]
    have j : Ev (fun k => pleatref02_Name.j0 k op true) (⟨#[]⟩ : ByteArray) := by
      refine Ev.succ ?_
      simp only [pleatref02_Name.j0]
      exact Ev.iteT trivial (Ev.val rfl)
    unfold pleatref02_Name.f
    refine Ev.ite2 (fun h => j) (fun h => ?_)
    rw [show (decide (op > 21)) = true from decide_eq_true (by omega)]
    exact j
theorem of2_loop (s : ByteArray) (d : Nat) : ∀ i : Nat, i + d = 22 → Ev (fun k => pleatref02_Of.l0 k s (i : Int)) (ofL s (namesL.drop i) (i : Int)) := by
  induction d with
  | zero =>
    intro i hi
    obtain rfl : i = 22 := by omega
    refine Ev.succ ?_
    simp only [pleatref02_Of.l0]
    exact Ev.iteF (by omega) (Ev.val rfl)
  | succ d ih =>
    intro i hi
    have hl : i < namesL.length := by show i < 22; omega
    refine Ev.succ ?_
    simp only [pleatref02_Of.l0]
    refine Ev.iteT (by omega) (Ev.bind (name2 _) ?_)
    have hn : nameS (i : Int) = namesL[i] := by
      unfold nameS
      rw [if_neg (by omega), if_neg (by omega), Int.toNat_natCast, List.getD_eq_getElem?_getD, List.getElem?_eq_getElem hl]
      rfl
    rw [hn, List.drop_eq_getElem_cons hl, i8_id (x := (i : Int) + 1) (by omega) (by omega)]
    show Ev _ (if namesL[i].toList = s.toList then ((i : Int), true) else ofL s (namesL.drop (i + 1)) ((i : Int) + 1))
    refine Ev.ite2 (fun h => Ev.val (by rw [if_pos h])) (fun h => ?_)
    rw [if_neg h]
    exact ih (i + 1) (by omega)
theorem of2 (s : ByteArray) : Ev (fun k => pleatref02_Of.f k s) (ofL s namesL 0) := by
  unfold pleatref02_Of.f
  exact of2_loop s 22 0 (by omega)
theorem of_name : ∀ n : Fin 22, ofL (namesL.getD n.val ⟨#[]⟩) namesL 0 = ((n.val : Int), true) := by decide +kernel
theorem of_nameS {op : Int} (h0 : 0 ≤ op) (h1 : op < 22) : ofL (nameS op) namesL 0 = (op, true) :=
  ops22 (p := fun op => ofL (nameS op) namesL 0 = (op, true)) (fun n => by
    have := of_name n
    unfold nameS
    rw [if_neg (by omega), if_neg (by omega), Int.toNat_natCast]
    exact this) h0 h1
theorem has3 (op : Int) : isa_Has.f op = some (tup op) := by
  unfold isa_Has.f
  rw [has1]
  rfl

theorem pureIsaNames : pleatlaw02_IsaNames.Pure := by
  intro op s hop hs
  refine Ev.rounds (g := fun k => pleatlaw02_IsaNames.f k op s) ?_
  generalize ho : ofL s namesL 0 = r
  have e : Ev (fun k => pleatlaw02_IsaNames.j0 k op (tup op).1 (tup op).2.1 (tup op).2.2.1 (tup op).2.2.2.1 (tup op).2.2.2.2 r.1 r.2 r.1 r.2 false (tup op).1 (tup op).2.1 (tup op).2.2.1 (tup op).2.2.2.1 (tup op).2.2.2.2) true := by
    refine Ev.succ ?_
    simp only [pleatlaw02_IsaNames.j0]
    refine Ev.iteF (by decide) (Ev.bind0 (name1 op) (Ev.bind (name2 op) (Ev.iteT (by trivial) (Ev.iteT (by trivial) (Ev.iteT (by simp) (Ev.iteT (by simp) (Ev.bind isa_works (Ev.val rfl))))))))
  unfold pleatlaw02_IsaNames.f
  refine Ev.bind0 (has3 op) (Ev.bind (has2 op) (Ev.bind0 (a := r) (by unfold isa_Of.f; rw [ho]) (Ev.bind (a := r) (ho ▸ of2 s) ?_)))
  refine Ev.bind0 (name1 op) (Ev.bind0 (a := ofL (nameS op) namesL 0) rfl ?_)
  refine Ev.ite2 (fun h0 => Ev.ite2 (fun h1 => ?_) (fun h1 => e)) (fun h0 => e)
  rw [of_nameS (by omega) (by omega)]
  exact Ev.iteT rfl e

end Go.Proofs.Ytiaohbbafaaibaa.P
