/- OWN TEXT and printed parts of this claim, laid together: HPen, HApB, HApE, HRd, HRe. -/
import Derived.Test.YtiaohbbafaaibabGreatDoorZxM0
import Derived.WalkMore
import Derived.Great.Walk
import Derived.Deep.RegionLawGrows
import Derived.WalkKit
import Derived.Laws.BytesArg
/- OWN TEXT: what writes numbers and texts as bytes behind a pointer, walked: which bytes, and that nothing else is turned. -/
namespace Go.Proofs.YtiaohbbafaaibabGreatDoor.P
open Go.RowKit Go.Proofs.YtiaohbbafaaibabGreatDoorW.PrintWords Go.Proofs.YtiaohbbafaaibabGreatDoorW.PrintLast Go.Proofs.YtiaohbbafaaibabGreatDoorW.PrintMore Go.Proofs.YtiaohbbafaaibabGreatDoor.Arr
set_option linter.unusedVariables false
set_option linter.unusedSimpArgs false
/-- a number's last n bytes, the greatest first. -/
def beN (v : Int) : Nat → List Int
 | 0 => []
 | n + 1 => (v / 256 ^ n) % 256 :: beN v n
theorem beN_length (v : Int) : ∀ n, (beN v n).length = n
 | 0 => rfl
 | n + 1 => by show (beN v n).length + 1 = n + 1; rw [beN_length v n]
/-- nothing that was there is turned, but block g and rows of bytes. -/
structure OnlyP (g : Nat) (W W1 : World) : Prop where
  size : W.heap.size ≤ W1.heap.size
  far : ∀ k, k < W.heap.size → k ≠ g → (∀ cs, W.heap[k]? ≠ some (.cells cs 5 (0, 0))) → W1.heap[k]? = W.heap[k]?
theorem OnlyP.refl (g : Nat) (W : World) : OnlyP g W W := ⟨Nat.le_refl _, fun _ _ _ _ => rfl⟩
theorem OnlyP.trans {g : Nat} {W W1 W2 : World} (h : OnlyP g W W1) (k : OnlyP g W1 W2) : OnlyP g W W2 :=
  ⟨Nat.le_trans h.size k.size, fun q hq hn ht => by
    have h1 := h.far q hq hn ht
    rw [k.far q (Nat.lt_of_lt_of_le hq h.size) hn (fun cs => by rw [h1]; exact ht cs), h1]⟩
theorem OnlyP.of_below {g : Nat} {W W1 : World} (h : Below W.heap.size W W1) : OnlyP g W W1 := ⟨h.size, fun q hq _ _ => h.block q hq⟩
theorem OnlyP.blk {g k : Nat} {W W1 : World} {o : Obj} (h : OnlyP g W W1) (hb : W.heap[k]? = some o) (hk : k ≠ g) (ht : ∀ cs, o ≠ .cells cs 5 (0, 0)) : W1.heap[k]? = some o := by
 rw [h.far k (blk_lt hb) hk (fun cs e => ht cs (Option.some.inj (hb.symm.trans e))), hb]
/-- the pen's row: bytes of its own, or the four that it begins with, marked as a text's. -/
def PR (W : World) (base : Nat) (v : Value) (l : List Int) : Prop := Kd.R (Kd.int .u8) 5 W base (fun _ => True) v l ∨ (∃ gl, v = .slice (some ⟨gl, 0, none⟩) 4 4 ∧ base ≤ gl ∧ W.heap[gl]? = some (.cells #[.int .u8 80, .int .u8 76, .int .u8 79, .int .u8 49] 5 (4, 5))) ∧ l = [80, 76, 79, 49]
theorem PR.R {W : World} {base : Nat} {v : Value} {l : List Int} (h : PR W base v l) (hl : 4 < l.length) : Kd.R (Kd.int .u8) 5 W base (fun _ => True) v l := by
 rcases h with h | ⟨_, rfl⟩
 ·
  exact h
 ·
  simp at hl
theorem PR.move {W W1 : World} {base : Nat} {v : Value} {l : List Int} (h : PR W base v l) (hg : ∀ k, v.ownBlock = some k → W1.heap[k]? = W.heap[k]?) (hR : Kd.R (Kd.int .u8) 5 W base (fun _ => True) v l → Kd.R (Kd.int .u8) 5 W1 base (fun _ => True) v l) : PR W1 base v l := by
 rcases h with h | ⟨⟨gl, rfl, h1, h2⟩, h3⟩
 ·
  exact .inl (hR h)
 ·
  exact .inr ⟨⟨gl, rfl, h1, by rw [hg gl rfl]; exact h2⟩, h3⟩
theorem PR.lt {W : World} {base : Nat} {v : Value} {l : List Int} (h : PR W base v l) : ∀ k, v.ownBlock = some k → k < W.heap.size ∧ ∃ cs fz, W.heap[k]? = some (.cells cs 5 fz) := by
 intro k hk
 rcases h with h | ⟨⟨gl, rfl, h1, h2⟩, h3⟩
 ·
  obtain ⟨cs, hc⟩ := Kd.R_typed h k hk
  exact ⟨blk_lt hc, cs, _, hc⟩
 ·
  obtain rfl : gl = k := Option.some.inj hk
  exact ⟨blk_lt h2, _, _, h2⟩
theorem PR.below {W W1 : World} {base : Nat} {v : Value} {l : List Int} (h : PR W base v l) (hb : Below W.heap.size W W1) : PR W1 base v l := h.move (fun k hk => hb.block k (h.lt k hk).1) (fun hr => Kd.R_below hr hb)
structure Pen (w0 W : World) (g : Nat) (v : Value) (l : List Int) : Prop where
  low : Below w0.heap.size w0 W
  blk : W.heap[g]? = some (.cells #[v] 75 (0, 0))
  own : PR W w0.heap.size v l
  base : w0.heap.size ≤ g
def PenIs (w0 W : World) (g : Nat) (l : List Int) : Prop := ∃ v, Pen w0 W g v l
theorem Pen.below {w0 W W1 : World} {g : Nat} {v : Value} {l : List Int} (h : Pen w0 W g v l) (hb : Below W.heap.size W W1) : Pen w0 W1 g v l := ⟨below_then h.low h.low.size hb, blk_below h.blk hb, h.own.below hb, h.base⟩
theorem PenIs.below {w0 W W1 : World} {g : Nat} {l : List Int} (h : PenIs w0 W g l) (hb : Below W.heap.size W W1) : PenIs w0 W1 g l := by
 obtain ⟨v, hv⟩ := h
 exact ⟨v, hv.below hb⟩
theorem PR.ne {W : World} {base g : Nat} {v : Value} {l : List Int} {cs : Array Value} {e : TypeId} {fz : Nat × Nat} (h : PR W base v l) (hb : W.heap[g]? = some (.cells cs e fz)) (he : 5 ≠ e) : some g ≠ v.ownBlock := by
 intro hk
 obtain ⟨_, c1, f1, h1⟩ := h.lt g hk.symm
 rw [hb] at h1
 injection h1 with h1
 injection h1 with _ h1 _
 exact he h1.symm
theorem PR.put {W W1 : World} {base k : Nat} {v : Value} {l : List Int} {cs c1 : Array Value} {e e1 : TypeId} (h : PR W base v l) (hb : W.heap[k]? = some (.cells cs e (0, 0))) (he : 5 ≠ e) (hp : Put W W1 k c1 e1) : PR W1 base v l :=
 h.move (fun q hq => hp.far q (fun e_ => h.ne hb he (by rw [← e_]; exact hq.symm))) (fun hr => Kd.R_grown1 hr rfl (put_grownN hp) (Kd.R_ne hr hb he))
/-- what an append leaves as it was. -/
def FarB (W W1 : World) : Prop := W.heap.size ≤ W1.heap.size ∧ ∀ k, k < W.heap.size → (∀ cs, W.heap[k]? ≠ some (.cells cs 5 (0, 0))) → W1.heap[k]? = W.heap[k]?
theorem FarB.of_R {W W1 : World} {base : Nat} {v : Value} {l : List Int} (h : Kd.R (Kd.int .u8) 5 W base (fun _ => True) v l) (hg : W.grownBy W1 v.ownBlock) : FarB W W1 := ⟨hg.size, fun k hk ht => hg.block k hk (fun e => by
  obtain ⟨cs, hcs⟩ := Kd.R_typed h k e.symm
  exact ht cs hcs)⟩
/-- a new row is stored into the pen. -/
theorem Pen.store {w0 W W1 : World} {g : Nat} {v v1 : Value} {l l1 : List Int} (h : Pen w0 W g v l) (hr : Kd.R (Kd.int .u8) 5 W1 w0.heap.size (fun _ => True) v1 l1) (hb : Below w0.heap.size w0 W1) (hg : FarB W W1) : W1.cell? ⟨g, 0, none⟩ = some v ∧ W1.frozen? ⟨g, 0, none⟩ = false ∧ PenIs w0 (W1.setCell ⟨g, 0, none⟩ v1) g l1 ∧ OnlyP g W (W1.setCell ⟨g, 0, none⟩ v1) := by
 have hb1 : W1.heap[g]? = some (.cells #[v] 75 (0, 0)) := by
  rw [hg.2 g (blk_lt h.blk) (fun cs e => by rw [h.blk] at e; injection e with e; injection e with _ e _; exact absurd e (by decide))]
  exact h.blk
 have hp := put_set (j := 0) (x := v1) hb1
 refine ⟨blk_cell hb1 0, blk_frozen hb1 0, ⟨v1, hp.below hb h.base, hp.blk, .inl (Kd.R_grown1 hr rfl (put_grownN hp) (Kd.R_ne hr hb1 (by decide))), h.base⟩, ⟨Nat.le_trans hg.1 (by rw [hp.size]; exact Nat.le_refl _), fun k hk hkg ht => ?_⟩⟩
 rw [hp.far k hkg]
 exact hg.2 k hk ht
theorem info_byte : (Tryz.prog.info? 5).map (fun i => (i.zero, i.size, i.bytes)) = some (some (.int .u8 0), 1, 1) := by kernel_rfl
theorem u8_wrap (y : Int) : IntKind.u8.wrap y = y % 256 := by simp [IntKind.wrap, IntKind.signed, IntKind.bits]
theorem shr_be {x : Int} {k : Nat} (h0 : 0 ≤ x) : x / 2 ^ (8 * (k : Int)).toNat % 256 = x / 256 ^ k % 256 := by
 rw [show (8 * (k : Int)).toNat = 8 * k by omega, Int.pow_mul]
 rfl
theorem beN_step {x : Int} {k : Nat} {pre r : List Int} (h : pre ++ beN x (k + 1) = r) : (pre ++ [x / 256 ^ k % 256]) ++ beN x k = r := by
 rw [← h, List.append_assoc]
 rfl
theorem own_nums {W : World} {base : Nat} {ok : Nat → Prop} {v : Value} {l : List Int} (h : Kd.R (Kd.int .u8) 5 W base ok v l) : W.ownsRow base 5 1 v l.length (nums .u8 l) := Kd.own_of_R h
theorem R_of_nums {W : World} {base : Nat} {v : Value} {l : List Int} (h : W.ownsRow base 5 1 v l.length (nums .u8 l)) : Kd.R (Kd.int .u8) 5 W base (fun _ => True) v l := Kd.R_of_own h (fun _ _ => trivial)
/-- one byte appended to the pen's row. -/
theorem PR.append_step {ops : Array Oper} {o : Oper} {a : Act} {Q : Exit → Act → World → Prop} {Kc : Act → World → Prop} {w0 W : World} (hg : o.guard = none) (s x : Operand)
  (ho : o.op = .call { callee := .builtin .append, args := #[s, x], argTypes := #[31, 31] }) (v : Value) (l : List Int) (p : Int) (hs : a.eval s = v) (hx : a.eval x = .slice (some ⟨W.heap.size, 0, none⟩) 1 1)
  (HO : PR W w0.heap.size v l) (HB : Below w0.heap.size w0 W) (hl : l.length + 1 ≤ 140737488355328)
  (h : ∀ v1 w1, Kd.R (Kd.int .u8) 5 w1 w0.heap.size (fun _ => True) v1 (l ++ [p]) → Below w0.heap.size w0 w1 → FarB W w1 → Kc (a.put o.dst v1) w1) :
  if Region.wanted o (yielded ops a.tmps) = true then Oper.wp Tryz.prog o a (W.alloc (.cells #[.int .u8 p] 5)) Kc Q else Kc (a.put o.dst undef) (W.alloc (.cells #[.int .u8 p] 5)) := by
 have hw : Region.wanted o (yielded ops a.tmps) = true := by simp [Region.wanted, hg]
 rcases HO with HO | ⟨⟨gl, hv, h1, h2⟩, h3⟩
 ·
  refine Kd.R_append_step (Kd.int .u8) (w0 := w0) w0.heap.size hw s x 31 5 (.int .u8 0) 1 ho Tryz.underlying31 info_byte rfl (by decide) (by omega) v l p [.int .u8 p] (fun _ => True) (fun _ => False) hs hx rfl (fun _ hk => hk.elim) (fun _ _ => trivial) HO HB HB.size (by omega) ?_
  intro v1 w1 hr hb hg1 _
  exact h v1 w1 hr hb (FarB.of_R HO hg1)
 ·
  subst hv h3
  obtain ⟨i0, hi, hz⟩ := Option.map_eq_some_iff.1 info_byte
  simp only [Prod.mk.injEq] at hz
  have hnew : (W.alloc (.cells #[.int .u8 p] 5)).heap[W.heap.size]? = some (.cells #[.int .u8 p] 5 (0, 0)) := blk_new W _
  have hal : Below w0.heap.size w0 (W.alloc (.cells #[.int .u8 p] 5)) := HB.alloc HB.size _
  refine step_append_grows (E := Kc (a.put o.dst undef) (W.alloc (.cells #[.int .u8 p] 5))) hg s x 31 ho 5 i0 (.int .u8 0) 1 1 Tryz.underlying31 hi hz.1 hz.2.1 hz.2.2 rfl (by decide) (some ⟨gl, 0, none⟩) 4 4 [.int .u8 80, .int .u8 76, .int .u8 79, .int .u8 49] hs (fun e => by cases e) rfl ?_ ⟨W.heap.size, 0, none⟩ 1 1 [.int .u8 p] hx rfl ?_ (by intro u hu; rw [List.mem_singleton.1 hu]; rfl) (by omega) (by decide) (by decide) ?_
  ·
   intro b hb j u hu
   obtain rfl : (⟨gl, 0, none⟩ : Addr) = b := Option.some.inj hb
   have h4 : (W.alloc (.cells #[.int .u8 p] 5)).heap[gl]? = some (.cells #[.int .u8 80, .int .u8 76, .int .u8 79, .int .u8 49] 5 (4, 5)) := by rw [(Below.refl W.heap.size W).alloc (Nat.le_refl _) _ |>.block gl (blk_lt h2)]; exact h2
   rw [add_plain, cell_of_row _ gl j _ _ _ h4]
   rw [← Array.getElem?_toList]
   exact hu
  ·
   intro j u hu
   rw [add_plain, cell_of_row _ _ j _ _ _ hnew]
   rw [← Array.getElem?_toList]
   exact hu
  ·
   intro v1 w1 hown hgr
   refine h v1 w1 (R_of_nums (l := [80, 76, 79, 49] ++ [p]) (own_less hown (Nat.le_trans HB.size (by show W.heap.size ≤ (W.heap.push _).size; simp)))) (hal.grown hgr hal.size (fun k hk => by cases hk)) ⟨?_, fun k hk _ => ?_⟩
   ·
    have := hgr.size
    have h5 : (W.alloc (.cells #[.int .u8 p] 5)).heap.size = W.heap.size + 1 := by show (W.heap.push _).size = _; simp
    omega
   ·
    rw [hgr.block k (by show k < (W.heap.push _).size; simp; omega) (by simp)]
    exact (Below.refl W.heap.size W).alloc (Nat.le_refl _) _ |>.block k hk
set_option maxHeartbeats 8000000 in
set_option maxRecDepth 100000 in
theorem number.calls (w0 W : World) (g : Nat) (l : List Int) (hp : PenIs w0 W g l) (x : Int) (h0 : 0 ≤ x) (h1 : x < 18446744073709551616) (n : Nat) (hn : n ≤ 8) (hl : l.length + n ≤ 140737488355328) :
  Calls Tryz.prog 28 #[.pointer (some ⟨g, 0, none⟩), .int .u64 x, .int .i64 (n : Int)] W fun e w' => e = .returned (.tuple #[]) ∧ PenIs w0 w' g (l ++ beN x n) ∧ OnlyP g W w' := by
 have hu1 := Tryz.underlying75
 have HP := Aside0.mk (And.intro hp (OnlyP.refl g W))
 have HX0 := Aside0.mk h0
 have HX1 := Aside0.mk h1
 have HL := Aside0.mk hl
 have HN := Aside0.mk hn
 have p0 : (0 : Int) ≤ (n : Int) := by omega
 have p1 : (n : Int) ≤ 8 := by omega
 clear hp h0 h1 hl hn
 go_enter Tryz.func28, Tryz.ntmps28
 go_wp2
 go_loopw [6] (fun u6 wr => ∃ (m : Nat) (pre : List Int), u6 = .int .i64 ((m : Int) - 1) ∧ m ≤ n ∧ Aside0 (pre ++ beN x m = l ++ beN x n ∧ pre.length + m = l.length + n) ∧ Aside0 (PenIs w0 wr g pre ∧ OnlyP g W wr)) (fun u6 _ => (intOf u6 + 1).toNat)
 case atStart => exact ⟨n, l, by first | rfl | (simp; done), Nat.le_refl _, ⟨rfl, rfl⟩, HP⟩
 case round =>
  clear HP
  obtain ⟨m, pre, hu6, hmn, HE, HP⟩ := hrel
  cases m with
  | zero =>
   obtain rfl : u6 = .int .i64 (-1) := hu6
   clear hmn
   go_wp2
   refine Go.Great.bodyPost_end0 rfl rfl ?_
   have he := HE.out.1
   rw [show beN x 0 = [] from rfl, List.append_nil] at he
   subst he
   exact ⟨rfl, HP.out⟩
  | succ k =>
   obtain rfl : u6 = .int .i64 (k : Int) := by rw [hu6]; congr 1; omega
   clear hu6
   have hkb : decide ((k : Int) ≥ 0) = true := decide_eq_true (by omega)
   have q0 : (0 : Int) ≤ (k : Int) := by omega
   have q1 : (k : Int) ≤ 7 := by omega
   have HM := Aside0.mk hmn
   clear hmn
   obtain ⟨⟨v, hv⟩, hon⟩ := HP.out
   have HV := Aside0.mk (hv.below (below_drew (Below.refl _ _)))
   have HON := Aside0.mk (hon.trans (OnlyP.of_below (below_drew (Below.refl _ _))))
   clear HP hv hon
   have hc0 := (blk_cell HV.out.blk 0).trans rfl
   go_wp2
   refine start_ (n := 15) (S := fun w' => w'.cell? ⟨g, 0, none⟩ = some v) (ds := [14]) #[false, false, false, false, false, false, false, false, false, false, false, false, false, false, false] (by kernel_rfl) rfl rfl hc0 (fun hHeld => ?_)
   generalize wr.drew = wd at HV HON hc0 hHeld ⊢
   refine pure_ (i := 0) (N := some 13) (v := ?_) (a' := ?_) #[true, false, false, false, false, false, false, false, false, false, false, false, false, false, false] rfl rfl (by kernel_rfl) (fun _ _ _ h => h) (Or.inl ⟨by rfl, ?_⟩) ?_ ?_
   rotate_left
   ·
    intro w'
    go_simp
    with_reducible rfl
   rotate_left
   ·
    simp only [Act.put, List.setIfInBounds_toArray, List.set_cons_zero, List.set_cons_succ, i64_w, i32_w]
    rfl
   refine pure_ (i := 1) (N := some 14) (v := ?_) (a' := ?_) #[true, true, false, false, false, false, false, false, false, false, false, false, false, false, false] rfl rfl (by kernel_rfl) (fun _ _ _ h => h) (Or.inl ⟨by rfl, ?_⟩) ?_ ?_
   rotate_left
   ·
    intro w'
    go_simp
    with_reducible rfl
   rotate_left
   ·
    simp only [Act.put, List.setIfInBounds_toArray, List.set_cons_zero, List.set_cons_succ, i64_w, i32_w]
    rfl
   refine pure_ (i := 2) (N := some 15) (v := ?_) (a' := ?_) #[true, true, true, false, false, false, false, false, false, false, false, false, false, false, false] rfl rfl (by kernel_rfl) (fun _ _ _ h => h) (Or.inl ⟨by rfl, ?_⟩) ?_ ?_
   rotate_left
   ·
    intro w'
    go_simp
    with_reducible rfl
   rotate_left
   ·
    simp only [Act.put, List.setIfInBounds_toArray, List.set_cons_zero, List.set_cons_succ, i64_w, i32_w]
    rfl
   refine pure_ (i := 3) (N := some 16) (v := ?_) (a' := ?_) #[true, true, true, true, false, false, false, false, false, false, false, false, false, false, false] rfl rfl (by kernel_rfl) (fun _ _ _ h => h) (Or.inl ⟨by rfl, ?_⟩) ?_ ?_
   rotate_left
   ·
    intro w'
    go_simp
    with_reducible rfl
   rotate_left
   ·
    simp only [Act.put, List.setIfInBounds_toArray, List.set_cons_zero, List.set_cons_succ, i64_w, i32_w]
    rfl
   refine take_ (i := 4) (N := some 17) (v := ?_) (a' := ?_) #[true, true, true, true, true, false, false, false, false, false, false, false, false, false, false] rfl rfl (by kernel_rfl) (fun _ _ _ h => h) (Or.inl ⟨by rfl, ?_⟩) hHeld ?_ ?_
   rotate_left
   ·
    rintro w' s0
    go_simp
    with_reducible rfl
   rotate_left
   ·
    simp only [Act.put, List.setIfInBounds_toArray, List.set_cons_zero, List.set_cons_succ, i64_w, i32_w]
    rfl
   refine pure_ (i := 5) (N := some 18) (v := ?_) (a' := ?_) #[true, true, true, true, true, true, false, false, false, false, false, false, false, false, false] rfl rfl (by kernel_rfl) (fun _ _ _ h => h) (Or.inl ⟨by rfl, ?_⟩) ?_ ?_
   rotate_left
   ·
    intro w'
    go_simp
    with_reducible rfl
   rotate_left
   ·
    simp only [Act.put, List.setIfInBounds_toArray, List.set_cons_zero, List.set_cons_succ, i64_w, i32_w]
    rfl
   refine pure_ (i := 6) (N := some 19) (v := ?_) (a' := ?_) #[true, true, true, true, true, true, true, false, false, false, false, false, false, false, false] rfl rfl (by kernel_rfl) (fun _ _ _ h => h) (Or.inl ⟨by rfl, ?_⟩) ?_ ?_
   rotate_left
   ·
    intro w'
    go_simp
    with_reducible rfl
   rotate_left
   ·
    simp only [Act.put, List.setIfInBounds_toArray, List.set_cons_zero, List.set_cons_succ, i64_w, i32_w]
    rfl
   refine pure_ (i := 7) (N := some 20) (v := ?_) (a' := ?_) #[true, true, true, true, true, true, true, true, false, false, false, false, false, false, false] rfl rfl (by kernel_rfl) (fun _ _ _ h => h) (Or.inl ⟨by rfl, ?_⟩) ?_ ?_
   rotate_left
   ·
    intro w'
    go_simp
    rw [i64_w, wrap64_id (x := 8 * (k : Int)) (by omega) (by omega)]
   rotate_left
   ·
    simp only [Act.put, List.setIfInBounds_toArray, List.set_cons_zero, List.set_cons_succ, i64_w, i32_w]
    rfl
   refine pure_ (i := 8) (N := some 21) (v := ?_) (a' := ?_) #[true, true, true, true, true, true, true, true, true, false, false, false, false, false, false] rfl rfl (by kernel_rfl) (fun _ _ _ h => h) (Or.inl ⟨by rfl, ?_⟩) ?_ ?_
   rotate_left
   ·
    intro w'
    go_simp
    with_reducible rfl
   rotate_left
   ·
    simp only [Act.put, List.setIfInBounds_toArray, List.set_cons_zero, List.set_cons_succ, i64_w, i32_w]
    rfl
   refine pure_ (i := 9) (N := some 22) (v := ?_) (a' := ?_) #[true, true, true, true, true, true, true, true, true, true, false, false, false, false, false] rfl rfl (by kernel_rfl) (fun _ _ _ h => h) (Or.inl ⟨by rfl, ?_⟩) ?_ ?_
   rotate_left
   ·
    intro w'
    go_simp
    with_reducible rfl
   rotate_left
   ·
    simp only [Act.put, List.setIfInBounds_toArray, List.set_cons_zero, List.set_cons_succ, i64_w, i32_w]
    rfl
   refine one_ (i := 10) (N := some 23) #[true, true, true, true, true, true, true, true, true, true, true, false, false, false, false] rfl rfl (by kernel_rfl) (by decide) (fun K hK => ?_)
   refine value_ (w1 := ?_) (v := ?_) (by rfl) rfl ?_ ?_
   rotate_left 2
   ·
    go_simp
    constructor
    ·
     rfl
    ·
     rfl
   refine hK.out _ _ ((World.cell?_alloc_lt _ _ _ (World.block_lt_of_cell? _ _ hc0)).trans hc0) (fun hHeld => ?_)
   clear hK K
   refine norm_ (a' := ?_) ?_ ?_
   rotate_left
   ·
    show Act.put _ (some 23) _ = _
    simp only [Act.put, List.setIfInBounds_toArray, List.set_cons_zero, List.set_cons_succ, i64_w, i32_w]
    rfl
   refine one_ (i := 11) (N := some 24) #[true, true, true, true, true, true, true, true, true, true, true, true, false, false, false] rfl rfl (by kernel_rfl) (by decide) (fun K hK => ?_)
   refine PR.append_step (w0 := w0) (by rfl) (.tmp 17) (.tmp 23) rfl v pre (IntKind.u8.wrap (x / 2 ^ (8 * (k : Int)).toNat)) rfl rfl ?aO ?aB ?aL ?_
   (case aB => exact HV.out.low)
   (case aO => exact HV.out.own)
   (case aL => have := HE.out.2; have := HL.out; omega)
   intro v1 w1 ho1 hb1 hg1
   rw [u8_wrap, shr_be HX0.out] at ho1
   obtain ⟨hc1, hf1, hr1, hon1⟩ := HV.out.store ho1 hb1 hg1
   have HR1 := Aside0.mk (And.intro hr1 (HON.out.trans hon1))
   obtain ⟨Ao, co, eo⟩ := Kd.R_slice ho1
   subst eo
   refine hK.out _ _ hc1 (fun hHeld => ?_)
   clear hr1 hon1 hc0
   clear hK K
   refine norm_ (a' := ?_) ?_ ?_
   rotate_left
   ·
    show Act.put _ (some 24) _ = _
    simp only [Act.put, List.setIfInBounds_toArray, List.set_cons_zero, List.set_cons_succ, i64_w, i32_w]
    rfl
   refine pure_ (i := 12) (N := some 25) (v := ?_) (a' := ?_) #[true, true, true, true, true, true, true, true, true, true, true, true, true, false, false] rfl rfl (by kernel_rfl) (fun _ _ _ h => h) (Or.inl ⟨by rfl, ?_⟩) ?_ ?_
   rotate_left
   ·
    intro w'
    go_simp
    with_reducible rfl
   rotate_left
   ·
    simp only [Act.put, List.setIfInBounds_toArray, List.set_cons_zero, List.set_cons_succ, i64_w, i32_w]
    rfl
   refine pure_ (i := 13) (N := some 26) (v := ?_) (a' := ?_) #[true, true, true, true, true, true, true, true, true, true, true, true, true, true, false] rfl rfl (by kernel_rfl) (fun _ _ _ h => h) (Or.inl ⟨by rfl, ?_⟩) ?_ ?_
   rotate_left
   ·
    intro w'
    go_simp
    with_reducible rfl
   rotate_left
   ·
    simp only [Act.put, List.setIfInBounds_toArray, List.set_cons_zero, List.set_cons_succ, i64_w, i32_w]
    rfl
   refine last_ (i := 14) (N := none) #[true, true, true, true, true, true, true, true, true, true, true, true, true, true, true] rfl rfl (by kernel_rfl) (by decide) (fun K hK => ?_)
   refine skip_ (w1 := ?_) (by rfl) rfl ?_ ?_
   rotate_left
   ·
    go_simp
    rfl
   refine hK.out _ _ ?_
   clear hK K
   refine done_ (by kernel_rfl) ?_
   clear HV HON ho1 hb1 hg1 hHeld hc1 hf1
   go_wp2
   go_roundw
   case measure => simp only [intOf]; omega
   case rel => exact ⟨k, _, by first | rfl | (simp; done), by have := HM.out; omega, ⟨beN_step HE.out.1, by rw [List.length_append]; have := HE.out.2; simp only [List.length_cons, List.length_nil]; omega⟩, by have h2 := HR1.out; rw [show (pre ++ [x / 256 ^ k % 256]).length = pre.length + 1 from by simp] at h2; exact ⟨h2⟩⟩
set_option maxHeartbeats 8000000 in
set_option maxRecDepth 100000 in
theorem four.calls (w0 W : World) (g : Nat) (l : List Int) (hp : PenIs w0 W g l) (x : Int) (h0 : 0 ≤ x) (h1 : x ≤ 9223372036854775807) (hl : l.length + 4 ≤ 140737488355328) :
  Calls Tryz.prog 26 #[.pointer (some ⟨g, 0, none⟩), .int .i64 x] W fun e w' => e = .returned (.tuple #[]) ∧ PenIs w0 w' g (l ++ beN x 4) ∧ OnlyP g W w' := by
 have HP := Aside0.mk hp
 have HL := Aside0.mk hl
 have HX := Aside0.mk (And.intro h0 (show x < 18446744073709551616 by omega))
 have HW := Aside0.mk (show IntKind.u64.wrap x = x by rw [IntKind.wrap_u64]; omega)
 clear hp hl h0 h1
 go_enter Tryz.func26, Tryz.ntmps26
 go_wp2_with (go_at_call 28; (try rw [HW.out]); refine (number.calls w0 _ g l HP.out x HX.out.1 HX.out.2 4 (by decide) HL.out).mono ?_; rintro e w1 ⟨rfl, hp, ho⟩; have HQ := Aside0.mk (And.intro hp ho); clear hp ho)
 refine Go.Great.bodyPost_end0 rfl rfl ?_
 exact ⟨rfl, HQ.out⟩
set_option maxHeartbeats 8000000 in
set_option maxRecDepth 100000 in
theorem text.calls (w0 W : World) (g : Nat) (l : List Int) (hp : PenIs w0 W g l) (s : ByteArray) (h4 : 4 ≤ l.length) (hl : l.length + 4 + s.size ≤ 140737488355328) :
  Calls Tryz.prog 27 #[.pointer (some ⟨g, 0, none⟩), .string s] W fun e w' => e = .returned (.tuple #[]) ∧ PenIs w0 w' g (l ++ beN (s.size : Int) 4 ++ bytesOf s) ∧ OnlyP g W w' := by
 have hu1 := Tryz.underlying75
 have HP := Aside0.mk hp
 have HL := Aside0.mk hl
 have H4 := Aside0.mk h4
 clear hp hl h4
 go_enter Tryz.func27, Tryz.ntmps27
 go_upto_region 1 with (go_at_call 26; refine (four.calls w0 _ g l HP.out (s.size : Int) (by omega) (by have := HL.out; omega) (by have := HL.out; omega)).mono ?_; rintro e w1 ⟨rfl, hp, ho⟩; have HQ := Aside0.mk (And.intro hp ho); clear hp ho HP)
 obtain ⟨⟨v, hv⟩, ho⟩ := HQ.out
 have HV := Aside0.mk hv
 have HO := Aside0.mk ho
 have HLN := Aside0.mk (show (l ++ beN (s.size : Int) 4).length = l.length + 4 by rw [List.length_append, beN_length])
 clear HQ hv ho
 have HRW := Aside0.mk (HV.out.own.R (by rw [HLN.out]; have := H4.out; omega))
 have hc0 := (blk_cell HV.out.blk 0).trans rfl
 go_wp2_with ((with_reducible refine gate_builtin (b := .append) (xs := #[.tmp 12, .tmp 13]) rfl ?_); at_builtin; refine print_append_str (w0 := w0) w0.heap.size rfl (.tmp 12) (.tmp 13) 31 9 5 rfl Tryz.underlying31 Tryz.underlying9 info_byte v (l ++ beN (s.size : Int) 4) s rfl rfl ?aO ?aB ?aS ?aL ?_; (case aO => exact own_nums HRW.out); (case aB => exact HV.out.low); (case aS => exact HV.out.low.size); (case aL => (rw [HLN.out]; exact HL.out)); intro v1 w2 hown hb hg; have hr := R_of_nums hown; obtain ⟨hc1, hf1, hr1, hon1⟩ := HV.out.store hr hb (FarB.of_R HRW.out hg); have HR1 := Aside0.mk (And.intro hr1 (HO.out.trans hon1)); obtain ⟨Ao, co, eo⟩ := Kd.R_slice hr; obtain ⟨nn, hnn⟩ : ∃ nn, nn = (l ++ beN (s.size : Int) 4 ++ bytesOf s).length := ⟨_, rfl⟩; rw [← hnn] at eo; subst eo; clear hnn hown hb hg hr hr1 hon1 hc0)
 refine Go.Great.bodyPost_end0 rfl rfl ?_
 exact ⟨rfl, HR1.out⟩
end Go.Proofs.YtiaohbbafaaibabGreatDoor.P

/- OWN TEXT: Bag.apartBytes, walked: lists of bytes that share no memory. -/
namespace Go.Proofs.YtiaohbbafaaibabGreatDoor.P
open Go.RowKit Go.Proofs.YtiaohbbafaaibabGreatDoorW.PrintWords Go.Proofs.YtiaohbbafaaibabGreatDoorW.PrintLast Go.Proofs.YtiaohbbafaaibabGreatDoorW.PrintMore Go.Proofs.YtiaohbbafaaibabGreatDoor.Arr
set_option linter.unusedVariables false
set_option linter.unusedSimpArgs false
def mkBytes (n i : Nat) : List Value := [.int .u8 (IntKind.u8.wrap (31 * (n : Int) + 7 * (i : Int) + 3))]
theorem mkBytes_len (n i : Nat) : (mkBytes n i).length = 1 := rfl
theorem mkBytes_one (n i : Nat) : ∀ u ∈ mkBytes n i, u.oneCell' = true := by
 intro u hu
 rw [List.mem_singleton.1 hu]
 rfl
theorem info_ap31 : (Tryz.prog.info? 31).map (fun i => (i.zero, i.size, i.bytes)) = some (some (.slice none 0 0), 1, 24) := by kernel_rfl
/-- the lists are being written full: those ahead of n whole, n as far as i. -/
def P1 (E s : Nat) (mk : Nat → Nat → List Value) (w0 w W : World) (M : Nat) (A : Nat → Option Addr) (L C : Nat → Nat) (own : Nat → Nat) (n i : Nat) : Prop :=
 St w0 w W E ∧ ∀ m, m < M → Fl W w0.heap.size E s own mk m (A m) (L m) (C m) (if m < n then L m else if m = n then i else 0)
section
variable {E s : Nat} {mk : Nat → Nat → List Value} {w0 w W W1 : World} {M : Nat} {A : Nat → Option Addr} {L C : Nat → Nat} {own : Nat → Nat} {n i : Nat}
theorem P1.start (h : St w0 w W E) (hr : ∀ m, m < M → Fl W w0.heap.size E s own mk m (A m) (L m) (C m) 0) : P1 E s mk w0 w W M A L C own 0 0 := ⟨h, fun m hm => by
  rw [if_neg (by omega)]
  by_cases he : m = 0
  · rw [if_pos he]; exact hr m hm
  · rw [if_neg he]; exact hr m hm⟩
theorem P1.now (h : P1 E s mk w0 w W M A L C own n i) (hn : n < M) : Fl W w0.heap.size E s own mk n (A n) (L n) (C n) i := by
 have := h.2 n hn
 rw [if_neg (by omega), if_pos rfl] at this
 exact this
theorem P1.put (h : P1 E s mk w0 w W M A L C own n i) (hn : n < M) (hmk : ∀ n i, (mk n i).length = s) {b : Nat} {cs : Array Value} (hA : A n = some ⟨b, 0, none⟩) (ho : own b = n) (hB : w0.heap.size ≤ b) (hi : i < L n) (hw : Wrote W W1 b E s i (mk n i) cs) : P1 E s mk w0 w W1 M A L C own n (i + 1) :=
  ⟨h.1.row hw.grown hw.old hB, fun m hm => by
    by_cases he : m = n
    · subst he
      rw [if_neg (by omega), if_pos rfl]
      have h1 := h.now hn
      rw [hA] at h1 ⊢
      exact h1.fill hmk hi hw
    · have h1 := h.2 m hm
      rw [if_neg he] at h1 ⊢
      exact h1.put hmk hw ho⟩
theorem P1.next (h : P1 E s mk w0 w W M A L C own n (L n)) : P1 E s mk w0 w W M A L C own (n + 1) 0 := ⟨h.1, fun m hm => by
  have h1 := h.2 m hm
  by_cases hl : m < n
  · rw [if_pos hl] at h1; rw [if_pos (by omega)]; exact h1
  · rw [if_neg hl] at h1
    by_cases he : m = n
    · subst he; rw [if_pos rfl] at h1; rw [if_pos (by omega)]; exact h1
    · rw [if_neg he] at h1
      rw [if_neg (by omega)]
      by_cases he2 : m = n + 1
      · rw [if_pos he2]; exact h1
      · rw [if_neg he2]; exact h1⟩
theorem P1.full (h : P1 E s mk w0 w W M A L C own M i) : ∀ m, m < M → Fl W w0.heap.size E s own mk m (A m) (L m) (C m) (L m) := fun m hm => by
 have h1 := h.2 m hm
 rw [if_pos hm] at h1
 exact h1
end
set_option maxHeartbeats 60000000 in
set_option maxRecDepth 100000 in
theorem apBytes.calls (w0 w : World) (g o_ : Nat) (cg co : Array Value) (M capO : Nat) (A : Nat → Option Addr) (L C : Nat → Nat) (own : Nat → Nat) (hbag : w.heap[g]? = some (.cells cg 56 (0, 0))) (hc : cg[0]? = some (.slice (some ⟨o_, 0, none⟩) M capO)) (ho : w.heap[o_]? = some (.cells co 31 (0, 0))) (hco : ∀ m, m < M → co[m]? = some (.slice (A m) (L m) (C m))) (hM : M ≤ 300) (hL : ∀ m, L m ≤ 1000000000) (low : Below w0.heap.size w0 w) (hrows : ∀ m, m < M → Fl w w0.heap.size 5 1 own mkBytes m (A m) (L m) (C m) 0) :
  Calls Tryz.prog 40 #[.pointer (some ⟨g, 0, none⟩)] w fun e w' => e = .returned (.bool true) ∧ St w0 w w' 5 := by
 have HBAG := Aside0.mk hbag
 have HC := Aside0.mk hc
 have HO := Aside0.mk ho
 have HCO := Aside0.mk hco
 have HM := Aside0.mk hM
 have HL := Aside0.mk hL
 have HP := Aside0.mk (P1.start (St.refl low) hrows)
 clear hbag hc ho hco hM hL low hrows
 go_enter Tryz.func40, Tryz.ntmps40
 go_wp2
 go_loopw [3] (fun u3 wr => ∃ n : Nat, u3 = .int .i64 (n : Int) ∧ n ≤ M ∧ Aside0 (P1 5 1 mkBytes w0 w wr M A L C own n 0)) (fun u3 _ => M - (intOf u3).toNat)
 case atStart => exact ⟨0, rfl, Nat.zero_le _, HP⟩
 case round =>
  clear HP
  obtain ⟨n, rfl, hnle, HP⟩ := hrel
  have hb0 := (blk_cell (HP.out.1.blk HBAG.out (by decide)) 0).trans HC.out
  by_cases hlt : n < M
  ·
   have HN := Aside0.mk hlt
   have hltb : decide ((n : Int) < (M : Int)) = true := decide_eq_true (by omega)
   have p0t : ((0 : Int) ≤ (n : Int)) = True := eq_true (by omega)
   have q0t : ((n : Int) < (M : Int)) = True := eq_true (by omega)
   have bn : (n : Int) ≤ 300 := by have := HM.out; omega
   have hv0 := (blk_cell (HP.out.1.blk HO.out (by decide)) n).trans (HCO.out n HN.out)
   clear hlt hnle
   go_wp2
   go_loopw [4] (fun u4 wr => ∃ i : Nat, u4 = .int .i64 (i : Int) ∧ i ≤ L n ∧ Aside0 (P1 5 1 mkBytes w0 w wr M A L C own n i)) (fun u4 _ => L n - (intOf u4).toNat)
   case atStart => exact ⟨0, rfl, Nat.zero_le _, HP⟩
   case round =>
    clear HP hb0 hv0
    obtain ⟨i, rfl, hile, HP⟩ := hrel
    have hb0 := (blk_cell (HP.out.1.blk HBAG.out (by decide)) 0).trans HC.out
    have hv0 := (blk_cell (HP.out.1.blk HO.out (by decide)) n).trans (HCO.out n HN.out)
    by_cases hli : i < L n
    ·
     have HI := Aside0.mk hli
     have hlib : decide ((i : Int) < (L n : Int)) = true := decide_eq_true (by omega)
     have p1t : ((0 : Int) ≤ (i : Int)) = True := eq_true (by omega)
     have q1t : ((i : Int) < (L n : Int)) = True := eq_true (by omega)
     have bi : (i : Int) ≤ 1000000000 := by have := HL.out n; omega
     obtain ⟨b, cs, hA, hblk, hown, hB, hcs, hlc⟩ := (HP.out.now HN.out).blk (by omega)
     have HF := Aside0.mk (And.intro hA (And.intro hblk (And.intro hown (And.intro hB (And.intro hcs hlc)))))
     rw [hA] at hv0
     obtain ⟨old, hold⟩ : ∃ old, cs[i]? = some old := ⟨_, Array.getElem?_eq_getElem (by omega)⟩
     have hcl := (blk_cell hblk i).trans hold
     have hfz := blk_frozen hblk i
     clear hA hblk hown hB hcs hlc hli hile hold
     go_wp2
     go_roundw
     case measure => have hq := HI.out; simp only [intOf]; omega
     case rel => exact ⟨i + 1, by first | rfl | go_num, by have := HI.out; omega, ⟨HP.out.put HN.out mkBytes_len HF.out.1 HF.out.2.2.1 HF.out.2.2.2.1 HI.out (Wrote.set _ HF.out.2.1 (by have h1 := HF.out.2.2.2.2.1; have h2 := HF.out.2.2.2.2.2; have h3 := HI.out; omega))⟩⟩
    ·
     have hie : i = L n := by omega
     subst hie
     have hlib : decide ((L n : Int) < (L n : Int)) = false := by simp
     clear hli hile
     go_wp2
     go_roundw
     case measure => have hq := HN.out; simp only [intOf]; omega
     case rel => exact ⟨n + 1, by first | rfl | go_num, by have := HN.out; omega, ⟨HP.out.next⟩⟩
  ·
   have hne : n = M := by omega
   subst hne
   have hltb : decide ((n : Int) < (n : Int)) = false := by simp
   have HP2 := Aside0.mk (show ∃ own, P2 5 31 1 mkBytes w0 w _ n A L C own 0 0 (.slice none 0 0) (.slice none 0 0) from ⟨own, HP.out.1, HP.out.full, Col.nil, Col.nil, fun k hk => by simp [Value.ownBlock] at hk⟩)
   clear hlt hnle HP
   go_wp2
   go_loopw [5, 6, 7] (fun u5 u6 u7 wr => ∃ m : Nat, u7 = .int .i64 (m : Int) ∧ m ≤ n ∧ Aside0 (∃ own, P2 5 31 1 mkBytes w0 w wr n A L C own m m u5 u6)) (fun _ _ u7 _ => n - (intOf u7).toNat)
   case atStart => exact ⟨0, rfl, Nat.zero_le _, HP2⟩
   case round =>
    clear HP2
    obtain ⟨m, rfl, hmle, HP⟩ := hrel
    obtain ⟨own1, hP⟩ := HP.out
    have HP := Aside0.mk hP
    clear hP
    have hb0 := (blk_cell (HP.out.st.blk HBAG.out (by decide)) 0).trans HC.out
    obtain ⟨A5, c5, e5⟩ := HP.out.one.form
    obtain ⟨A6, c6, e6⟩ := HP.out.more.form
    subst e5 e6
    by_cases hlt : m < n
    ·
     have HN := Aside0.mk hlt
     have hltb : decide ((m : Int) < (n : Int)) = true := decide_eq_true (by omega)
     have p0t : ((0 : Int) ≤ (m : Int)) = True := eq_true (by omega)
     have q0t : ((m : Int) < (n : Int)) = True := eq_true (by omega)
     have bn : (m : Int) ≤ 300 := by have := HM.out; omega
     have bl : ((L m : Nat) : Int) ≤ 1000000000 := by have := HL.out m; omega
     have hv0 := (blk_cell (HP.out.st.blk HO.out (by decide)) m).trans (HCO.out m HN.out)
     clear hlt hmle
     go_wp2
     go_loopw [5, 8, 9] (fun u5 u8 u9 wr => ∃ i : Nat, u9 = .int .i64 (i : Int) ∧ L m ≤ i ∧ i ≤ L m + 70 ∧ ∃ Al cap, u8 = .slice Al i cap ∧ Aside0 (∃ own, P2 5 31 1 mkBytes w0 w wr n A L C own (if i = L m then m else m + 1) m u5 (.slice A6 m c6) ∧ Fl wr w0.heap.size 5 1 own mkBytes m Al i cap i)) (fun _ _ u9 _ => L m + 70 - (intOf u9).toNat)
     case atStart => exact ⟨L m, rfl, Nat.le_refl _, by omega, A m, C m, rfl, ⟨own1, by rw [if_pos rfl]; exact HP.out, HP.out.rows m HN.out⟩⟩
     case round =>
      clear HP hb0 hv0
      obtain ⟨i, rfl, hlo, hile, Al, cap, rfl, HP⟩ := hrel
      obtain ⟨own2, hP, hF⟩ := HP.out
      have HP := Aside0.mk (And.intro hP hF)
      clear hP hF
      have hb0 := (blk_cell (HP.out.1.st.blk HBAG.out (by decide)) 0).trans HC.out
      have hv0 := (blk_cell (HP.out.1.st.blk HO.out (by decide)) m).trans (HCO.out m HN.out)
      obtain ⟨A5, c5, e5⟩ := HP.out.1.one.form
      subst e5
      have bi : (i : Int) ≤ 2000000000 := by have := HL.out m; omega
      have HILE := Aside0.mk hile
      by_cases hli : i < L m + 70
      ·
       have HI := Aside0.mk hli
       have hlib : decide ((i : Int) < (L m : Int) + 70) = true := decide_eq_true (by omega)
       clear hli hile
       by_cases hie : i = L m
       ·
        subst_vars
        have heq : ((L m : Int) == (L m : Int)) = true := beq_self_eq_true _
        rw [if_pos rfl] at HP ⊢
        clear hlo
        go_wp2_with (first | ((with_reducible refine gate_builtin (b := .append) (xs := #[.tmp 82, .tmp 90]) rfl ?_); at_builtin; refine P2.app_l HP.out.1 (by decide) mkBytes_len mkBytes_one rfl (.tmp 82) (.tmp 90) 31 rfl (.int .u8 0) 1 Tryz.underlying31 info_byte rfl (by decide) HP.out.2 rfl rfl (by have := HILE.out; have := HL.out m; omega) (by decide) _ rfl ?_; intro A1 cap1 own3 w1 hP1 hF1; have HP1 := Aside0.mk (And.intro hP1 hF1); have hb1 := (blk_cell (hP1.st.blk HBAG.out (by decide)) 0).trans HC.out; have hv1 := (blk_cell (hP1.st.blk HO.out (by decide)) m).trans (HCO.out m HN.out); clear hP1 hF1 hb0 hv0 HP) | ((with_reducible refine gate_builtin (b := .append) (xs := #[.tmp 102, .tmp 104]) rfl ?_); at_builtin; refine P2.app_one HP1.out.1 (by decide) rfl (.tmp 102) (.tmp 104) 38 rfl Tryz.underlying38 info_ap31 rfl rfl (by have := HN.out; have := HM.out; omega) HP1.out.2 ?_; intro v1 w2 hP2 hmv; have HP2 := Aside0.mk (And.intro hP2 (hmv _ _ _ _ _ HP1.out.2)); clear hP2 hmv hb1 hv1 HP1))
        go_roundw
        case measure => simp only [intOf]; omega
        case rel => exact ⟨L m + 1, by first | rfl | go_num, by omega, by omega, _, _, rfl, ⟨_, by rw [if_neg (by omega)]; exact HP2.out.1, HP2.out.2⟩⟩
       ·
        have hieb : ((i : Int) == (L m : Int)) = false := beq_eq_false_iff_ne.mpr (by omega)
        have HNE := Aside0.mk hie
        rw [if_neg hie] at HP ⊢
        have HLO := Aside0.mk hlo
        clear hlo hie
        go_wp2_with (first | ((with_reducible refine gate_builtin (b := .append) (xs := #[.tmp 82, .tmp 90]) rfl ?_); at_builtin; refine P2.app_l HP.out.1 (by decide) mkBytes_len mkBytes_one rfl (.tmp 82) (.tmp 90) 31 rfl (.int .u8 0) 1 Tryz.underlying31 info_byte rfl (by decide) HP.out.2 rfl rfl (by have := HILE.out; have := HL.out m; omega) (by decide) _ rfl ?_; intro A1 cap1 own3 w1 hP1 hF1; have HP1 := Aside0.mk (And.intro hP1 hF1); have hb1 := (blk_cell (hP1.st.blk HBAG.out (by decide)) 0).trans HC.out; have hv1 := (blk_cell (hP1.st.blk HO.out (by decide)) m).trans (HCO.out m HN.out); clear hP1 hF1 hb0 hv0 HP))
        go_roundw
        case measure => have hq := HI.out; simp only [intOf]; omega
        case rel => exact ⟨i + 1, by first | rfl | go_num, by have := HLO.out; omega, by have := HI.out; omega, _, _, rfl, ⟨_, by rw [if_neg (by have := HLO.out; omega)]; exact HP1.out.1, HP1.out.2⟩⟩
      ·
       have hie : i = L m + 70 := by omega
       subst hie
       have hlib : decide (((L m + 70 : Nat) : Int) < (L m : Int) + 70) = false := decide_eq_false (by omega)
       rw [if_neg (by omega)] at HP ⊢
       clear hlo hile hli
       go_wp2_with (first | ((with_reducible refine gate_builtin (b := .append) (xs := #[.tmp 106, .tmp 108]) rfl ?_); at_builtin; refine P2.app_more HP.out.1 (by decide) rfl (.tmp 106) (.tmp 108) 38 rfl Tryz.underlying38 info_ap31 rfl rfl (by have := HN.out; have := HM.out; omega) HP.out.2 ?_; intro v1 w1 hP1; have HP1 := Aside0.mk hP1; clear hP1 hb0 hv0 HP))
       go_roundw
       case measure => have hq := HN.out; simp only [intOf]; omega
       case rel => exact ⟨m + 1, by first | rfl | go_num, by have := HN.out; omega, ⟨_, HP1.out⟩⟩
    ·
     have hme : m = n := by omega
     subst hme
     have hltb : decide ((m : Int) < (m : Int)) = false := by simp
     clear hlt hmle
     go_wp2
     go_loop [10] (fun u10 => ∃ q : Nat, u10 = .int .i64 (q : Int) ∧ q ≤ m) (fun u10 => m - (intOf u10).toNat)
     case atStart => exact ⟨0, rfl, Nat.zero_le _⟩
     case round =>
      obtain ⟨q, rfl, hqle⟩ := hrel
      by_cases hlt : q < m
      ·
       have HN := Aside0.mk hlt
       have hltb : decide ((q : Int) < (m : Int)) = true := decide_eq_true (by omega)
       have p0t : ((0 : Int) ≤ (q : Int)) = True := eq_true (by omega)
       have q0t : ((q : Int) < (m : Int)) = True := eq_true (by omega)
       have bn : (q : Int) ≤ 300 := by have := HM.out; omega
       have bl : ((L q : Nat) : Int) ≤ 1000000000 := by have := HL.out q; omega
       have hv0 := (blk_cell (HP.out.st.blk HO.out (by decide)) q).trans (HCO.out q HN.out)
       obtain ⟨g5, x5, B5, y5, e5, hc5, hf5⟩ := HP.out.one.at HN.out
       obtain ⟨g6, x6, B6, y6, e6, hc6, hf6⟩ := HP.out.more.at HN.out
       injection e5 with e51 e52 e53
       injection e6 with e61 e62 e63
       subst e51 e53 e61 e63
       obtain ⟨b5, _, rfl, _⟩ := hf5.blk (by omega)
       obtain ⟨b6, _, rfl, _⟩ := hf6.blk (by omega)
       have HF5 := Aside0.mk hf5
       have HF6 := Aside0.mk hf6
       clear e52 e62 hf5 hf6 hlt hqle
       go_wp2
       go_loop [11] (fun u11 => ∃ i : Nat, u11 = .int .i64 (i : Int) ∧ i ≤ L q + 70) (fun u11 => L q + 70 - (intOf u11).toNat)
       case atStart => exact ⟨0, rfl, Nat.zero_le _⟩
       case round =>
        obtain ⟨i, rfl, hile⟩ := hrel
        have bi : (i : Int) ≤ 2000000000 := by have := HL.out q; omega
        by_cases hli : i < L q + 70
        ·
         have HI := Aside0.mk hli
         have hlib : decide ((i : Int) < ((L q + 70 : Nat) : Int)) = true := decide_eq_true (by omega)
         have hlib2 : decide ((i : Int) < (L q : Int) + 70) = true := decide_eq_true (by omega)
         have p1t : ((0 : Int) ≤ (i : Int)) = True := eq_true (by omega)
         have q1t : ((i : Int) < ((L q + 70 : Nat) : Int)) = True := eq_true (by omega)
         have q1u : ((i : Int) < (L q : Int) + 70) = True := eq_true (by omega)
         have hm6 := HF6.out.cell hli (j := 0) (u := .int .u8 (IntKind.u8.wrap (31 * (q : Int) + 7 * (i : Int) + 3))) rfl
         rw [Nat.mul_one, Nat.add_zero] at hm6
         by_cases h1 : i < L q
         ·
          have t1 : decide ((i : Int) < (L q : Int)) = true := decide_eq_true (by omega)
          have t2 : ((i : Int) == (L q : Int)) = false := beq_eq_false_iff_ne.mpr (by omega)
          have q2t : ((i : Int) < (L q : Int)) = True := eq_true (by omega)
          obtain ⟨b0, _, hA0, _⟩ := (HP.out.rows q HN.out).blk (by omega)
          have hf0 := HP.out.rows q HN.out
          rw [hA0] at hf0 hv0
          have hm0 := hf0.cell h1 (j := 0) (u := .int .u8 (IntKind.u8.wrap (31 * (q : Int) + 7 * (i : Int) + 3))) rfl
          rw [Nat.mul_one, Nat.add_zero] at hm0
          clear hA0 hf0 h1 hli hile
          go_wp2
          go_round
          case measure => have hq := HI.out; simp only [intOf]; omega
          case rel => exact ⟨i + 1, by first | rfl | go_num, by have := HI.out; omega⟩
         ·
          have t1 : decide ((i : Int) < (L q : Int)) = false := decide_eq_false (by omega)
          have t1f : ((i : Int) < (L q : Int)) = False := eq_false (by omega)
          have t1n : (i < L q) = False := eq_false h1
          by_cases h2 : i = L q
          ·
           have t2 : ((i : Int) == (L q : Int)) = true := beq_iff_eq.mpr (by omega)
           have q3t : ((i : Int) < ((L q + 1 : Nat) : Int)) = True := eq_true (by omega)
           have q3u : ((i : Int) < (L q : Int) + 1) = True := eq_true (by omega)
           have hm5 := HF5.out.cell (show i < L q + 1 by omega) (j := 0) (u := .int .u8 (IntKind.u8.wrap (31 * (q : Int) + 7 * (i : Int) + 3))) rfl
           rw [Nat.mul_one, Nat.add_zero] at hm5
           clear h1 h2 hli hile
           go_wp2
           go_round
           case measure => have hq := HI.out; simp only [intOf]; omega
           case rel => exact ⟨i + 1, by first | rfl | go_num, by have := HI.out; omega⟩
          ·
           have t2 : ((i : Int) == (L q : Int)) = false := beq_eq_false_iff_ne.mpr (by omega)
           clear h1 h2 hli hile
           go_wp2
           go_round
           case measure => have hq := HI.out; simp only [intOf]; omega
           case rel => exact ⟨i + 1, by first | rfl | go_num, by have := HI.out; omega⟩
        ·
         have hie : i = L q + 70 := by omega
         subst hie
         have hlib : decide (((L q + 70 : Nat) : Int) < ((L q + 70 : Nat) : Int)) = false := by simp
         have hlib2 : decide (((L q + 70 : Nat) : Int) < (L q : Int) + 70) = false := decide_eq_false (by omega)
         clear hli hile
         go_wp2
         go_round
         case measure => have hq := HN.out; simp only [intOf]; omega
         case rel => exact ⟨q + 1, by first | rfl | go_num, by have := HN.out; omega⟩
      ·
       have hqe : q = m := by omega
       subst hqe
       have hltb : decide ((q : Int) < (q : Int)) = false := by simp
       clear hlt hqle
       go_wp2
       go_ret
       exact ⟨rfl, HP.out.st⟩
end Go.Proofs.YtiaohbbafaaibabGreatDoor.P

/- OWN TEXT: Bag.apart of each kind, where no list of it was gathered: true, and nothing is turned. -/
namespace Go.Proofs.YtiaohbbafaaibabGreatDoor.P
open Go.RowKit Go.Proofs.YtiaohbbafaaibabGreatDoorW.PrintWords Go.Proofs.YtiaohbbafaaibabGreatDoorW.PrintLast Go.Proofs.YtiaohbbafaaibabGreatDoorW.PrintMore Go.Proofs.YtiaohbbafaaibabGreatDoor.Arr
set_option linter.unusedVariables false
set_option linter.unusedSimpArgs false
set_option maxHeartbeats 8000000 in
set_option maxRecDepth 100000 in
theorem noBytes.calls (w : World) (g : Nat) (cg : Array Value) (hbag : w.heap[g]? = some (.cells cg 56 (0, 0))) (hc : cg[0]? = some (.slice none 0 0)) :
  Calls Tryz.prog 40 #[.pointer (some ⟨g, 0, none⟩)] w fun e w' => e = .returned (.bool true) ∧ w' = w := by
 have hb0 := (blk_cell hbag 0).trans hc
 clear hbag hc
 go_enter Tryz.func40, Tryz.ntmps40
 go_wp2
 go_loop [3] (fun u3 => u3 = .int .i64 0) (fun _ => 0)
 case atStart => rfl
 case round =>
  subst hrel
  go_wp2
  go_loop [6, 7] (fun u6 u7 => u6 = .slice none 0 0 ∧ u7 = .int .i64 0) (fun _ _ => 0)
  case atStart => exact ⟨rfl, rfl⟩
  case round =>
   obtain ⟨rfl, rfl⟩ := hrel
   go_wp2
   go_loop [10] (fun u10 => u10 = .int .i64 0) (fun _ => 0)
   case atStart => rfl
   case round =>
    subst hrel
    go_wp2
    go_ret
    exact ⟨rfl, rfl⟩
set_option maxHeartbeats 8000000 in
set_option maxRecDepth 100000 in
theorem noInts.calls (w : World) (g : Nat) (cg : Array Value) (hbag : w.heap[g]? = some (.cells cg 56 (0, 0))) (hc : cg[1]? = some (.slice none 0 0)) :
  Calls Tryz.prog 41 #[.pointer (some ⟨g, 0, none⟩)] w fun e w' => e = .returned (.bool true) ∧ w' = w := by
 have hb0 := (blk_cell hbag 1).trans hc
 clear hbag hc
 go_enter Tryz.func41, Tryz.ntmps41
 go_wp2
 go_loop [3] (fun u3 => u3 = .int .i64 0) (fun _ => 0)
 case atStart => rfl
 case round =>
  subst hrel
  go_wp2
  go_loop [6, 7] (fun u6 u7 => u6 = .slice none 0 0 ∧ u7 = .int .i64 0) (fun _ _ => 0)
  case atStart => exact ⟨rfl, rfl⟩
  case round =>
   obtain ⟨rfl, rfl⟩ := hrel
   go_wp2
   go_loop [10] (fun u10 => u10 = .int .i64 0) (fun _ => 0)
   case atStart => rfl
   case round =>
    subst hrel
    go_wp2
    go_ret
    exact ⟨rfl, rfl⟩
set_option maxHeartbeats 8000000 in
set_option maxRecDepth 100000 in
theorem noBools.calls (w : World) (g : Nat) (cg : Array Value) (hbag : w.heap[g]? = some (.cells cg 56 (0, 0))) (hc : cg[2]? = some (.slice none 0 0)) :
  Calls Tryz.prog 42 #[.pointer (some ⟨g, 0, none⟩)] w fun e w' => e = .returned (.bool true) ∧ w' = w := by
 have hb0 := (blk_cell hbag 2).trans hc
 clear hbag hc
 go_enter Tryz.func42, Tryz.ntmps42
 go_wp2
 go_loop [3] (fun u3 => u3 = .int .i64 0) (fun _ => 0)
 case atStart => rfl
 case round =>
  subst hrel
  go_wp2
  go_loop [6, 7] (fun u6 u7 => u6 = .slice none 0 0 ∧ u7 = .int .i64 0) (fun _ _ => 0)
  case atStart => exact ⟨rfl, rfl⟩
  case round =>
   obtain ⟨rfl, rfl⟩ := hrel
   go_wp2
   go_loop [10] (fun u10 => u10 = .int .i64 0) (fun _ => 0)
   case atStart => rfl
   case round =>
    subst hrel
    go_wp2
    go_ret
    exact ⟨rfl, rfl⟩
set_option maxHeartbeats 8000000 in
set_option maxRecDepth 100000 in
theorem noTexts.calls (w : World) (g : Nat) (cg : Array Value) (hbag : w.heap[g]? = some (.cells cg 56 (0, 0))) (hc : cg[3]? = some (.slice none 0 0)) :
  Calls Tryz.prog 43 #[.pointer (some ⟨g, 0, none⟩)] w fun e w' => e = .returned (.bool true) ∧ w' = w := by
 have hb0 := (blk_cell hbag 3).trans hc
 clear hbag hc
 go_enter Tryz.func43, Tryz.ntmps43
 go_wp2
 go_loop [3] (fun u3 => u3 = .int .i64 0) (fun _ => 0)
 case atStart => rfl
 case round =>
  subst hrel
  go_wp2
  go_loop [6, 7] (fun u6 u7 => u6 = .slice none 0 0 ∧ u7 = .int .i64 0) (fun _ _ => 0)
  case atStart => exact ⟨rfl, rfl⟩
  case round =>
   obtain ⟨rfl, rfl⟩ := hrel
   go_wp2
   go_loop [10] (fun u10 => u10 = .int .i64 0) (fun _ => 0)
   case atStart => rfl
   case round =>
    subst hrel
    go_wp2
    go_ret
    exact ⟨rfl, rfl⟩
set_option maxHeartbeats 8000000 in
set_option maxRecDepth 100000 in
theorem noLongs.calls (w : World) (g : Nat) (cg : Array Value) (hbag : w.heap[g]? = some (.cells cg 56 (0, 0))) (hc : cg[4]? = some (.slice none 0 0)) :
  Calls Tryz.prog 44 #[.pointer (some ⟨g, 0, none⟩)] w fun e w' => e = .returned (.bool true) ∧ w' = w := by
 have hb0 := (blk_cell hbag 4).trans hc
 clear hbag hc
 go_enter Tryz.func44, Tryz.ntmps44
 go_wp2
 go_loop [3] (fun u3 => u3 = .int .i64 0) (fun _ => 0)
 case atStart => rfl
 case round =>
  subst hrel
  go_wp2
  go_loop [6, 7] (fun u6 u7 => u6 = .slice none 0 0 ∧ u7 = .int .i64 0) (fun _ _ => 0)
  case atStart => exact ⟨rfl, rfl⟩
  case round =>
   obtain ⟨rfl, rfl⟩ := hrel
   go_wp2
   go_loop [10] (fun u10 => u10 = .int .i64 0) (fun _ => 0)
   case atStart => rfl
   case round =>
    subst hrel
    go_wp2
    go_ret
    exact ⟨rfl, rfl⟩
set_option maxHeartbeats 8000000 in
set_option maxRecDepth 100000 in
theorem noWords.calls (w : World) (g : Nat) (cg : Array Value) (hbag : w.heap[g]? = some (.cells cg 56 (0, 0))) (hc : cg[5]? = some (.slice none 0 0)) :
  Calls Tryz.prog 45 #[.pointer (some ⟨g, 0, none⟩)] w fun e w' => e = .returned (.bool true) ∧ w' = w := by
 have hb0 := (blk_cell hbag 5).trans hc
 clear hbag hc
 go_enter Tryz.func45, Tryz.ntmps45
 go_wp2
 go_loop [3] (fun u3 => u3 = .int .i64 0) (fun _ => 0)
 case atStart => rfl
 case round =>
  subst hrel
  go_wp2
  go_loop [6, 7] (fun u6 u7 => u6 = .slice none 0 0 ∧ u7 = .int .i64 0) (fun _ _ => 0)
  case atStart => exact ⟨rfl, rfl⟩
  case round =>
   obtain ⟨rfl, rfl⟩ := hrel
   go_wp2
   go_loop [10] (fun u10 => u10 = .int .i64 0) (fun _ => 0)
   case atStart => rfl
   case round =>
    subst hrel
    go_wp2
    go_ret
    exact ⟨rfl, rfl⟩
set_option maxHeartbeats 8000000 in
set_option maxRecDepth 100000 in
theorem noRow.calls (w : World) (g : Nat) (cg : Array Value) (hbag : w.heap[g]? = some (.cells cg 56 (0, 0))) (hc : cg[6]? = some (.slice none 0 0)) :
  Calls Tryz.prog 46 #[.pointer (some ⟨g, 0, none⟩)] w fun e w' => e = .returned (.bool true) ∧ w' = w := by
 have hb0 := (blk_cell hbag 6).trans hc
 clear hbag hc
 go_enter Tryz.func46, Tryz.ntmps46
 go_wp2
 go_loop [3] (fun u3 => u3 = .int .i64 0) (fun _ => 0)
 case atStart => rfl
 case round =>
  subst hrel
  go_wp2
  go_loop [6, 7] (fun u6 u7 => u6 = .slice none 0 0 ∧ u7 = .int .i64 0) (fun _ _ => 0)
  case atStart => exact ⟨rfl, rfl⟩
  case round =>
   obtain ⟨rfl, rfl⟩ := hrel
   go_wp2
   go_loop [10] (fun u10 => u10 = .int .i64 0) (fun _ => 0)
   case atStart => rfl
   case round =>
    subst hrel
    go_wp2
    go_ret
    exact ⟨rfl, rfl⟩
set_option maxHeartbeats 8000000 in
set_option maxRecDepth 100000 in
theorem noIns.calls (w : World) (g : Nat) (cg : Array Value) (hbag : w.heap[g]? = some (.cells cg 56 (0, 0))) (hc : cg[7]? = some (.slice none 0 0)) :
  Calls Tryz.prog 47 #[.pointer (some ⟨g, 0, none⟩)] w fun e w' => e = .returned (.bool true) ∧ w' = w := by
 have hb0 := (blk_cell hbag 7).trans hc
 clear hbag hc
 go_enter Tryz.func47, Tryz.ntmps47
 go_wp2
 go_loop [3] (fun u3 => u3 = .int .i64 0) (fun _ => 0)
 case atStart => rfl
 case round =>
  subst hrel
  go_wp2
  go_loop [6, 7] (fun u6 u7 => u6 = .slice none 0 0 ∧ u7 = .int .i64 0) (fun _ _ => 0)
  case atStart => exact ⟨rfl, rfl⟩
  case round =>
   obtain ⟨rfl, rfl⟩ := hrel
   go_wp2
   go_loop [10] (fun u10 => u10 = .int .i64 0) (fun _ => 0)
   case atStart => rfl
   case round =>
    subst hrel
    go_wp2
    go_ret
    exact ⟨rfl, rfl⟩
set_option maxHeartbeats 8000000 in
set_option maxRecDepth 100000 in
theorem noSymbols.calls (w : World) (g : Nat) (cg : Array Value) (hbag : w.heap[g]? = some (.cells cg 56 (0, 0))) (hc : cg[8]? = some (.slice none 0 0)) :
  Calls Tryz.prog 48 #[.pointer (some ⟨g, 0, none⟩)] w fun e w' => e = .returned (.bool true) ∧ w' = w := by
 have hb0 := (blk_cell hbag 8).trans hc
 clear hbag hc
 go_enter Tryz.func48, Tryz.ntmps48
 go_wp2
 go_loop [3] (fun u3 => u3 = .int .i64 0) (fun _ => 0)
 case atStart => rfl
 case round =>
  subst hrel
  go_wp2
  go_loop [6, 7] (fun u6 u7 => u6 = .slice none 0 0 ∧ u7 = .int .i64 0) (fun _ _ => 0)
  case atStart => exact ⟨rfl, rfl⟩
  case round =>
   obtain ⟨rfl, rfl⟩ := hrel
   go_wp2
   go_loop [10] (fun u10 => u10 = .int .i64 0) (fun _ => 0)
   case atStart => rfl
   case round =>
    subst hrel
    go_wp2
    go_ret
    exact ⟨rfl, rfl⟩
set_option maxHeartbeats 8000000 in
set_option maxRecDepth 100000 in
theorem noRelocs.calls (w : World) (g : Nat) (cg : Array Value) (hbag : w.heap[g]? = some (.cells cg 56 (0, 0))) (hc : cg[9]? = some (.slice none 0 0)) :
  Calls Tryz.prog 49 #[.pointer (some ⟨g, 0, none⟩)] w fun e w' => e = .returned (.bool true) ∧ w' = w := by
 have hb0 := (blk_cell hbag 9).trans hc
 clear hbag hc
 go_enter Tryz.func49, Tryz.ntmps49
 go_wp2
 go_loop [3] (fun u3 => u3 = .int .i64 0) (fun _ => 0)
 case atStart => rfl
 case round =>
  subst hrel
  go_wp2
  go_loop [6, 7] (fun u6 u7 => u6 = .slice none 0 0 ∧ u7 = .int .i64 0) (fun _ _ => 0)
  case atStart => exact ⟨rfl, rfl⟩
  case round =>
   obtain ⟨rfl, rfl⟩ := hrel
   go_wp2
   go_loop [10] (fun u10 => u10 = .int .i64 0) (fun _ => 0)
   case atStart => rfl
   case round =>
    subst hrel
    go_wp2
    go_ret
    exact ⟨rfl, rfl⟩
set_option maxHeartbeats 8000000 in
set_option maxRecDepth 100000 in
theorem noPorts.calls (w : World) (g : Nat) (cg : Array Value) (hbag : w.heap[g]? = some (.cells cg 56 (0, 0))) (hc : cg[10]? = some (.slice none 0 0)) :
  Calls Tryz.prog 50 #[.pointer (some ⟨g, 0, none⟩)] w fun e w' => e = .returned (.bool true) ∧ w' = w := by
 have hb0 := (blk_cell hbag 10).trans hc
 clear hbag hc
 go_enter Tryz.func50, Tryz.ntmps50
 go_wp2
 go_loop [3] (fun u3 => u3 = .int .i64 0) (fun _ => 0)
 case atStart => rfl
 case round =>
  subst hrel
  go_wp2
  go_loop [6, 7] (fun u6 u7 => u6 = .slice none 0 0 ∧ u7 = .int .i64 0) (fun _ _ => 0)
  case atStart => exact ⟨rfl, rfl⟩
  case round =>
   obtain ⟨rfl, rfl⟩ := hrel
   go_wp2
   go_loop [10] (fun u10 => u10 = .int .i64 0) (fun _ => 0)
   case atStart => rfl
   case round =>
    subst hrel
    go_wp2
    go_ret
    exact ⟨rfl, rfl⟩
set_option maxHeartbeats 8000000 in
set_option maxRecDepth 100000 in
theorem noBlocks.calls (w : World) (g : Nat) (cg : Array Value) (hbag : w.heap[g]? = some (.cells cg 56 (0, 0))) (hc : cg[11]? = some (.slice none 0 0)) :
  Calls Tryz.prog 51 #[.pointer (some ⟨g, 0, none⟩)] w fun e w' => e = .returned (.bool true) ∧ w' = w := by
 have hb0 := (blk_cell hbag 11).trans hc
 clear hbag hc
 go_enter Tryz.func51, Tryz.ntmps51
 go_wp2
 go_loop [3] (fun u3 => u3 = .int .i64 0) (fun _ => 0)
 case atStart => rfl
 case round =>
  subst hrel
  go_wp2
  go_loop [6, 7] (fun u6 u7 => u6 = .slice none 0 0 ∧ u7 = .int .i64 0) (fun _ _ => 0)
  case atStart => exact ⟨rfl, rfl⟩
  case round =>
   obtain ⟨rfl, rfl⟩ := hrel
   go_wp2
   go_loop [10] (fun u10 => u10 = .int .i64 0) (fun _ => 0)
   case atStart => rfl
   case round =>
    subst hrel
    go_wp2
    go_ret
    exact ⟨rfl, rfl⟩
set_option maxHeartbeats 8000000 in
set_option maxRecDepth 100000 in
theorem noSpots.calls (w : World) (g : Nat) (cg : Array Value) (hbag : w.heap[g]? = some (.cells cg 56 (0, 0))) (hc : cg[12]? = some (.slice none 0 0)) :
  Calls Tryz.prog 52 #[.pointer (some ⟨g, 0, none⟩)] w fun e w' => e = .returned (.bool true) ∧ w' = w := by
 have hb0 := (blk_cell hbag 12).trans hc
 clear hbag hc
 go_enter Tryz.func52, Tryz.ntmps52
 go_wp2
 go_loop [3] (fun u3 => u3 = .int .i64 0) (fun _ => 0)
 case atStart => rfl
 case round =>
  subst hrel
  go_wp2
  go_loop [6, 7] (fun u6 u7 => u6 = .slice none 0 0 ∧ u7 = .int .i64 0) (fun _ _ => 0)
  case atStart => exact ⟨rfl, rfl⟩
  case round =>
   obtain ⟨rfl, rfl⟩ := hrel
   go_wp2
   go_loop [10] (fun u10 => u10 = .int .i64 0) (fun _ => 0)
   case atStart => rfl
   case round =>
    subst hrel
    go_wp2
    go_ret
    exact ⟨rfl, rfl⟩
set_option maxHeartbeats 8000000 in
set_option maxRecDepth 100000 in
theorem noRows.calls (w : World) (g : Nat) (cg : Array Value) (hbag : w.heap[g]? = some (.cells cg 56 (0, 0))) (hc : cg[13]? = some (.slice none 0 0)) :
  Calls Tryz.prog 53 #[.pointer (some ⟨g, 0, none⟩)] w fun e w' => e = .returned (.bool true) ∧ w' = w := by
 have hb0 := (blk_cell hbag 13).trans hc
 clear hbag hc
 go_enter Tryz.func53, Tryz.ntmps53
 go_wp2
 go_loop [3] (fun u3 => u3 = .int .i64 0) (fun _ => 0)
 case atStart => rfl
 case round =>
  subst hrel
  go_wp2
  go_loop [6, 7] (fun u6 u7 => u6 = .slice none 0 0 ∧ u7 = .int .i64 0) (fun _ _ => 0)
  case atStart => exact ⟨rfl, rfl⟩
  case round =>
   obtain ⟨rfl, rfl⟩ := hrel
   go_wp2
   go_loop [10] (fun u10 => u10 = .int .i64 0) (fun _ => 0)
   case atStart => rfl
   case round =>
    subst hrel
    go_wp2
    go_ret
    exact ⟨rfl, rfl⟩
set_option maxHeartbeats 8000000 in
set_option maxRecDepth 100000 in
theorem noRepeats.calls (w : World) (g : Nat) (cg : Array Value) (hbag : w.heap[g]? = some (.cells cg 56 (0, 0))) (hc : cg[14]? = some (.slice none 0 0)) :
  Calls Tryz.prog 54 #[.pointer (some ⟨g, 0, none⟩)] w fun e w' => e = .returned (.bool true) ∧ w' = w := by
 have hb0 := (blk_cell hbag 14).trans hc
 clear hbag hc
 go_enter Tryz.func54, Tryz.ntmps54
 go_wp2
 go_loop [3] (fun u3 => u3 = .int .i64 0) (fun _ => 0)
 case atStart => rfl
 case round =>
  subst hrel
  go_wp2
  go_loop [6, 7] (fun u6 u7 => u6 = .slice none 0 0 ∧ u7 = .int .i64 0) (fun _ _ => 0)
  case atStart => exact ⟨rfl, rfl⟩
  case round =>
   obtain ⟨rfl, rfl⟩ := hrel
   go_wp2
   go_loop [10] (fun u10 => u10 = .int .i64 0) (fun _ => 0)
   case atStart => rfl
   case round =>
    subst hrel
    go_wp2
    go_ret
    exact ⟨rfl, rfl⟩
set_option maxHeartbeats 8000000 in
set_option maxRecDepth 100000 in
theorem noFolds.calls (w : World) (g : Nat) (cg : Array Value) (hbag : w.heap[g]? = some (.cells cg 56 (0, 0))) (hc : cg[15]? = some (.slice none 0 0)) :
  Calls Tryz.prog 55 #[.pointer (some ⟨g, 0, none⟩)] w fun e w' => e = .returned (.bool true) ∧ w' = w := by
 have hb0 := (blk_cell hbag 15).trans hc
 clear hbag hc
 go_enter Tryz.func55, Tryz.ntmps55
 go_wp2
 go_loop [3] (fun u3 => u3 = .int .i64 0) (fun _ => 0)
 case atStart => rfl
 case round =>
  subst hrel
  go_wp2
  go_loop [6, 7] (fun u6 u7 => u6 = .slice none 0 0 ∧ u7 = .int .i64 0) (fun _ _ => 0)
  case atStart => exact ⟨rfl, rfl⟩
  case round =>
   obtain ⟨rfl, rfl⟩ := hrel
   go_wp2
   go_loop [10] (fun u10 => u10 = .int .i64 0) (fun _ => 0)
   case atStart => rfl
   case round =>
    subst hrel
    go_wp2
    go_ret
    exact ⟨rfl, rfl⟩
set_option maxHeartbeats 8000000 in
set_option maxRecDepth 100000 in
theorem noObjects.calls (w : World) (g : Nat) (cg : Array Value) (hbag : w.heap[g]? = some (.cells cg 56 (0, 0))) (hc : cg[16]? = some (.slice none 0 0)) :
  Calls Tryz.prog 56 #[.pointer (some ⟨g, 0, none⟩)] w fun e w' => e = .returned (.bool true) ∧ w' = w := by
 have hb0 := (blk_cell hbag 16).trans hc
 clear hbag hc
 go_enter Tryz.func56, Tryz.ntmps56
 go_wp2
 go_loop [3] (fun u3 => u3 = .int .i64 0) (fun _ => 0)
 case atStart => rfl
 case round =>
  subst hrel
  go_wp2
  go_loop [6, 7] (fun u6 u7 => u6 = .slice none 0 0 ∧ u7 = .int .i64 0) (fun _ _ => 0)
  case atStart => exact ⟨rfl, rfl⟩
  case round =>
   obtain ⟨rfl, rfl⟩ := hrel
   go_wp2
   go_loop [10] (fun u10 => u10 = .int .i64 0) (fun _ => 0)
   case atStart => rfl
   case round =>
    subst hrel
    go_wp2
    go_ret
    exact ⟨rfl, rfl⟩
end Go.Proofs.YtiaohbbafaaibabGreatDoor.P

/- OWN TEXT: wire's reader, walked: fails, has, number, count, text, each. -/
namespace Go.Proofs.YtiaohbbafaaibabGreatDoor.P
open Go.RowKit Go.Proofs.YtiaohbbafaaibabGreatDoorW.PrintWords Go.Proofs.YtiaohbbafaaibabGreatDoorW.PrintLast Go.Proofs.YtiaohbbafaaibabGreatDoorW.PrintMore Go.Proofs.YtiaohbbafaaibabGreatDoor.Arr
set_option linter.unusedVariables false
set_option linter.unusedSimpArgs false
/-- the reader: how far it has read, and where the first fault is. -/
structure RS where
  at_ : Int
  er : Option Int
def ErV (W : World) (base : Nat) : Option Int → Value → Prop
 | none, v => v = .nilIface
 | some p, v => ∃ e, v = .iface 103 (.pointer (some ⟨e, 0, none⟩)) ∧ base ≤ e ∧ W.heap[e]? = some (.cells #[.int .i64 p] 107 (0, 0))
structure Rd (w0 W : World) (r : Nat) (A : Option Addr) (c : Nat) (l : List Int) (s : RS) : Prop where
  low : Below w0.heap.size w0 W
  blk : ∃ v, W.heap[r]? = some (.cells #[.slice A l.length c, .int .i64 s.at_, v] 97 (0, 0)) ∧ ErV W w0.heap.size s.er v
  base : w0.heap.size ≤ r
  at0 : 0 ≤ s.at_
  at1 : s.at_ ≤ (l.length : Int) + 4
  at2 : s.er = none → s.at_ ≤ (l.length : Int)
theorem grown_refl (W : World) (k : Option Nat) : W.grownBy W k := ⟨rfl, rfl, rfl, Nat.le_refl _, fun _ _ _ => rfl⟩
theorem grown_trans {W W1 W2 : World} {k : Option Nat} (h : W.grownBy W1 k) (g : W1.grownBy W2 k) : W.grownBy W2 k :=
 ⟨g.os.trans h.os, g.tape.trans h.tape, g.output.trans h.output, Nat.le_trans h.size g.size, fun q hq hn => (g.block q (Nat.lt_of_lt_of_le hq h.size) hn).trans (h.block q hq hn)⟩
theorem grown_below {W W1 : World} {k : Option Nat} (h : Below W.heap.size W W1) : W.grownBy W1 k := ⟨h.os, h.tape, h.output, h.size, fun q hq _ => h.block q hq⟩
theorem below_grown {w0 W W1 : World} {g : Nat} (h : Below w0.heap.size w0 W) (hg : w0.heap.size ≤ g) (k : W.grownBy W1 (some g)) : Below w0.heap.size w0 W1 :=
 ⟨k.os.trans h.os, k.tape.trans h.tape, k.output.trans h.output, Nat.le_trans h.size k.size, fun q hq => (k.block q (Nat.lt_of_lt_of_le hq h.size) (fun e => by have := Option.some.inj e; omega)).trans (h.block q hq)⟩
theorem ErV.grown {W W1 : World} {g base : Nat} {cs : Array Value} {x : Option Int} {v : Value} (h : ErV W base x v) (hb : W.heap[g]? = some (.cells cs 97 (0, 0))) (k : W.grownBy W1 (some g)) : ErV W1 base x v := by
 cases x with
 | none => exact h
 | some p =>
  obtain ⟨e, h1, h2, h3⟩ := h
  refine ⟨e, h1, h2, (k.block e (blk_lt h3) (fun q => ?_)).trans h3⟩
  obtain rfl := Option.some.inj q
  rw [h3] at hb
  injection hb with hb
  injection hb with _ hb _
  exact absurd hb (by decide)
theorem ErV.below {W W1 : World} {base : Nat} {x : Option Int} {v : Value} (h : ErV W base x v) (k : Below W.heap.size W W1) : ErV W1 base x v := by
 cases x with
 | none => exact h
 | some p =>
  obtain ⟨e, h1, h2, h3⟩ := h
  exact ⟨e, h1, h2, blk_below h3 k⟩
theorem Rd.below {w0 W W1 : World} {r : Nat} {A : Option Addr} {c : Nat} {l : List Int} {s : RS} (h : Rd w0 W r A c l s) (k : Below W.heap.size W W1) : Rd w0 W1 r A c l s := by
 obtain ⟨v, hb, he⟩ := h.blk
 exact ⟨below_then h.low h.low.size k, ⟨v, blk_below hb k, he.below k⟩, h.base, h.at0, h.at1, h.at2⟩
/-- the reader is left alone by what turns another block, of another type. -/
theorem Rd.other {w0 W W1 : World} {r g : Nat} {A : Option Addr} {c : Nat} {l : List Int} {s : RS} {cs : Array Value} {e : TypeId} {fz : Nat × Nat} (h : Rd w0 W r A c l s) (hb : W.heap[g]? = some (.cells cs e fz)) (h1 : e ≠ 97) (h2 : e ≠ 107) (hw : w0.heap.size ≤ g) (k : W.grownBy W1 (some g)) : Rd w0 W1 r A c l s := by
  obtain ⟨v, hr, he⟩ := h.blk
  have ne : ∀ (q : Nat) (cs' : Array Value) (e' : TypeId), W.heap[q]? = some (Obj.cells cs' e' (0, 0)) → e ≠ e' → W1.heap[q]? = W.heap[q]? := fun q cs' e' hq hn => k.block q (blk_lt hq) (fun z => by
    obtain rfl := Option.some.inj z
    rw [hq] at hb
    injection hb with hb
    injection hb with _ hb _
    exact hn hb.symm)
  refine ⟨below_grown h.low hw k, ⟨v, (ne r _ _ hr h1).trans hr, ?_⟩, h.base, h.at0, h.at1, h.at2⟩
  cases hs : s.er with
  | none => rw [hs] at he; exact he
  | some p =>
    rw [hs] at he
    obtain ⟨q, e1, e2, e3⟩ := he
    exact ⟨q, e1, e2, (ne q _ _ e3 h2).trans e3⟩
def failsR (p : Int) (s : RS) : RS := ⟨s.at_, match s.er with | none => some p | some q => some q⟩
def hasR (len n : Int) (s : RS) : RS := if len - s.at_ < n then failsR len s else s
/-- a cell of the reader's block written. -/
theorem Rd.put {w0 W : World} {r : Nat} {A : Option Addr} {c : Nat} {l : List Int} {s : RS} {v x : Value} {y : Int} {cs : Array Value} (h : Rd w0 W r A c l s) (W1 : World) (hp : Put W W1 r cs 97) (s1 : RS) (hcs : cs = #[.slice A l.length c, .int .i64 s1.at_, x]) (he : ErV W w0.heap.size s1.er x) (h0 : 0 ≤ s1.at_) (h1 : s1.at_ ≤ (l.length : Int) + 4) (h2 : s1.er = none → s1.at_ ≤ (l.length : Int)) : Rd w0 W1 r A c l s1 ∧ W.grownBy W1 (some r) := by
 obtain ⟨v0, hb, _⟩ := h.blk
 subst hcs
 exact ⟨⟨hp.below h.low h.base, ⟨x, hp.blk, he.grown hb (put_grownN hp)⟩, h.base, h0, h1, h2⟩, put_grownN hp⟩
set_option maxHeartbeats 4000000 in
set_option maxRecDepth 100000 in
theorem fails.calls (w0 W : World) (r : Nat) (A : Option Addr) (c : Nat) (l : List Int) (s : RS) (h : Rd w0 W r A c l s) (p : Int) :
  Calls Tryz.prog 57 #[.pointer (some ⟨r, 0, none⟩), .int .i64 p] W fun e w' => e = .returned (.tuple #[]) ∧ Rd w0 w' r A c l (failsR p s) ∧ W.grownBy w' (some r) := by
 have hu1 := Tryz.underlying97
 have hu2 := Tryz.underlying107
 have H := Aside0.mk h
 obtain ⟨v, hb, he⟩ := h.blk
 have hc0 := (blk_cell hb 0).trans rfl
 have hc1 := (blk_cell hb 1).trans rfl
 have hc2 := (blk_cell hb 2).trans rfl
 have hf2 := blk_frozen hb 2
 have HB := Aside0.mk hb
 obtain ⟨at_, er⟩ := s
 cases er with
 | none =>
  obtain rfl : v = .nilIface := he
  clear h hb
  go_enter Tryz.func57, Tryz.ntmps57

  go_wp2_with (first | ((with_reducible refine gate_dst (N := 12) rfl ?_); refine box_event ?hg (N := 12) ?hd (cs := #[.int .i64 p]) (t := 107) ?hr ?_; (case hd => rfl); (case hg => rfl); (case hr => first | (go_simp; done) | (go_simp; rfl)); intro e_ he_ w1 BK_ hb_; have hR := H.out.below hb_; have HR := Aside0.mk hR; have HBK := Aside0.mk BK_; have HGW := Aside0.mk (And.intro (grown_below (k := some r) hb_) (show w0.heap.size ≤ e_ by rw [he_]; exact H.out.low.size)); have HB1 := Aside0.mk (blk_below HB.out hb_); have hd0 := (blk_cell HB1.out 0).trans rfl; have hd1 := (blk_cell HB1.out 1).trans rfl; have hd2 := (blk_cell HB1.out 2).trans rfl; have hg2 := blk_frozen HB1.out 2; clear hR BK_ hb_ hc0 hc1 hc2 hf2 he_))
  refine Go.Great.bodyPost_end0 rfl rfl ?_
  have hx := HR.out.put (v := .nilIface) (y := 0) (x := .iface 103 (.pointer (some ⟨e_, 0, none⟩))) _ (put_set (j := 2) (x := .iface 103 (.pointer (some ⟨e_, 0, none⟩))) HB1.out) ⟨at_, some p⟩ rfl ⟨e_, rfl, HGW.out.2, HBK.out⟩ H.out.at0 H.out.at1 (fun e => by cases e)
  exact ⟨rfl, hx.1, grown_trans HGW.out.1 hx.2⟩
 | some q =>
  obtain ⟨e, rfl, he1, he2⟩ := he
  clear h hb
  go_enter Tryz.func57, Tryz.ntmps57
  go_wp2
  refine Go.Great.bodyPost_end0 rfl rfl ?_
  exact ⟨rfl, H.out, grown_refl W _⟩
theorem failsR_er (p : Int) (s : RS) : ∃ q, (failsR p s).er = some q := by
 unfold failsR
 cases s.er with
 | none => exact ⟨_, rfl⟩
 | some q => exact ⟨q, rfl⟩
set_option maxHeartbeats 4000000 in
set_option maxRecDepth 100000 in
theorem has.calls (w0 W : World) (r : Nat) (A : Option Addr) (c : Nat) (l : List Int) (s : RS) (h : Rd w0 W r A c l s) (n : Int) (hl : l.length ≤ 1099511627776) :
  Calls Tryz.prog 96 #[.pointer (some ⟨r, 0, none⟩), .int .i64 n] W fun e w' => e = .returned (.bool (hasR l.length n s).er.isNone) ∧ Rd w0 w' r A c l (hasR l.length n s) ∧ W.grownBy w' (some r) := by
 have hu1 := Tryz.underlying97
 have H := Aside0.mk h
 obtain ⟨v, hb, he⟩ := h.blk
 have hc0 := (blk_cell hb 0).trans rfl
 have hc1 := (blk_cell hb 1).trans rfl
 have hc2 := (blk_cell hb 2).trans rfl
 have hwr : wrap64 ((l.length : Int) - s.at_) = (l.length : Int) - s.at_ := by have := h.at0; have := h.at1; rw [wrap64_id (by omega) (by omega)]
 by_cases hlt : (l.length : Int) - s.at_ < n
 ·
  have hd : decide (wrap64 ((l.length : Int) - s.at_) < n) = true := by rw [hwr]; exact decide_eq_true hlt
  have HF := Aside0.mk (show hasR l.length n s = failsR l.length s from if_pos hlt)
  clear hlt hwr h hb he hl
  go_enter Tryz.func96, Tryz.ntmps96
  go_wp2
  go_quiet (fail)
  go_wp2_with (go_at_call 57; refine (fails.calls w0 _ r A c l s (H.out.below (pw_below_drewN (Below.refl _ _) _)) l.length).mono ?_; rintro e_ w1 ⟨rfl, hr_, hg_⟩; have HR := Aside0.mk hr_; have HG := Aside0.mk hg_; obtain ⟨v1, hb1, he1⟩ := hr_.blk; obtain ⟨q, hq⟩ := failsR_er (l.length : Int) s; rw [hq] at he1; obtain ⟨ee, rfl, _, _⟩ := he1; have HQ := Aside0.mk hq; have hd2 := (blk_cell hb1 2).trans rfl; clear hr_ hg_ hb1 hq hc0 hc1 hc2)
  go_ret
  rw [HF.out, HQ.out]
  exact ⟨rfl, HR.out, grown_trans (grown_below (pw_below_drewN (Below.refl _ _) _)) HG.out⟩
 ·
  have hd : decide (wrap64 ((l.length : Int) - s.at_) < n) = false := by rw [hwr]; exact decide_eq_false hlt
  have HF := Aside0.mk (show hasR l.length n s = s from if_neg hlt)
  clear hlt hwr h hb hl
  cases hs : s.er with
  | none =>
   rw [hs] at he
   obtain rfl : v = .nilIface := he
   have HS := Aside0.mk hs
   clear hs
   go_enter Tryz.func96, Tryz.ntmps96
   go_wp2
   go_quiet (fail)
   go_wp2
   go_ret
   rw [HF.out, HS.out]
   exact ⟨rfl, H.out.below (pw_below_drewN (Below.refl _ _) _), grown_below (pw_below_drewN (Below.refl _ _) _)⟩
  | some q =>
   rw [hs] at he
   obtain ⟨ee, rfl, _, _⟩ := he
   have HS := Aside0.mk hs
   clear hs
   go_enter Tryz.func96, Tryz.ntmps96
   go_wp2
   go_quiet (fail)
   go_wp2
   go_ret
   rw [HF.out, HS.out]
   exact ⟨rfl, H.out.below (pw_below_drewN (Below.refl _ _) _), grown_below (pw_below_drewN (Below.refl _ _) _)⟩
def beV (l : List Int) : Int := l.foldl (fun a c => a * 256 + c) 0
theorem w64_zero : wrap64 0 = 0 := by rw [wrap64_id (by omega) (by omega)]
theorem rd_getR {l : List Int} {i : Nat} (h : i < l.length) : rd l (i : Int) = l[i] := by
 unfold rd
 rw [Int.toNat_natCast, List.getD_eq_getElem?_getD, List.getElem?_eq_getElem h]
 rfl
theorem beV_snoc (l : List Int) (c : Int) : beV (l ++ [c]) = beV l * 256 + c := by
 unfold beV
 rw [List.foldl_append]
 rfl
theorem beV_take (l : List Int) (i : Nat) (h : i < l.length) : beV (l.take (i + 1)) = beV (l.take i) * 256 + rd l (i : Int) := by
 rw [List.take_succ_eq_append_getElem h, beV_snoc, rd_getR h]
theorem beV_acc (l : List Int) (h : ∀ x ∈ l, 0 ≤ x ∧ x < 256) : ∀ a k : Int, 0 ≤ a → a < k → 0 ≤ l.foldl (fun a c => a * 256 + c) a ∧ l.foldl (fun a c => a * 256 + c) a < k * 256 ^ l.length := by
 induction l with
 | nil => intro a k h0 h1; exact ⟨h0, by simpa using h1⟩
 | cons c l ih =>
  intro a k h0 h1
  have hc := h c (List.mem_cons_self ..)
  have := ih (fun x hx => h x (List.mem_cons_of_mem _ hx)) (a * 256 + c) (k * 256) (by omega) (by omega)
  refine ⟨this.1, ?_⟩
  rw [List.length_cons, Int.pow_succ, Int.mul_comm (256 ^ l.length) 256, ← Int.mul_assoc]
  exact this.2
theorem beV_range (l : List Int) (h : ∀ x ∈ l, 0 ≤ x ∧ x < 256) : 0 ≤ beV l ∧ beV l < 256 ^ l.length := by
 have := beV_acc l h 0 1 (by decide) (by decide)
 rw [Int.one_mul] at this
 exact this
theorem u64_or {s c : Int} (h0 : 0 ≤ s) (h1 : s < 256 ^ 7) (c0 : 0 ≤ c) (c1 : c < 256) : Go.bits .or .u64 (IntKind.u64.wrap (s * 256)) (IntKind.u64.wrap c) = s * 256 + c := by
 have h1' : s < 72057594037927936 := h1
 rw [show IntKind.u64.wrap (s * 256) = s * 256 by rw [IntKind.wrap_u64]; omega, show IntKind.u64.wrap c = c by rw [IntKind.wrap_u64]; omega]
 exact Go.bits_join .u64 64 (by decide) (fun n a b => by rw [IntKind.wrap_u64]; omega) 8 (s * 256) c (by omega) (by omega) (by omega) c0 (by omega) (by omega)
/-- n bytes read as a number. -/
def numR (l : List Int) (n : Nat) (s : RS) : Int × RS :=
 match s.er with
 | some _ => (0, s)
 | none => if (l.length : Int) - s.at_ < n then (0, ⟨s.at_, some (l.length : Int)⟩) else (beV ((l.take (s.at_.toNat + n)).drop s.at_.toNat), ⟨s.at_ + n, none⟩)
set_option maxHeartbeats 8000000 in
set_option maxRecDepth 100000 in
theorem num32.calls (w0 W : World) (r : Nat) (A : Option Addr) (c : Nat) (l : List Int) (s : RS) (h : Rd w0 W r A c l s) (hC : Kd.C (Kd.int .u8) w0 A l.length l) (hcc : l.length ≤ c) (hl : l.length ≤ 1099511627776) (hby : ∀ x ∈ l, 0 ≤ x ∧ x < 256) :
    Calls Tryz.prog 62 #[.pointer (some ⟨r, 0, none⟩), .int .i64 4] W fun e w' => e = .returned (.int .u32 ((numR l 4 s).1)) ∧ Rd w0 w' r A c l (numR l 4 s).2 ∧ W.grownBy w' (some r) := by
  have hu1 := Tryz.underlying97
  have hu2 := Tryz.underlying31
  have hu3 := Tryz.underlying5
  have H := Aside0.mk h
  have HL := Aside0.mk hl
  obtain ⟨v, hb, he⟩ := h.blk
  have hc0 := (blk_cell hb 0).trans rfl
  have hc1 := (blk_cell hb 1).trans rfl
  have hc2 := (blk_cell hb 2).trans rfl
  cases hs : s.er with
  | some q =>
    rw [hs] at he
    obtain ⟨ee, rfl, _, _⟩ := he
    have HS := Aside0.mk (show numR l 4 s = (0, s) by unfold numR; rw [hs])
    clear hs h hb hC hcc hby hl
    go_enter Tryz.func62, Tryz.ntmps62
    go_wp2
    go_ret
    rw [HS.out]
    exact ⟨(by first | rfl | (show Ending.returned (Value.int .i64 0) = Ending.returned (Value.int .i64 (wrap64 0)); rw [w64_zero])), H.out, grown_refl W _⟩
  | none =>
    rw [hs] at he
    obtain rfl : v = .nilIface := he
    by_cases hlt : (l.length : Int) - s.at_ < 4
    · have HF := Aside0.mk (show hasR l.length 4 s = ⟨s.at_, some (l.length : Int)⟩ by unfold hasR failsR; rw [if_pos hlt, hs])
      have HFE := Aside0.mk (show (hasR l.length 4 s).er.isNone = false by rw [HF.out]; rfl)
      have HS := Aside0.mk (show numR l 4 s = (0, ⟨s.at_, some (l.length : Int)⟩) by unfold numR; rw [hs]; exact if_pos hlt)
      clear hs h hb hC hcc hby hl hlt
      go_enter Tryz.func62, Tryz.ntmps62
      go_wp2_with (first | (go_at_call 96; refine (has.calls w0 _ r A c l s H.out 4 HL.out).mono ?_; rintro e_ w1 ⟨rfl, hr_, hg_⟩; (try rw [HF.out] at hr_); (try rw [HFE.out]); have HR := Aside0.mk hr_; have HG := Aside0.mk hg_; obtain ⟨v1, hb1, he1⟩ := hr_.blk; skip; have HB1 := Aside0.mk hb1; have hd0 := (blk_cell hb1 0).trans rfl; have hd1 := (blk_cell hb1 1).trans rfl; have hd2 := (blk_cell hb1 2).trans rfl; have hg1 := blk_frozen hb1 1; clear hr_ hg_ hb1 hc0 hc1 hc2))
      go_ret
      rw [HS.out]
      exact ⟨(by first | rfl | (show Ending.returned (Value.int .i64 0) = Ending.returned (Value.int .i64 (wrap64 0)); rw [w64_zero])), HR.out, HG.out⟩
    · have hle : s.at_ + 4 ≤ (l.length : Int) := by omega
      have HF := Aside0.mk (show hasR l.length 4 s = s by unfold hasR; rw [if_neg hlt])
      have HFE := Aside0.mk (show (hasR l.length 4 s).er.isNone = true by rw [HF.out, hs]; rfl)
      have HS := Aside0.mk (show numR l 4 s = (beV ((l.take (s.at_.toNat + 4)).drop s.at_.toNat), ⟨s.at_ + 4, none⟩) by unfold numR; rw [hs]; exact if_neg hlt)
      obtain ⟨m, hm⟩ : ∃ m : Nat, s.at_ = (m : Int) := ⟨s.at_.toNat, by have := h.at0; omega⟩
      have HM := Aside0.mk hm
      have HLE := Aside0.mk (show m + 4 ≤ l.length by omega)
      have hwv : wrap64 ((m : Int) + 4) = (m : Int) + 4 := by rw [wrap64_id (by omega) (by omega)]
      have HWV := Aside0.mk hwv
      have p1 : (m : Int) ≤ wrap64 ((m : Int) + 4) := by omega
      have p2 : wrap64 ((m : Int) + 4) ≤ (c : Int) := by omega
      have p3 : 0 ≤ wrap64 ((m : Int) + 4) := by omega
      have p0 : (0 : Int) ≤ (m : Int) := by omega
      have HC := Aside0.mk hC
      have HCC := Aside0.mk hcc
      have HBY := Aside0.mk hby
      have HSN := Aside0.mk hs
      rw [hm] at hc1
      clear hs h hb hC hcc hby hl hlt hle hwv
      go_enter Tryz.func62, Tryz.ntmps62
      go_upto_region 4 with ((go_at_call 96; refine (has.calls w0 _ r A c l s H.out 4 HL.out).mono ?_; rintro e_ w1 ⟨rfl, hr_, hg_⟩; (try rw [HF.out] at hr_); (try rw [HFE.out]); have HR := Aside0.mk hr_; have HG := Aside0.mk hg_; obtain ⟨v1, hb1, he1⟩ := hr_.blk; rw [HSN.out] at he1; obtain rfl : v1 = .nilIface := he1; rw [HM.out] at hb1; have HB1 := Aside0.mk hb1; have hd0 := (blk_cell hb1 0).trans rfl; have hd1 := (blk_cell hb1 1).trans rfl; have hd2 := (blk_cell hb1 2).trans rfl; have hg1 := blk_frozen hb1 1; clear hr_ hg_ hb1 hc0 hc1 hc2))
      go_quiet (fail)
      have HRQ := Aside0.mk (HR.out.below (pw_below_drewN (Below.refl _ _) nq))
      have HGQ := Aside0.mk (grown_trans HG.out (grown_below (k := some r) (pw_below_drewN (Below.refl _ _) nq)))
      generalize hwq : w1.drewN nq = wq at HRQ HGQ ⊢
      rw [show (wrap64 ((m : Int) + 4)).toNat - m = 4 by rw [HWV.out]; omega]
      obtain ⟨Az, hAz⟩ : ∃ Az, Az = (if c = m then A else Option.map (fun x : Addr => x.add m) A) := ⟨_, rfl⟩
      rw [← hAz]
      obtain ⟨xs, hxs⟩ : ∃ xs, xs = (l.take (m + 4)).drop m := ⟨_, rfl⟩
      have hxl : xs.length = 4 := by have := HLE.out; rw [hxs, List.length_drop, List.length_take]; omega
      have HCZ := Aside0.mk (show Kd.C (Kd.int .u8) w0 Az 4 xs by
        have hz := Kd.C_mid HC.out (show m ≤ m + 4 by omega) HLE.out HCC.out
        rw [← hxs, hxl, show m * (Kd.int IntKind.u8).sz = m from Nat.mul_one m, ← hAz] at hz
        exact hz)
      have HXB := Aside0.mk (show ∀ x ∈ xs, 0 ≤ x ∧ x < 256 by intro x hx; rw [hxs] at hx; exact HBY.out x (List.mem_of_mem_take (List.mem_of_mem_drop hx)))
      have HXL := Aside0.mk hxl
      have HXS := Aside0.mk hxs
      have HBQ := Aside0.mk (show Below w1.heap.size w1 wq by rw [← hwq]; exact pw_below_drewN (Below.refl _ _) nq)
      clear hAz hxs hxl hwq HC HBY HCC
      go_wp2
      go_loopw [5, 35] (fun u5 u35 wr => ∃ i : Nat, u35 = .int .i64 (i : Int) ∧ i ≤ 4 ∧ u5 = .int .u64 (beV (xs.take i)) ∧ wr = wq) (fun _ u35 _ => 4 - (intOf u35).toNat)
      case atStart => exact ⟨0, rfl, by omega, rfl, rfl⟩
      case round =>
        obtain ⟨i, rfl, hile, rfl, rfl⟩ := hrel
        by_cases hlt : i < 4
        · have p0 : (0 : Int) ≤ (i : Int) := by omega
          have q0 : (i : Int) < (4 : Int) := by omega
          obtain ⟨ad, e0, h0⟩ := Kd.at_int HCZ.out (i : Int) p0 (by omega)
          subst e0
          rw [show ((i : Int)).toNat = i by omega] at h0
          replace h0 := pw_cell_below HRQ.out.low h0
          obtain ⟨cb, hcb⟩ : ∃ cb, cb = rd xs (i : Int) := ⟨_, rfl⟩
          obtain ⟨sb, hsb⟩ : ∃ sb, sb = beV (xs.take i) := ⟨_, rfl⟩
          rw [← hcb] at h0
          rw [← hsb]
          have HSB := Aside0.mk (And.intro hcb hsb)
          have hltb : decide ((i : Int) < (4 : Int)) = true := decide_eq_true q0
          have HLT := Aside0.mk hlt
          have HST := Aside0.mk (beV_take xs i (by have := HXL.out; omega))
          have HRG := Aside0.mk (beV_range (xs.take i) (fun x hx => HXB.out x (List.mem_of_mem_take hx)))
          have HTL := Aside0.mk (show (xs.take i).length ≤ 3 by rw [List.length_take]; omega)
          have HCB := Aside0.mk (show 0 ≤ cb ∧ cb < 256 by rw [hcb, rd_getR (by have := HXL.out; omega)]; exact HXB.out _ (List.getElem_mem _))
          clear hcb hsb
          clear hlt hile
          go_wp2
          go_roundw
          case measure => have hq := HLT.out; simp only [intOf]; omega
          case rel =>
            refine ⟨i + 1, rfl, by have := HLT.out; omega, ?_, by first | trivial | rfl⟩
            rw [HST.out, ← HSB.out.1, ← HSB.out.2]
            have h1 := HRG.out; rw [← HSB.out.2] at h1
            have h2 : sb < 256 ^ 7 := Int.lt_of_lt_of_le h1.2 (by have h3 := Nat.pow_le_pow_right (n := 256) (by decide) (show (xs.take i).length ≤ 7 from Nat.le_trans HTL.out (by decide)); exact_mod_cast h3)
            have h3 := HCB.out
            rw [u64_or h1.1 (by omega) h3.1 h3.2]
        · have hi0 : i = 4 := by omega
          subst hi0
          have hltb : decide (((4 : Nat) : Int) < (4 : Int)) = false := by simp
          clear hlt hile
          rw [show xs.take 4 = xs from by rw [← HXL.out]; exact List.take_length]
          have HRG := Aside0.mk (beV_range xs HXB.out)
          obtain ⟨sb, hsb⟩ : ∃ sb, sb = beV xs := ⟨_, rfl⟩
          rw [← hsb]
          have HSB := Aside0.mk hsb
          clear hsb
          have HB2 := Aside0.mk (show _ = some _ from blk_below HB1.out (show Below w1.heap.size w1 wr from HBQ.out))
          have hd0 := (blk_cell HB2.out 0).trans rfl
          have hd1 := (blk_cell HB2.out 1).trans rfl
          have hd2 := (blk_cell HB2.out 2).trans rfl
          have hg1 := blk_frozen HB2.out 1
          go_wp2
          go_ret
          have hx := HRQ.out.put (v := .nilIface) (y := 0) (x := .nilIface) _ (put_set (j := 1) (x := .int .i64 (wrap64 ((m : Int) + 4))) HB2.out) ⟨s.at_ + 4, none⟩ (by rw [HWV.out, HM.out]; rfl) rfl (by have := HRQ.out.at0; show 0 ≤ s.at_ + 4; omega) (by have := HLE.out; have := HM.out; show s.at_ + 4 ≤ _; omega) (fun _ => by have := HLE.out; have := HM.out; show s.at_ + 4 ≤ _; omega)
          rw [HS.out]
          refine ⟨?_, hx.1, grown_trans HGQ.out hx.2⟩
          rw [HM.out, Int.toNat_natCast, ← HXS.out, ← HSB.out]
          show Ending.returned (Value.int .u32 (sb % 4294967296)) = Ending.returned (Value.int .u32 sb)
          have h1 := HRG.out
          rw [HXL.out, ← HSB.out] at h1
          rw [show sb % 4294967296 = sb by omega]
set_option maxHeartbeats 8000000 in
set_option maxRecDepth 100000 in
theorem num64.calls (w0 W : World) (r : Nat) (A : Option Addr) (c : Nat) (l : List Int) (s : RS) (h : Rd w0 W r A c l s) (hC : Kd.C (Kd.int .u8) w0 A l.length l) (hcc : l.length ≤ c) (hl : l.length ≤ 1099511627776) (hby : ∀ x ∈ l, 0 ≤ x ∧ x < 256) :
    Calls Tryz.prog 64 #[.pointer (some ⟨r, 0, none⟩), .int .i64 8] W fun e w' => e = .returned (.int .i64 (wrap64 (numR l 8 s).1)) ∧ Rd w0 w' r A c l (numR l 8 s).2 ∧ W.grownBy w' (some r) := by
  have hu1 := Tryz.underlying97
  have hu2 := Tryz.underlying31
  have hu3 := Tryz.underlying5
  have H := Aside0.mk h
  have HL := Aside0.mk hl
  obtain ⟨v, hb, he⟩ := h.blk
  have hc0 := (blk_cell hb 0).trans rfl
  have hc1 := (blk_cell hb 1).trans rfl
  have hc2 := (blk_cell hb 2).trans rfl
  cases hs : s.er with
  | some q =>
    rw [hs] at he
    obtain ⟨ee, rfl, _, _⟩ := he
    have HS := Aside0.mk (show numR l 8 s = (0, s) by unfold numR; rw [hs])
    clear hs h hb hC hcc hby hl
    go_enter Tryz.func64, Tryz.ntmps64
    go_wp2
    go_ret
    rw [HS.out]
    exact ⟨(by first | rfl | (show Ending.returned (Value.int .i64 0) = Ending.returned (Value.int .i64 (wrap64 0)); rw [w64_zero])), H.out, grown_refl W _⟩
  | none =>
    rw [hs] at he
    obtain rfl : v = .nilIface := he
    by_cases hlt : (l.length : Int) - s.at_ < 8
    · have HF := Aside0.mk (show hasR l.length 8 s = ⟨s.at_, some (l.length : Int)⟩ by unfold hasR failsR; rw [if_pos hlt, hs])
      have HFE := Aside0.mk (show (hasR l.length 8 s).er.isNone = false by rw [HF.out]; rfl)
      have HS := Aside0.mk (show numR l 8 s = (0, ⟨s.at_, some (l.length : Int)⟩) by unfold numR; rw [hs]; exact if_pos hlt)
      clear hs h hb hC hcc hby hl hlt
      go_enter Tryz.func64, Tryz.ntmps64
      go_wp2_with (first | (go_at_call 96; refine (has.calls w0 _ r A c l s H.out 8 HL.out).mono ?_; rintro e_ w1 ⟨rfl, hr_, hg_⟩; (try rw [HF.out] at hr_); (try rw [HFE.out]); have HR := Aside0.mk hr_; have HG := Aside0.mk hg_; obtain ⟨v1, hb1, he1⟩ := hr_.blk; skip; have HB1 := Aside0.mk hb1; have hd0 := (blk_cell hb1 0).trans rfl; have hd1 := (blk_cell hb1 1).trans rfl; have hd2 := (blk_cell hb1 2).trans rfl; have hg1 := blk_frozen hb1 1; clear hr_ hg_ hb1 hc0 hc1 hc2))
      go_ret
      rw [HS.out]
      exact ⟨(by first | rfl | (show Ending.returned (Value.int .i64 0) = Ending.returned (Value.int .i64 (wrap64 0)); rw [w64_zero])), HR.out, HG.out⟩
    · have hle : s.at_ + 8 ≤ (l.length : Int) := by omega
      have HF := Aside0.mk (show hasR l.length 8 s = s by unfold hasR; rw [if_neg hlt])
      have HFE := Aside0.mk (show (hasR l.length 8 s).er.isNone = true by rw [HF.out, hs]; rfl)
      have HS := Aside0.mk (show numR l 8 s = (beV ((l.take (s.at_.toNat + 8)).drop s.at_.toNat), ⟨s.at_ + 8, none⟩) by unfold numR; rw [hs]; exact if_neg hlt)
      obtain ⟨m, hm⟩ : ∃ m : Nat, s.at_ = (m : Int) := ⟨s.at_.toNat, by have := h.at0; omega⟩
      have HM := Aside0.mk hm
      have HLE := Aside0.mk (show m + 8 ≤ l.length by omega)
      have hwv : wrap64 ((m : Int) + 8) = (m : Int) + 8 := by rw [wrap64_id (by omega) (by omega)]
      have HWV := Aside0.mk hwv
      have p1 : (m : Int) ≤ wrap64 ((m : Int) + 8) := by omega
      have p2 : wrap64 ((m : Int) + 8) ≤ (c : Int) := by omega
      have p3 : 0 ≤ wrap64 ((m : Int) + 8) := by omega
      have p0 : (0 : Int) ≤ (m : Int) := by omega
      have HC := Aside0.mk hC
      have HCC := Aside0.mk hcc
      have HBY := Aside0.mk hby
      have HSN := Aside0.mk hs
      rw [hm] at hc1
      clear hs h hb hC hcc hby hl hlt hle hwv
      go_enter Tryz.func64, Tryz.ntmps64
      go_upto_region 4 with ((go_at_call 96; refine (has.calls w0 _ r A c l s H.out 8 HL.out).mono ?_; rintro e_ w1 ⟨rfl, hr_, hg_⟩; (try rw [HF.out] at hr_); (try rw [HFE.out]); have HR := Aside0.mk hr_; have HG := Aside0.mk hg_; obtain ⟨v1, hb1, he1⟩ := hr_.blk; rw [HSN.out] at he1; obtain rfl : v1 = .nilIface := he1; rw [HM.out] at hb1; have HB1 := Aside0.mk hb1; have hd0 := (blk_cell hb1 0).trans rfl; have hd1 := (blk_cell hb1 1).trans rfl; have hd2 := (blk_cell hb1 2).trans rfl; have hg1 := blk_frozen hb1 1; clear hr_ hg_ hb1 hc0 hc1 hc2))
      go_quiet (fail)
      have HRQ := Aside0.mk (HR.out.below (pw_below_drewN (Below.refl _ _) nq))
      have HGQ := Aside0.mk (grown_trans HG.out (grown_below (k := some r) (pw_below_drewN (Below.refl _ _) nq)))
      generalize hwq : w1.drewN nq = wq at HRQ HGQ ⊢
      rw [show (wrap64 ((m : Int) + 8)).toNat - m = 8 by rw [HWV.out]; omega]
      obtain ⟨Az, hAz⟩ : ∃ Az, Az = (if c = m then A else Option.map (fun x : Addr => x.add m) A) := ⟨_, rfl⟩
      rw [← hAz]
      obtain ⟨xs, hxs⟩ : ∃ xs, xs = (l.take (m + 8)).drop m := ⟨_, rfl⟩
      have hxl : xs.length = 8 := by have := HLE.out; rw [hxs, List.length_drop, List.length_take]; omega
      have HCZ := Aside0.mk (show Kd.C (Kd.int .u8) w0 Az 8 xs by
        have hz := Kd.C_mid HC.out (show m ≤ m + 8 by omega) HLE.out HCC.out
        rw [← hxs, hxl, show m * (Kd.int IntKind.u8).sz = m from Nat.mul_one m, ← hAz] at hz
        exact hz)
      have HXB := Aside0.mk (show ∀ x ∈ xs, 0 ≤ x ∧ x < 256 by intro x hx; rw [hxs] at hx; exact HBY.out x (List.mem_of_mem_take (List.mem_of_mem_drop hx)))
      have HXL := Aside0.mk hxl
      have HXS := Aside0.mk hxs
      have HBQ := Aside0.mk (show Below w1.heap.size w1 wq by rw [← hwq]; exact pw_below_drewN (Below.refl _ _) nq)
      clear hAz hxs hxl hwq HC HBY HCC
      go_wp2
      go_loopw [5, 35] (fun u5 u35 wr => ∃ i : Nat, u35 = .int .i64 (i : Int) ∧ i ≤ 8 ∧ u5 = .int .u64 (beV (xs.take i)) ∧ wr = wq) (fun _ u35 _ => 8 - (intOf u35).toNat)
      case atStart => exact ⟨0, rfl, by omega, rfl, rfl⟩
      case round =>
        obtain ⟨i, rfl, hile, rfl, rfl⟩ := hrel
        by_cases hlt : i < 8
        · have p0 : (0 : Int) ≤ (i : Int) := by omega
          have q0 : (i : Int) < (8 : Int) := by omega
          obtain ⟨ad, e0, h0⟩ := Kd.at_int HCZ.out (i : Int) p0 (by omega)
          subst e0
          rw [show ((i : Int)).toNat = i by omega] at h0
          replace h0 := pw_cell_below HRQ.out.low h0
          obtain ⟨cb, hcb⟩ : ∃ cb, cb = rd xs (i : Int) := ⟨_, rfl⟩
          obtain ⟨sb, hsb⟩ : ∃ sb, sb = beV (xs.take i) := ⟨_, rfl⟩
          rw [← hcb] at h0
          rw [← hsb]
          have HSB := Aside0.mk (And.intro hcb hsb)
          have hltb : decide ((i : Int) < (8 : Int)) = true := decide_eq_true q0
          have HLT := Aside0.mk hlt
          have HST := Aside0.mk (beV_take xs i (by have := HXL.out; omega))
          have HRG := Aside0.mk (beV_range (xs.take i) (fun x hx => HXB.out x (List.mem_of_mem_take hx)))
          have HTL := Aside0.mk (show (xs.take i).length ≤ 7 by rw [List.length_take]; omega)
          have HCB := Aside0.mk (show 0 ≤ cb ∧ cb < 256 by rw [hcb, rd_getR (by have := HXL.out; omega)]; exact HXB.out _ (List.getElem_mem _))
          clear hcb hsb
          clear hlt hile
          go_wp2
          go_roundw
          case measure => have hq := HLT.out; simp only [intOf]; omega
          case rel =>
            refine ⟨i + 1, rfl, by have := HLT.out; omega, ?_, by first | trivial | rfl⟩
            rw [HST.out, ← HSB.out.1, ← HSB.out.2]
            have h1 := HRG.out; rw [← HSB.out.2] at h1
            have h2 : sb < 256 ^ 7 := Int.lt_of_lt_of_le h1.2 (by have h3 := Nat.pow_le_pow_right (n := 256) (by decide) (show (xs.take i).length ≤ 7 from Nat.le_trans HTL.out (by decide)); exact_mod_cast h3)
            have h3 := HCB.out
            rw [u64_or h1.1 (by omega) h3.1 h3.2]
        · have hi0 : i = 8 := by omega
          subst hi0
          have hltb : decide (((8 : Nat) : Int) < (8 : Int)) = false := by simp
          clear hlt hile
          rw [show xs.take 8 = xs from by rw [← HXL.out]; exact List.take_length]
          have HRG := Aside0.mk (beV_range xs HXB.out)
          obtain ⟨sb, hsb⟩ : ∃ sb, sb = beV xs := ⟨_, rfl⟩
          rw [← hsb]
          have HSB := Aside0.mk hsb
          clear hsb
          have HB2 := Aside0.mk (show _ = some _ from blk_below HB1.out (show Below w1.heap.size w1 wr from HBQ.out))
          have hd0 := (blk_cell HB2.out 0).trans rfl
          have hd1 := (blk_cell HB2.out 1).trans rfl
          have hd2 := (blk_cell HB2.out 2).trans rfl
          have hg1 := blk_frozen HB2.out 1
          go_wp2
          go_ret
          have hx := HRQ.out.put (v := .nilIface) (y := 0) (x := .nilIface) _ (put_set (j := 1) (x := .int .i64 (wrap64 ((m : Int) + 8))) HB2.out) ⟨s.at_ + 8, none⟩ (by rw [HWV.out, HM.out]; rfl) rfl (by have := HRQ.out.at0; show 0 ≤ s.at_ + 8; omega) (by have := HLE.out; have := HM.out; show s.at_ + 8 ≤ _; omega) (fun _ => by have := HLE.out; have := HM.out; show s.at_ + 8 ≤ _; omega)
          rw [HS.out]
          refine ⟨?_, hx.1, grown_trans HGQ.out hx.2⟩
          rw [HM.out, Int.toNat_natCast, ← HXS.out, ← HSB.out]
          first | rfl | (rw [← i64_w]; rfl)
theorem numR_range (l : List Int) (n : Nat) (s : RS) (hby : ∀ x ∈ l, 0 ≤ x ∧ x < 256) : 0 ≤ (numR l n s).1 ∧ (numR l n s).1 < 256 ^ n := by
 have hp : (0 : Int) < 256 ^ n := Int.pow_pos (by decide)
 unfold numR
 cases s.er with
 | some q => exact ⟨Int.le_refl _, hp⟩
 | none =>
  by_cases hlt : (l.length : Int) - s.at_ < n
  ·
   show 0 ≤ (if (l.length : Int) - s.at_ < n then ((0 : Int), _) else _ : Int × RS).1 ∧ (if (l.length : Int) - s.at_ < n then ((0 : Int), _) else _ : Int × RS).1 < _
   rw [if_pos hlt]
   exact ⟨Int.le_refl _, hp⟩
  ·
   show 0 ≤ (if (l.length : Int) - s.at_ < n then ((0 : Int), _) else _ : Int × RS).1 ∧ (if (l.length : Int) - s.at_ < n then ((0 : Int), _) else _ : Int × RS).1 < _
   rw [if_neg hlt]
   have h1 := beV_range ((l.take (s.at_.toNat + n)).drop s.at_.toNat) (fun x hx => hby x (List.mem_of_mem_take (List.mem_of_mem_drop hx)))
   refine ⟨h1.1, Int.lt_of_lt_of_le h1.2 ?_⟩
   have h3 := Nat.pow_le_pow_right (n := 256) (by decide) (show ((l.take (s.at_.toNat + n)).drop s.at_.toNat).length ≤ n by rw [List.length_drop, List.length_take]; omega)
   rw [show (256 : Int) = ((256 : Nat) : Int) from rfl, ← Int.natCast_pow, ← Int.natCast_pow]
   exact Int.ofNat_le.2 h3
def countR (l : List Int) (lim : Int) (s : RS) : Int × RS :=
 if (numR l 4 s).1 > lim then (0, failsR s.at_ (numR l 4 s).2) else match (numR l 4 s).2.er with | none => ((numR l 4 s).1, (numR l 4 s).2) | some _ => (0, (numR l 4 s).2)
set_option maxHeartbeats 8000000 in
set_option maxRecDepth 100000 in
theorem count.calls (w0 W : World) (r : Nat) (A : Option Addr) (c : Nat) (l : List Int) (s : RS) (h : Rd w0 W r A c l s) (hC : Kd.C (Kd.int .u8) w0 A l.length l) (hcc : l.length ≤ c) (hl : l.length ≤ 1099511627776) (hby : ∀ x ∈ l, 0 ≤ x ∧ x < 256) (lim : Int) :
  Calls Tryz.prog 60 #[.pointer (some ⟨r, 0, none⟩), .int .i64 lim] W fun e w' => e = .returned (.int .i64 (countR l lim s).1) ∧ Rd w0 w' r A c l (countR l lim s).2 ∧ W.grownBy w' (some r) := by
 have hu1 := Tryz.underlying97
 have H := Aside0.mk h
 have HH := Aside0.mk (And.intro hC (And.intro hcc (And.intro hl hby)))
 obtain ⟨v, hb, he⟩ := h.blk
 have hc0 := (blk_cell hb 0).trans rfl
 have hc1 := (blk_cell hb 1).trans rfl
 have hc2 := (blk_cell hb 2).trans rfl
 have hrg := numR_range l 4 s hby
 clear h hb he hC hcc hl hby
 obtain ⟨nv, hnv⟩ : ∃ nv, nv = (numR l 4 s).1 := ⟨_, rfl⟩
 obtain ⟨s1, hs1⟩ : ∃ s1, s1 = (numR l 4 s).2 := ⟨_, rfl⟩
 have HN := Aside0.mk hnv
 have HS := Aside0.mk hs1
 rw [← hnv] at hrg
 have h256 : (256 : Int) ^ 4 = 4294967296 := by decide
 rw [h256] at hrg
 have hwr : wrap64 nv = nv := by rw [wrap64_id (by omega) (by omega)]
 have HWR := Aside0.mk hwr
 by_cases hgt : nv > lim
 ·
  have hd : decide (wrap64 nv > lim) = true := by rw [hwr]; exact decide_eq_true hgt
  have HF := Aside0.mk (show countR l lim s = (0, failsR s.at_ s1) by unfold countR; rw [← hnv, ← hs1, if_pos hgt])
  clear hgt hwr hrg hnv hs1 h256
  go_enter Tryz.func60, Tryz.ntmps60
  go_wp2_with (first | (go_at_call 62; refine (num32.calls w0 _ r A c l s H.out HH.out.1 HH.out.2.1 HH.out.2.2.1 HH.out.2.2.2).mono ?_; rw [← HN.out, ← HS.out]; rintro e_ w1 ⟨rfl, hr_, hg_⟩; have HR := Aside0.mk hr_; have HG := Aside0.mk hg_; obtain ⟨v1, hb1, he1⟩ := hr_.blk; skip; have hd0 := (blk_cell hb1 0).trans rfl; have hd1 := (blk_cell hb1 1).trans rfl; have hd2 := (blk_cell hb1 2).trans rfl; have hg1 := blk_frozen hb1 1; have HB1 := Aside0.mk hb1; clear hr_ hg_ hb1 hc0 hc1 hc2) | (go_at_call 57; refine (fails.calls w0 _ r A c l s1 HR.out s.at_).mono ?_; rintro e_ w2 ⟨rfl, hr_, hg_⟩; have HR2 := Aside0.mk hr_; have HG2 := Aside0.mk hg_; obtain ⟨v2, hb2, he2⟩ := hr_.blk; obtain ⟨q, hq⟩ := failsR_er s.at_ s1; rw [hq] at he2; obtain ⟨ee, rfl, _, _⟩ := he2; have hz2 := (blk_cell hb2 2).trans rfl; clear hr_ hg_ hb2 hq hd0 hd1 hd2))
  go_ret
  rw [HF.out]
  exact ⟨rfl, HR2.out, grown_trans HG.out HG2.out⟩
 ·
  have hd : decide (wrap64 nv > lim) = false := by rw [hwr]; exact decide_eq_false hgt
  cases he1s : s1.er with
  | none =>
   have HE1 := Aside0.mk he1s
   have HF := Aside0.mk (show countR l lim s = (nv, s1) by unfold countR; rw [← hnv, ← hs1, if_neg hgt, he1s])
   clear hgt hwr hrg hnv hs1 h256 he1s
   go_enter Tryz.func60, Tryz.ntmps60
   go_wp2_with (first | (go_at_call 62; refine (num32.calls w0 _ r A c l s H.out HH.out.1 HH.out.2.1 HH.out.2.2.1 HH.out.2.2.2).mono ?_; rw [← HN.out, ← HS.out]; rintro e_ w1 ⟨rfl, hr_, hg_⟩; have HR := Aside0.mk hr_; have HG := Aside0.mk hg_; obtain ⟨v1, hb1, he1⟩ := hr_.blk; rw [HE1.out] at he1; obtain rfl : v1 = .nilIface := he1; have hd0 := (blk_cell hb1 0).trans rfl; have hd1 := (blk_cell hb1 1).trans rfl; have hd2 := (blk_cell hb1 2).trans rfl; have hg1 := blk_frozen hb1 1; have HB1 := Aside0.mk hb1; clear hr_ hg_ hb1 hc0 hc1 hc2))
   go_ret
   rw [HF.out]
   refine ⟨?_, HR.out, HG.out⟩
   show Ending.returned (Value.int .i64 (wrap64 nv)) = Ending.returned (Value.int .i64 nv)
   rw [HWR.out]
  | some q =>
   have HE1 := Aside0.mk he1s
   have HF := Aside0.mk (show countR l lim s = (0, s1) by unfold countR; rw [← hnv, ← hs1, if_neg hgt, he1s])
   clear hgt hwr hrg hnv hs1 h256 he1s
   go_enter Tryz.func60, Tryz.ntmps60
   go_wp2_with (first | (go_at_call 62; refine (num32.calls w0 _ r A c l s H.out HH.out.1 HH.out.2.1 HH.out.2.2.1 HH.out.2.2.2).mono ?_; rw [← HN.out, ← HS.out]; rintro e_ w1 ⟨rfl, hr_, hg_⟩; have HR := Aside0.mk hr_; have HG := Aside0.mk hg_; obtain ⟨v1, hb1, he1⟩ := hr_.blk; rw [HE1.out] at he1; obtain ⟨ee, rfl, _, _⟩ := he1; have hd0 := (blk_cell hb1 0).trans rfl; have hd1 := (blk_cell hb1 1).trans rfl; have hd2 := (blk_cell hb1 2).trans rfl; have hg1 := blk_frozen hb1 1; have HB1 := Aside0.mk hb1; clear hr_ hg_ hb1 hc0 hc1 hc2))
   go_ret
   rw [HF.out]
   exact ⟨rfl, HR.out, HG.out⟩
end Go.Proofs.YtiaohbbafaaibabGreatDoor.P

/- OWN TEXT: wire's reader, walked: text, each. -/
namespace Go.Proofs.YtiaohbbafaaibabGreatDoor.P
open Go.RowKit Go.Proofs.YtiaohbbafaaibabGreatDoorW.PrintWords Go.Proofs.YtiaohbbafaaibabGreatDoorW.PrintLast Go.Proofs.YtiaohbbafaaibabGreatDoorW.PrintMore Go.Proofs.YtiaohbbafaaibabGreatDoor.Arr
set_option linter.unusedVariables false
set_option linter.unusedSimpArgs false
theorem conv_str {w : World} {A : Option Addr} {xs : List Int} {n c : Nat} (hC : Kd.C (Kd.int .u8) w A n xs) (hn : xs.length = n) : (convert 31 9 (.slice A n c)).run Tryz.prog w = .ok (.string (strOfNums xs)) w := by
  subst hn
  cases A with
  | none =>
    have h0 : xs = [] := by
      cases xs with
      | nil => rfl
      | cons x xs =>
        obtain ⟨ad, e, _⟩ := Kd.at_int hC 0 (by omega) (show (0 : Int) < ((x :: xs).length : Int) by simp only [List.length_cons]; omega)
        cases e
    subst h0
    exact run_convert_bytes_nil w 31 5 Tryz.underlying31 Tryz.underlying5 _ c 9 Tryz.underlying9
  | some ad =>
    rw [run_convert_bytes_string w 31 9 5 (some ad) xs.length c Tryz.underlying31 Tryz.underlying5 Tryz.underlying9]
    have hl : (loadCells ad xs.length).run Tryz.prog w = .ok (xs.map (Value.int .u8)).toArray w := by
      have := run_loadCells_list (P := Tryz.prog) w ad (xs.map (Value.int .u8)) (fun j v hj => by
        have hjl : j < xs.length := by
          have := (List.getElem?_eq_some_iff.1 hj).1
          simpa using this
        obtain ⟨ad', e, hx⟩ := Kd.at_int hC (j : Int) (by omega) (by omega)
        obtain rfl := Option.some.inj e
        rw [Int.toNat_natCast, rd_getR hjl] at hx
        rw [hx]
        simp [List.getElem?_eq_getElem hjl] at hj
        rw [hj])
      simpa using this
    rw [run_bytesToString w ad xs.length c xs hl, foldl_push_bytes]
    simp [strOfNums, ByteArray.empty, ByteArray.emptyWithCapacity]
    rfl
theorem countR_range (l : List Int) (lim : Int) (s : RS) (hby : ∀ x ∈ l, 0 ≤ x ∧ x < 256) (h0 : 0 ≤ lim) : 0 ≤ (countR l lim s).1 ∧ (countR l lim s).1 ≤ lim := by
 unfold countR
 by_cases hgt : (numR l 4 s).1 > lim
 ·
  rw [if_pos hgt]
  exact ⟨Int.le_refl _, h0⟩
 ·
  rw [if_neg hgt]
  cases (numR l 4 s).2.er with
  | none => exact ⟨(numR_range l 4 s hby).1, by show (numR l 4 s).1 ≤ lim; omega⟩
  | some q => exact ⟨Int.le_refl _, h0⟩
/-- a text read: its length, then its bytes. -/
def textR (l : List Int) (s : RS) : ByteArray × RS :=
 match (hasR l.length (countR l 24 s).1 (countR l 24 s).2).er with
 | some _ => (⟨#[]⟩, hasR l.length (countR l 24 s).1 (countR l 24 s).2)
 | none => (strOfNums ((l.take ((countR l 24 s).2.at_.toNat + (countR l 24 s).1.toNat)).drop (countR l 24 s).2.at_.toNat), ⟨(countR l 24 s).2.at_ + (countR l 24 s).1, none⟩)
set_option maxHeartbeats 8000000 in
set_option maxRecDepth 100000 in
theorem rtext.calls (w0 W : World) (r : Nat) (A : Option Addr) (c : Nat) (l : List Int) (s : RS) (h : Rd w0 W r A c l s) (hC : Kd.C (Kd.int .u8) w0 A l.length l) (hcc : l.length ≤ c) (hl : l.length ≤ 1099511627776) (hby : ∀ x ∈ l, 0 ≤ x ∧ x < 256) :
  Calls Tryz.prog 58 #[.pointer (some ⟨r, 0, none⟩)] W fun e w' => e = .returned (.string (textR l s).1) ∧ Rd w0 w' r A c l (textR l s).2 ∧ W.grownBy w' (some r) := by
 have hu1 := Tryz.underlying97
 have hu2 := Tryz.underlying31
 have hu3 := Tryz.underlying5
 have hu4 := Tryz.underlying9
 have H := Aside0.mk h
 have HH := Aside0.mk (And.intro hC (And.intro hcc (And.intro hl hby)))
 obtain ⟨v, hb, he⟩ := h.blk
 have hrg := countR_range l 24 s hby (by decide)
 clear h hb he hC hcc hl hby
 obtain ⟨nv, hnv⟩ : ∃ nv, nv = (countR l 24 s).1 := ⟨_, rfl⟩
 obtain ⟨s1, hs1⟩ : ∃ s1, s1 = (countR l 24 s).2 := ⟨_, rfl⟩
 have HN := Aside0.mk hnv
 have HS := Aside0.mk hs1
 rw [← hnv] at hrg
 have HRG := Aside0.mk hrg
 clear hrg
 cases hh : (hasR l.length nv s1).er with
 | some q =>
  have HF := Aside0.mk (show textR l s = (⟨#[]⟩, hasR l.length nv s1) by unfold textR; rw [← hnv, ← hs1, hh])
  have HB := Aside0.mk (show (hasR l.length nv s1).er.isNone = false by rw [hh]; rfl)
  clear hnv hs1 hh
  go_enter Tryz.func58, Tryz.ntmps58
  go_wp2_with (first | (go_at_call 60; refine (count.calls w0 _ r A c l s H.out HH.out.1 HH.out.2.1 HH.out.2.2.1 HH.out.2.2.2 24).mono ?_; rw [← HN.out, ← HS.out]; rintro e_ w1 ⟨rfl, hr_, hg_⟩; have HR := Aside0.mk hr_; have HG := Aside0.mk hg_; clear hr_ hg_) | (go_at_call 96; refine (has.calls w0 _ r A c l s1 HR.out nv HH.out.2.2.1).mono ?_; rw [HB.out]; rintro e_ w2 ⟨rfl, hr_, hg_⟩; have HR2 := Aside0.mk hr_; have HG2 := Aside0.mk (grown_trans HG.out hg_); clear hr_ hg_))
  go_ret
  rw [HF.out]
  exact ⟨rfl, HR2.out, HG2.out⟩
 | none =>
  have hge : ¬ ((l.length : Int) - s1.at_ < nv) := fun h => by
   unfold hasR at hh
   rw [if_pos h] at hh
   obtain ⟨q, hq⟩ := failsR_er (l.length : Int) s1
   rw [hq] at hh
   cases hh
  have hhs : hasR l.length nv s1 = s1 := if_neg hge
  have HF := Aside0.mk (show textR l s = (strOfNums ((l.take (s1.at_.toNat + nv.toNat)).drop s1.at_.toNat), ⟨s1.at_ + nv, none⟩) by unfold textR; rw [← hnv, ← hs1, hh])
  have HB := Aside0.mk (show (hasR l.length nv s1).er.isNone = true by rw [hh]; rfl)
  rw [hhs] at hh
  have HE := Aside0.mk hh
  have HHS := Aside0.mk hhs
  have HGE := Aside0.mk hge
  clear hnv hs1 hh hge hhs
  obtain ⟨kn, rfl⟩ : ∃ kn : Nat, nv = (kn : Int) := ⟨nv.toNat, by have := HRG.out; omega⟩
  go_enter Tryz.func58, Tryz.ntmps58
  go_upto_region 5 with (first | (go_at_call 60; refine (count.calls w0 _ r A c l s H.out HH.out.1 HH.out.2.1 HH.out.2.2.1 HH.out.2.2.2 24).mono ?_; rw [← HN.out, ← HS.out]; rintro e_ w1 ⟨rfl, hr_, hg_⟩; have HR := Aside0.mk hr_; have HG := Aside0.mk hg_; clear hr_ hg_) | (go_at_call 96; refine (has.calls w0 _ r A c l s1 HR.out (kn : Int) HH.out.2.2.1).mono ?_; rw [HB.out]; rintro e_ w2 ⟨rfl, hr_, hg_⟩; have HR2 := Aside0.mk hr_; have HG2 := Aside0.mk (grown_trans HG.out hg_); rw [HHS.out] at hr_; clear HR2; have HR2 := Aside0.mk hr_; obtain ⟨v1, hb1, he1⟩ := hr_.blk; rw [HE.out] at he1; obtain rfl : v1 = .nilIface := he1; obtain ⟨m, hm⟩ : ∃ m : Nat, s1.at_ = (m : Int) := ⟨s1.at_.toNat, by have := hr_.at0; omega⟩; rw [hm] at hb1; have HM := Aside0.mk hm; have HB1 := Aside0.mk hb1; have hd0 := (blk_cell hb1 0).trans rfl; have hd1 := (blk_cell hb1 1).trans rfl; have hg1 := blk_frozen hb1 1; clear hb1 hm; clear hr_ hg_))
  have HMX := Aside0.mk (show m + kn ≤ l.length by have := HGE.out; have := HM.out; omega)
  have HWV := Aside0.mk (show wrap64 ((m : Int) + (kn : Int)) = ((m + kn : Nat) : Int) by rw [wrap64_id (by have := HMX.out; have := HH.out.2.2.1; omega) (by have := HMX.out; have := HH.out.2.2.1; omega)]; omega)
  have HWL := Aside0.mk (show wrap64 (((m + kn : Nat) : Int) - (kn : Int)) = (m : Int) by rw [wrap64_id (by omega) (by have := HMX.out; have := HH.out.2.2.1; omega)]; omega)
  have hx := HR2.out.put (v := .nilIface) (y := 0) (x := .nilIface) _ (put_set (j := 1) (x := .int .i64 (wrap64 ((m : Int) + (kn : Int)))) HB1.out) ⟨s1.at_ + kn, none⟩ (by rw [HWV.out, HM.out]; rfl) rfl (by have := HR2.out.at0; show 0 ≤ s1.at_ + kn; omega) (by have := HMX.out; have := HM.out; show s1.at_ + kn ≤ _; omega) (fun _ => by have := HMX.out; have := HM.out; show s1.at_ + kn ≤ _; omega)
  generalize hws : w2.setCell ⟨r, 1, none⟩ (.int .i64 (wrap64 ((m : Int) + (kn : Int)))) = ws at hx ⊢
  clear hd0 hd1 hg1 hws
  have HX := Aside0.mk hx
  obtain ⟨v2, hb2, _⟩ := hx.1.blk
  have hz0 := (blk_cell hb2 0).trans rfl
  have hz1 : _ = some (Value.int .i64 ((m + kn : Nat) : Int)) := (blk_cell hb2 1).trans (by show some (Value.int .i64 (s1.at_ + kn)) = _; rw [HM.out]; rfl)
  clear hb2 hx
  obtain ⟨xs, hxs⟩ : ∃ xs, xs = (l.take (m + kn)).drop m := ⟨_, rfl⟩
  have hxl : xs.length = kn := by have := HMX.out; rw [hxs, List.length_drop, List.length_take]; omega
  have hcz : Kd.C (Kd.int .u8) w0 (if c = m then A else Option.map (fun x : Addr => x.add m) A) kn xs := by
   have hz := Kd.C_mid HH.out.1 (show m ≤ m + kn by omega) HMX.out HH.out.2.1
   rw [← hxs, hxl, show m * (Kd.int IntKind.u8).sz = m from Nat.mul_one m] at hz
   exact hz
  have hcv : ∀ q, (convert 31 9 (.slice (if c = m then A else Option.map (fun x : Addr => x.add m) A) kn (c - m))).run Tryz.prog (ws.drewN q) = .ok (.string (strOfNums xs)) (ws.drewN q) := fun q => conv_str (Kd.C_below hcz (pw_below_drewN HX.out.1.low q)) hxl
  have HXS := Aside0.mk hxs
  have hwm : IntKind.i64.wrap (m : Int) = (m : Int) := by have := HMX.out; have := HH.out.2.2.1; rw [i64_w, wrap64_id (by omega) (by omega)]
  have p1 : (m : Int) ≤ (m : Int) + (kn : Int) := by omega
  have p2 : (m : Int) + (kn : Int) ≤ (c : Int) := by have := HMX.out; have := HH.out.2.1; omega
  have p3 : (0 : Int) ≤ (m : Int) + (kn : Int) := by omega
  have p4 : ((m : Int) + (kn : Int)).toNat - m = kn := by omega
  clear hcz hxs hxl
  go_quiet (fail)
  clear hcv hwm p1 p2 p3 p4
  generalize (if c = m then A else Option.map (fun x : Addr => x.add m) A) = Az
  go_wp2
  go_ret
  rw [HF.out]
  refine ⟨?_, HX.out.1.below (pw_below_drewN (Below.refl _ _) _), grown_trans HG2.out (grown_trans HX.out.2 (grown_below (pw_below_drewN (Below.refl _ _) _)))⟩
  show Ending.returned (Value.string (strOfNums xs)) = _
  rw [HXS.out, HM.out, Int.toNat_natCast, Int.toNat_natCast]
/-- f is done n times, while nothing is wrong. -/
def eachR {α : Type} (f : α → α) (rs : α → RS) : Nat → α → α
 | 0, a => a
 | n + 1, a => if (rs a).er.isNone = true then eachR f rs n (f a) else a
theorem eachR_go {α : Type} (f : α → α) (rs : α → RS) (n : Nat) {a : α} (h : (rs a).er = none) : eachR f rs (n + 1) a = eachR f rs n (f a) := by
 show (if (rs a).er.isNone = true then eachR f rs n (f a) else a) = _
 rw [h]
 rfl
theorem eachR_stop {α : Type} (f : α → α) (rs : α → RS) (n : Nat) {a : α} {q : Int} (h : (rs a).er = some q) : eachR f rs n a = a := by
 cases n with
 | zero => rfl
 | succ n =>
  show (if (rs a).er.isNone = true then eachR f rs n (f a) else a) = _
  rw [h]
  rfl
set_option maxHeartbeats 8000000 in
set_option maxRecDepth 100000 in
theorem each1.calls {α : Type} (I : Nat → α → World → Prop) (rs : α → RS) (f : α → α) (w0 : World) (r : Nat) (A : Option Addr) (c : Nat) (l : List Int) (hI : ∀ j a W, I j a W → Rd w0 W r A c l (rs a)) (caps : Array Value)
  (hf : ∀ j a W, I (j + 1) a W → (rs a).er = none → Calls Tryz.prog 61 caps W fun e w' => e = .returned (.tuple #[]) ∧ I j (f a) w') (a : α) (W : World) (n : Nat) (hW : I n a W) (hn : n ≤ 9223372036854775806) :
  Calls Tryz.prog 59 #[.pointer (some ⟨r, 0, none⟩), .int .i64 (n : Int), .func (.func 61) #[] caps] W fun e w' => e = .returned (.tuple #[]) ∧ ∃ j, I j (eachR f rs n a) w' := by
 have hu1 := Tryz.underlying97
 have HW := Aside0.mk hW
 have HI := Aside0.mk hI
 have HF := Aside0.mk hf
 have HN := Aside0.mk hn
 clear hW hI hf hn
 go_enter Tryz.func59, Tryz.ntmps59
 go_wp2
 go_loopw [1] (fun u1 wr => ∃ (m : Nat) (b : α), u1 = .int .i64 (m : Int) ∧ m ≤ n ∧ Aside0 (I m b wr) ∧ Aside0 (eachR f rs m b = eachR f rs n a)) (fun u1 _ => (intOf u1).toNat)
 case atStart => exact ⟨n, a, rfl, Nat.le_refl _, HW, ⟨rfl⟩⟩
 case round =>
  clear HW
  obtain ⟨m, b, rfl, hmn, HB, HE⟩ := hrel
  have HR := Aside0.mk (HI.out m b wr HB.out)
  obtain ⟨v, hb, he⟩ := HR.out.blk
  have hc2 := (blk_cell hb 2).trans rfl
  clear hb
  cases m with
  | zero =>
   have hm0 : decide (((0 : Nat) : Int) > 0) = false := by simp
   clear he hmn
   go_wp2
   refine Go.Great.bodyPost_end0 rfl rfl ?_
   have hE := HE.out
   exact ⟨rfl, 0, by rw [← hE]; exact HB.out⟩
  | succ m =>
   have hm0 : decide (((m + 1 : Nat) : Int) > 0) = true := decide_eq_true (by omega)
   have HMN := Aside0.mk hmn
   clear hmn
   cases hs : (rs b).er with
   | some q =>
    rw [hs] at he
    obtain ⟨ee, rfl, _, _⟩ := he
    have HEE := Aside0.mk (show eachR f rs n a = b by rw [← HE.out]; exact eachR_stop f rs _ hs)
    clear hs
    go_wp2
    refine Go.Great.bodyPost_end0 rfl rfl ?_
    exact ⟨rfl, m + 1, by rw [HEE.out]; exact HB.out⟩
   | none =>
    rw [hs] at he
    obtain rfl : v = .nilIface := he
    have HEE := Aside0.mk (show eachR f rs m (f b) = eachR f rs n a by rw [← HE.out]; exact (eachR_go f rs m hs).symm)
    have HS := Aside0.mk hs
    have HWR := Aside0.mk (show wrap64 (m : Int) = (m : Int) by rw [wrap64_id (by omega) (by have := HMN.out; have := HN.out; omega)])
    clear hs
    go_wp2_with (go_at_call 61; refine (HF.out m b _ HB.out HS.out).mono ?_; rintro e_ w1 ⟨rfl, hi_⟩; have HB1 := Aside0.mk hi_; clear hi_ hc2)
    go_roundw
    case measure => (try rw [HWR.out]); simp only [intOf]; omega
    case rel => exact ⟨m, f b, by first | rfl | (rw [HWR.out]; done), by have := HMN.out; omega, HB1, HEE⟩
set_option maxHeartbeats 8000000 in
set_option maxRecDepth 100000 in
theorem each2.calls {α : Type} (I : Nat → α → World → Prop) (rs : α → RS) (f : α → α) (w0 : World) (r : Nat) (A : Option Addr) (c : Nat) (l : List Int) (hI : ∀ j a W, I j a W → Rd w0 W r A c l (rs a)) (caps : Array Value)
  (hf : ∀ j a W, I (j + 1) a W → (rs a).er = none → Calls Tryz.prog 63 caps W fun e w' => e = .returned (.tuple #[]) ∧ I j (f a) w') (a : α) (W : World) (n : Nat) (hW : I n a W) (hn : n ≤ 9223372036854775806) :
  Calls Tryz.prog 59 #[.pointer (some ⟨r, 0, none⟩), .int .i64 (n : Int), .func (.func 63) #[] caps] W fun e w' => e = .returned (.tuple #[]) ∧ ∃ j, I j (eachR f rs n a) w' := by
 have hu1 := Tryz.underlying97
 have HW := Aside0.mk hW
 have HI := Aside0.mk hI
 have HF := Aside0.mk hf
 have HN := Aside0.mk hn
 clear hW hI hf hn
 go_enter Tryz.func59, Tryz.ntmps59
 go_wp2
 go_loopw [1] (fun u1 wr => ∃ (m : Nat) (b : α), u1 = .int .i64 (m : Int) ∧ m ≤ n ∧ Aside0 (I m b wr) ∧ Aside0 (eachR f rs m b = eachR f rs n a)) (fun u1 _ => (intOf u1).toNat)
 case atStart => exact ⟨n, a, rfl, Nat.le_refl _, HW, ⟨rfl⟩⟩
 case round =>
  clear HW
  obtain ⟨m, b, rfl, hmn, HB, HE⟩ := hrel
  have HR := Aside0.mk (HI.out m b wr HB.out)
  obtain ⟨v, hb, he⟩ := HR.out.blk
  have hc2 := (blk_cell hb 2).trans rfl
  clear hb
  cases m with
  | zero =>
   have hm0 : decide (((0 : Nat) : Int) > 0) = false := by simp
   clear he hmn
   go_wp2
   refine Go.Great.bodyPost_end0 rfl rfl ?_
   have hE := HE.out
   exact ⟨rfl, 0, by rw [← hE]; exact HB.out⟩
  | succ m =>
   have hm0 : decide (((m + 1 : Nat) : Int) > 0) = true := decide_eq_true (by omega)
   have HMN := Aside0.mk hmn
   clear hmn
   cases hs : (rs b).er with
   | some q =>
    rw [hs] at he
    obtain ⟨ee, rfl, _, _⟩ := he
    have HEE := Aside0.mk (show eachR f rs n a = b by rw [← HE.out]; exact eachR_stop f rs _ hs)
    clear hs
    go_wp2
    refine Go.Great.bodyPost_end0 rfl rfl ?_
    exact ⟨rfl, m + 1, by rw [HEE.out]; exact HB.out⟩
   | none =>
    rw [hs] at he
    obtain rfl : v = .nilIface := he
    have HEE := Aside0.mk (show eachR f rs m (f b) = eachR f rs n a by rw [← HE.out]; exact (eachR_go f rs m hs).symm)
    have HS := Aside0.mk hs
    have HWR := Aside0.mk (show wrap64 (m : Int) = (m : Int) by rw [wrap64_id (by omega) (by have := HMN.out; have := HN.out; omega)])
    clear hs
    go_wp2_with (go_at_call 63; refine (HF.out m b _ HB.out HS.out).mono ?_; rintro e_ w1 ⟨rfl, hi_⟩; have HB1 := Aside0.mk hi_; clear hi_ hc2)
    go_roundw
    case measure => (try rw [HWR.out]); simp only [intOf]; omega
    case rel => exact ⟨m, f b, by first | rfl | (rw [HWR.out]; done), by have := HMN.out; omega, HB1, HEE⟩
set_option maxHeartbeats 8000000 in
set_option maxRecDepth 100000 in
theorem each3.calls {α : Type} (I : Nat → α → World → Prop) (rs : α → RS) (f : α → α) (w0 : World) (r : Nat) (A : Option Addr) (c : Nat) (l : List Int) (hI : ∀ j a W, I j a W → Rd w0 W r A c l (rs a)) (caps : Array Value)
  (hf : ∀ j a W, I (j + 1) a W → (rs a).er = none → Calls Tryz.prog 65 caps W fun e w' => e = .returned (.tuple #[]) ∧ I j (f a) w') (a : α) (W : World) (n : Nat) (hW : I n a W) (hn : n ≤ 9223372036854775806) :
  Calls Tryz.prog 59 #[.pointer (some ⟨r, 0, none⟩), .int .i64 (n : Int), .func (.func 65) #[] caps] W fun e w' => e = .returned (.tuple #[]) ∧ ∃ j, I j (eachR f rs n a) w' := by
 have hu1 := Tryz.underlying97
 have HW := Aside0.mk hW
 have HI := Aside0.mk hI
 have HF := Aside0.mk hf
 have HN := Aside0.mk hn
 clear hW hI hf hn
 go_enter Tryz.func59, Tryz.ntmps59
 go_wp2
 go_loopw [1] (fun u1 wr => ∃ (m : Nat) (b : α), u1 = .int .i64 (m : Int) ∧ m ≤ n ∧ Aside0 (I m b wr) ∧ Aside0 (eachR f rs m b = eachR f rs n a)) (fun u1 _ => (intOf u1).toNat)
 case atStart => exact ⟨n, a, rfl, Nat.le_refl _, HW, ⟨rfl⟩⟩
 case round =>
  clear HW
  obtain ⟨m, b, rfl, hmn, HB, HE⟩ := hrel
  have HR := Aside0.mk (HI.out m b wr HB.out)
  obtain ⟨v, hb, he⟩ := HR.out.blk
  have hc2 := (blk_cell hb 2).trans rfl
  clear hb
  cases m with
  | zero =>
   have hm0 : decide (((0 : Nat) : Int) > 0) = false := by simp
   clear he hmn
   go_wp2
   refine Go.Great.bodyPost_end0 rfl rfl ?_
   have hE := HE.out
   exact ⟨rfl, 0, by rw [← hE]; exact HB.out⟩
  | succ m =>
   have hm0 : decide (((m + 1 : Nat) : Int) > 0) = true := decide_eq_true (by omega)
   have HMN := Aside0.mk hmn
   clear hmn
   cases hs : (rs b).er with
   | some q =>
    rw [hs] at he
    obtain ⟨ee, rfl, _, _⟩ := he
    have HEE := Aside0.mk (show eachR f rs n a = b by rw [← HE.out]; exact eachR_stop f rs _ hs)
    clear hs
    go_wp2
    refine Go.Great.bodyPost_end0 rfl rfl ?_
    exact ⟨rfl, m + 1, by rw [HEE.out]; exact HB.out⟩
   | none =>
    rw [hs] at he
    obtain rfl : v = .nilIface := he
    have HEE := Aside0.mk (show eachR f rs m (f b) = eachR f rs n a by rw [← HE.out]; exact (eachR_go f rs m hs).symm)
    have HS := Aside0.mk hs
    have HWR := Aside0.mk (show wrap64 (m : Int) = (m : Int) by rw [wrap64_id (by omega) (by have := HMN.out; have := HN.out; omega)])
    clear hs
    go_wp2_with (go_at_call 65; refine (HF.out m b _ HB.out HS.out).mono ?_; rintro e_ w1 ⟨rfl, hi_⟩; have HB1 := Aside0.mk hi_; clear hi_ hc2)
    go_roundw
    case measure => (try rw [HWR.out]); simp only [intOf]; omega
    case rel => exact ⟨m, f b, by first | rfl | (rw [HWR.out]; done), by have := HMN.out; omega, HB1, HEE⟩
set_option maxHeartbeats 8000000 in
set_option maxRecDepth 100000 in
theorem each4.calls {α : Type} (I : Nat → α → World → Prop) (rs : α → RS) (f : α → α) (w0 : World) (r : Nat) (A : Option Addr) (c : Nat) (l : List Int) (hI : ∀ j a W, I j a W → Rd w0 W r A c l (rs a)) (caps : Array Value)
  (hf : ∀ j a W, I (j + 1) a W → (rs a).er = none → Calls Tryz.prog 66 caps W fun e w' => e = .returned (.tuple #[]) ∧ I j (f a) w') (a : α) (W : World) (n : Nat) (hW : I n a W) (hn : n ≤ 9223372036854775806) :
  Calls Tryz.prog 59 #[.pointer (some ⟨r, 0, none⟩), .int .i64 (n : Int), .func (.func 66) #[] caps] W fun e w' => e = .returned (.tuple #[]) ∧ ∃ j, I j (eachR f rs n a) w' := by
 have hu1 := Tryz.underlying97
 have HW := Aside0.mk hW
 have HI := Aside0.mk hI
 have HF := Aside0.mk hf
 have HN := Aside0.mk hn
 clear hW hI hf hn
 go_enter Tryz.func59, Tryz.ntmps59
 go_wp2
 go_loopw [1] (fun u1 wr => ∃ (m : Nat) (b : α), u1 = .int .i64 (m : Int) ∧ m ≤ n ∧ Aside0 (I m b wr) ∧ Aside0 (eachR f rs m b = eachR f rs n a)) (fun u1 _ => (intOf u1).toNat)
 case atStart => exact ⟨n, a, rfl, Nat.le_refl _, HW, ⟨rfl⟩⟩
 case round =>
  clear HW
  obtain ⟨m, b, rfl, hmn, HB, HE⟩ := hrel
  have HR := Aside0.mk (HI.out m b wr HB.out)
  obtain ⟨v, hb, he⟩ := HR.out.blk
  have hc2 := (blk_cell hb 2).trans rfl
  clear hb
  cases m with
  | zero =>
   have hm0 : decide (((0 : Nat) : Int) > 0) = false := by simp
   clear he hmn
   go_wp2
   refine Go.Great.bodyPost_end0 rfl rfl ?_
   have hE := HE.out
   exact ⟨rfl, 0, by rw [← hE]; exact HB.out⟩
  | succ m =>
   have hm0 : decide (((m + 1 : Nat) : Int) > 0) = true := decide_eq_true (by omega)
   have HMN := Aside0.mk hmn
   clear hmn
   cases hs : (rs b).er with
   | some q =>
    rw [hs] at he
    obtain ⟨ee, rfl, _, _⟩ := he
    have HEE := Aside0.mk (show eachR f rs n a = b by rw [← HE.out]; exact eachR_stop f rs _ hs)
    clear hs
    go_wp2
    refine Go.Great.bodyPost_end0 rfl rfl ?_
    exact ⟨rfl, m + 1, by rw [HEE.out]; exact HB.out⟩
   | none =>
    rw [hs] at he
    obtain rfl : v = .nilIface := he
    have HEE := Aside0.mk (show eachR f rs m (f b) = eachR f rs n a by rw [← HE.out]; exact (eachR_go f rs m hs).symm)
    have HS := Aside0.mk hs
    have HWR := Aside0.mk (show wrap64 (m : Int) = (m : Int) by rw [wrap64_id (by omega) (by have := HMN.out; have := HN.out; omega)])
    clear hs
    go_wp2_with (go_at_call 66; refine (HF.out m b _ HB.out HS.out).mono ?_; rintro e_ w1 ⟨rfl, hi_⟩; have HB1 := Aside0.mk hi_; clear hi_ hc2)
    go_roundw
    case measure => (try rw [HWR.out]); simp only [intOf]; omega
    case rel => exact ⟨m, f b, by first | rfl | (rw [HWR.out]; done), by have := HMN.out; omega, HB1, HEE⟩
end Go.Proofs.YtiaohbbafaaibabGreatDoor.P
