/- OWN TEXT: what touch.Reads, touch.Writes and touch.Links come to (they hand method values to a function, which the print does not take), in the print's own form. -/
import Derived.Test.YtiaohbbafaaibaaP16
import Derived.Test.YtiaohbbafaaibaaIsaL
import Derived.Test.YtiaohbbafaaibaaHArr
import Derived.Handy
import Derived.Outline
namespace Go.Proofs.Ytiaohbbafaaibaa.P
open Go.RowKit Go.Proofs.YtiaohbbafaaibaaW.PrintWords Go.Proofs.YtiaohbbafaaibaaW.PrintLast Go.Proofs.YtiaohbbafaaibaaW.PrintMore Go.Proofs.Ytiaohbbafaaibaa.Arr
set_option linter.unusedVariables false
set_option linter.unusedSimpArgs false

theorem cells5' {W : World} {g t : Nat} {v0 v1 v2 v3 v4 : Value} (h : W.heap[g]? = some (.cells #[v0, v1, v2, v3, v4] t (0, 0))) :
    W.cell? ⟨g, 0, none⟩ = some v0 ∧ W.cell? ⟨g, 1, none⟩ = some v1 ∧ W.cell? ⟨g, 2, none⟩ = some v2 ∧ W.cell? ⟨g, 3, none⟩ = some v3 ∧ W.cell? ⟨g, 4, none⟩ = some v4 :=
  ⟨blk_cell h 0, blk_cell h 1, blk_cell h 2, blk_cell h 3, blk_cell h 4⟩
def bitW (r : Int) : Int := IntKind.u16.wrap (2 ^ r.toNat)
def readsI (b2 b3 : Bool) (i2 i3 : Int) : Int := if b3 = true then Go.bits .or .u16 (if b2 = true then Go.bits .or .u16 0 (bitW i2) else 0) (bitW i3) else if b2 = true then Go.bits .or .u16 0 (bitW i2) else 0
def writesI (b1 : Bool) (i0 i1 : Int) : Int := if b1 = true then bitW i1 else if i0 = 17 then 32768 else if i0 = 18 then 32768 else 0
set_option maxHeartbeats 4000000 in
set_option maxRecDepth 100000 in
theorem word_reads.calls (i0 i1 i2 i3 i4 : Int) (b1 b2 b3 b4 b5 : Bool) (w : World) (h2 : 0 ≤ i2) (h3 : i2 < 16) (h4 : 0 ≤ i3) (h5 : i3 < 16) (hh : Aside0 (isa_Has.f i0 = some (b1, b2, b3, b4, b5))) :
    Calls Try.prog 93 #[.agg #[.int .i8 i0, .int .i8 i1, .int .i8 i2, .int .i8 i3, .int .i64 i4]] w fun e w' => e = .returned (.int .u16 (readsI b2 b3 i2 i3)) ∧ Below w.heap.size w w' := by
  have hu1 := Try.underlying110
  have hu2 := Try.underlying36
  cases b2 <;> cases b3
  all_goals
    go_enter Try.func93, Try.ntmps93
    go_wp2_with (first | ((with_reducible refine gate_dst (N := 1) rfl ?_); refine box_event ?hg (N := 1) ?hd (cs := #[.int .i8 i0, .int .i8 i1, .int .i8 i2, .int .i8 i3, .int .i64 i4]) (t := 110) ?hr ?_; (case hd => rfl); (case hg => rfl); (case hr => first | (go_simp; done) | (go_simp; rfl)); intro g0 hge0 w1 BK1 hb1; have HB := Aside0.mk (below_then (Below.refl w.heap.size w) (Nat.le_refl _) hb1); have BK := Aside0.mk BK1; clear BK1 hb1 hge0; obtain ⟨q0, q1, q2, q3, q4⟩ := cells5' BK.out) | (go_at_call 37; refine (isa_Has.calls i0 _ _ _ _ _ _ hh.out).mono ?_; rintro e w2 ⟨rfl, hb⟩; have HBn := Aside0.mk (below_then HB.out HB.out.size hb); have BKn := Aside0.mk (blk_below BK.out hb); clear HB BK hb q0 q1 q2 q3 q4; have HB := HBn; have BK := BKn; clear HBn BKn; obtain ⟨q0, q1, q2, q3, q4⟩ := cells5' BK.out))
    go_ret
    exact ⟨rfl, HB.out⟩
set_option maxHeartbeats 4000000 in
set_option maxRecDepth 100000 in
theorem word_writes.calls (i0 i1 i2 i3 i4 : Int) (b1 b2 b3 b4 b5 : Bool) (w : World) (h2 : 0 ≤ i1) (h3 : i1 < 16) (hh : Aside0 (isa_Has.f i0 = some (b1, b2, b3, b4, b5))) :
    Calls Try.prog 95 #[.agg #[.int .i8 i0, .int .i8 i1, .int .i8 i2, .int .i8 i3, .int .i64 i4]] w fun e w' => e = .returned (.int .u16 (writesI b1 i0 i1)) ∧ Below w.heap.size w w' := by
  have hu1 := Try.underlying110
  have hu2 := Try.underlying36
  cases b1
  · by_cases c1 : i0 = 17
    · have c1b : (i0 == 17) = true := by simp [c1]
      have HR := Aside0.mk (show writesI false i0 i1 = 32768 by unfold writesI; rw [if_neg (by decide), if_pos c1])
      clear c1
      go_enter Try.func95, Try.ntmps95
      go_wp2_with (first | ((with_reducible refine gate_dst (N := 1) rfl ?_); refine box_event ?hg (N := 1) ?hd (cs := #[.int .i8 i0, .int .i8 i1, .int .i8 i2, .int .i8 i3, .int .i64 i4]) (t := 110) ?hr ?_; (case hd => rfl); (case hg => rfl); (case hr => first | (go_simp; done) | (go_simp; rfl)); intro g0 hge0 w1 BK1 hb1; have HB := Aside0.mk (below_then (Below.refl w.heap.size w) (Nat.le_refl _) hb1); have BK := Aside0.mk BK1; clear BK1 hb1 hge0; obtain ⟨q0, q1, q2, q3, q4⟩ := cells5' BK.out) | (go_at_call 37; refine (isa_Has.calls i0 _ _ _ _ _ _ hh.out).mono ?_; rintro e w2 ⟨rfl, hb⟩; have HBn := Aside0.mk (below_then HB.out HB.out.size hb); have BKn := Aside0.mk (blk_below BK.out hb); clear HB BK hb q0 q1 q2 q3 q4; have HB := HBn; have BK := BKn; clear HBn BKn; obtain ⟨q0, q1, q2, q3, q4⟩ := cells5' BK.out))
      go_ret
      exact ⟨by rw [HR.out]; rfl, HB.out⟩
    · have c1b : (i0 == 17) = false := by simp [c1]
      by_cases c2 : i0 = 18
      · have c2b : (i0 == 18) = true := by simp [c2]
        have HR := Aside0.mk (show writesI false i0 i1 = 32768 by unfold writesI; rw [if_neg (by decide), if_neg c1, if_pos c2])
        clear c1 c2
        go_enter Try.func95, Try.ntmps95
        go_wp2_with (first | ((with_reducible refine gate_dst (N := 1) rfl ?_); refine box_event ?hg (N := 1) ?hd (cs := #[.int .i8 i0, .int .i8 i1, .int .i8 i2, .int .i8 i3, .int .i64 i4]) (t := 110) ?hr ?_; (case hd => rfl); (case hg => rfl); (case hr => first | (go_simp; done) | (go_simp; rfl)); intro g0 hge0 w1 BK1 hb1; have HB := Aside0.mk (below_then (Below.refl w.heap.size w) (Nat.le_refl _) hb1); have BK := Aside0.mk BK1; clear BK1 hb1 hge0; obtain ⟨q0, q1, q2, q3, q4⟩ := cells5' BK.out) | (go_at_call 37; refine (isa_Has.calls i0 _ _ _ _ _ _ hh.out).mono ?_; rintro e w2 ⟨rfl, hb⟩; have HBn := Aside0.mk (below_then HB.out HB.out.size hb); have BKn := Aside0.mk (blk_below BK.out hb); clear HB BK hb q0 q1 q2 q3 q4; have HB := HBn; have BK := BKn; clear HBn BKn; obtain ⟨q0, q1, q2, q3, q4⟩ := cells5' BK.out))
        go_ret
        exact ⟨by rw [HR.out]; rfl, HB.out⟩
      · have c2b : (i0 == 18) = false := by simp [c2]
        have HR := Aside0.mk (show writesI false i0 i1 = 0 by unfold writesI; rw [if_neg (by decide), if_neg c1, if_neg c2])
        clear c1 c2
        go_enter Try.func95, Try.ntmps95
        go_wp2_with (first | ((with_reducible refine gate_dst (N := 1) rfl ?_); refine box_event ?hg (N := 1) ?hd (cs := #[.int .i8 i0, .int .i8 i1, .int .i8 i2, .int .i8 i3, .int .i64 i4]) (t := 110) ?hr ?_; (case hd => rfl); (case hg => rfl); (case hr => first | (go_simp; done) | (go_simp; rfl)); intro g0 hge0 w1 BK1 hb1; have HB := Aside0.mk (below_then (Below.refl w.heap.size w) (Nat.le_refl _) hb1); have BK := Aside0.mk BK1; clear BK1 hb1 hge0; obtain ⟨q0, q1, q2, q3, q4⟩ := cells5' BK.out) | (go_at_call 37; refine (isa_Has.calls i0 _ _ _ _ _ _ hh.out).mono ?_; rintro e w2 ⟨rfl, hb⟩; have HBn := Aside0.mk (below_then HB.out HB.out.size hb); have BKn := Aside0.mk (blk_below BK.out hb); clear HB BK hb q0 q1 q2 q3 q4; have HB := HBn; have BK := BKn; clear HBn BKn; obtain ⟨q0, q1, q2, q3, q4⟩ := cells5' BK.out))
        go_ret
        exact ⟨by rw [HR.out]; rfl, HB.out⟩
  · go_enter Try.func95, Try.ntmps95
    go_wp2_with (first | ((with_reducible refine gate_dst (N := 1) rfl ?_); refine box_event ?hg (N := 1) ?hd (cs := #[.int .i8 i0, .int .i8 i1, .int .i8 i2, .int .i8 i3, .int .i64 i4]) (t := 110) ?hr ?_; (case hd => rfl); (case hg => rfl); (case hr => first | (go_simp; done) | (go_simp; rfl)); intro g0 hge0 w1 BK1 hb1; have HB := Aside0.mk (below_then (Below.refl w.heap.size w) (Nat.le_refl _) hb1); have BK := Aside0.mk BK1; clear BK1 hb1 hge0; obtain ⟨q0, q1, q2, q3, q4⟩ := cells5' BK.out) | (go_at_call 37; refine (isa_Has.calls i0 _ _ _ _ _ _ hh.out).mono ?_; rintro e w2 ⟨rfl, hb⟩; have HBn := Aside0.mk (below_then HB.out HB.out.size hb); have BKn := Aside0.mk (blk_below BK.out hb); clear HB BK hb q0 q1 q2 q3 q4; have HB := HBn; have BK := BKn; clear HBn BKn; obtain ⟨q0, q1, q2, q3, q4⟩ := cells5' BK.out))
    go_ret
    exact ⟨rfl, HB.out⟩

set_option maxHeartbeats 4000000 in
set_option maxRecDepth 100000 in
theorem sets_r.calls (i0 i1 i2 i3 i4 : Int) (b1 b2 b3 b4 b5 : Bool) (w : World) (g : Nat) (h0 : 0 ≤ i1) (h1 : i1 < 16) (h2 : 0 ≤ i2) (h3 : i2 < 16) (h4 : 0 ≤ i3) (h5 : i3 < 16) (hh : Aside0 (isa_Has.f i0 = some (b1, b2, b3, b4, b5)))
    (hc0 : w.cell? ⟨g, 0, none⟩ = some (.func (.func 93) #[.agg #[.int .i8 i0, .int .i8 i1, .int .i8 i2, .int .i8 i3, .int .i64 i4]] #[])) :
    Calls Try.prog 92 #[.slice (some ⟨g, 0, none⟩) 1 1] w fun e w' => e = .returned (.int .u16 (Go.bits .or .u16 0 (readsI b2 b3 i2 i3))) ∧ Below w.heap.size w w' := by
  have HB := Aside0.mk (Below.refl w.heap.size w)
  go_enter Try.func92, Try.ntmps92
  go_wp2_with fail
  refine wp_loop_rounds 2 ?_
  iterate 2 (rw [rounds_succ]; go_wp2_with (first | (go_at_call 93; refine (word_reads.calls i0 i1 i2 i3 i4 b1 b2 b3 b4 b5 _ h2 h3 h4 h5 hh).mono ?_; rintro e w2 ⟨rfl, hb⟩; have HBn := Aside0.mk (below_then HB.out HB.out.size hb); clear HB; have HB := HBn; clear HBn; have hcn0 := (hb.cell (World.block_lt_of_cell? _ _ hc0)).trans hc0; clear hc0; have hc0 := hcn0; clear hcn0; clear hb) | (go_at_call 95; refine (word_writes.calls i0 i1 i2 i3 i4 b1 b2 b3 b4 b5 _ h0 h1 hh).mono ?_; rintro e w2 ⟨rfl, hb⟩; have HBn := Aside0.mk (below_then HB.out HB.out.size hb); clear HB; have HB := HBn; clear HBn; have hcn0 := (hb.cell (World.block_lt_of_cell? _ _ hc0)).trans hc0; clear hc0; have hc0 := hcn0; clear hcn0; clear hb)))
  go_ret
  exact ⟨rfl, HB.out⟩
set_option maxHeartbeats 4000000 in
set_option maxRecDepth 100000 in
theorem sets_w.calls (i0 i1 i2 i3 i4 : Int) (b1 b2 b3 b4 b5 : Bool) (w : World) (g : Nat) (h0 : 0 ≤ i1) (h1 : i1 < 16) (h2 : 0 ≤ i2) (h3 : i2 < 16) (h4 : 0 ≤ i3) (h5 : i3 < 16) (hh : Aside0 (isa_Has.f i0 = some (b1, b2, b3, b4, b5)))
    (hc0 : w.cell? ⟨g, 0, none⟩ = some (.func (.func 95) #[.agg #[.int .i8 i0, .int .i8 i1, .int .i8 i2, .int .i8 i3, .int .i64 i4]] #[])) :
    Calls Try.prog 92 #[.slice (some ⟨g, 0, none⟩) 1 1] w fun e w' => e = .returned (.int .u16 (Go.bits .or .u16 0 (writesI b1 i0 i1))) ∧ Below w.heap.size w w' := by
  have HB := Aside0.mk (Below.refl w.heap.size w)
  go_enter Try.func92, Try.ntmps92
  go_wp2_with fail
  refine wp_loop_rounds 2 ?_
  iterate 2 (rw [rounds_succ]; go_wp2_with (first | (go_at_call 93; refine (word_reads.calls i0 i1 i2 i3 i4 b1 b2 b3 b4 b5 _ h2 h3 h4 h5 hh).mono ?_; rintro e w2 ⟨rfl, hb⟩; have HBn := Aside0.mk (below_then HB.out HB.out.size hb); clear HB; have HB := HBn; clear HBn; have hcn0 := (hb.cell (World.block_lt_of_cell? _ _ hc0)).trans hc0; clear hc0; have hc0 := hcn0; clear hcn0; clear hb) | (go_at_call 95; refine (word_writes.calls i0 i1 i2 i3 i4 b1 b2 b3 b4 b5 _ h0 h1 hh).mono ?_; rintro e w2 ⟨rfl, hb⟩; have HBn := Aside0.mk (below_then HB.out HB.out.size hb); clear HB; have HB := HBn; clear HBn; have hcn0 := (hb.cell (World.block_lt_of_cell? _ _ hc0)).trans hc0; clear hc0; have hc0 := hcn0; clear hcn0; clear hb)))
  go_ret
  exact ⟨rfl, HB.out⟩
set_option maxHeartbeats 4000000 in
set_option maxRecDepth 100000 in
theorem sets_rw.calls (i0 i1 i2 i3 i4 : Int) (b1 b2 b3 b4 b5 : Bool) (w : World) (g : Nat) (h0 : 0 ≤ i1) (h1 : i1 < 16) (h2 : 0 ≤ i2) (h3 : i2 < 16) (h4 : 0 ≤ i3) (h5 : i3 < 16) (hh : Aside0 (isa_Has.f i0 = some (b1, b2, b3, b4, b5)))
    (hc0 : w.cell? ⟨g, 0, none⟩ = some (.func (.func 93) #[.agg #[.int .i8 i0, .int .i8 i1, .int .i8 i2, .int .i8 i3, .int .i64 i4]] #[])) (hc1 : w.cell? ⟨g, 1, none⟩ = some (.func (.func 95) #[.agg #[.int .i8 i0, .int .i8 i1, .int .i8 i2, .int .i8 i3, .int .i64 i4]] #[])) :
    Calls Try.prog 92 #[.slice (some ⟨g, 0, none⟩) 2 2] w fun e w' => e = .returned (.int .u16 (Go.bits .or .u16 (Go.bits .or .u16 0 (readsI b2 b3 i2 i3)) (writesI b1 i0 i1))) ∧ Below w.heap.size w w' := by
  have HB := Aside0.mk (Below.refl w.heap.size w)
  go_enter Try.func92, Try.ntmps92
  go_wp2_with fail
  refine wp_loop_rounds 3 ?_
  iterate 3 (rw [rounds_succ]; go_wp2_with (first | (go_at_call 93; refine (word_reads.calls i0 i1 i2 i3 i4 b1 b2 b3 b4 b5 _ h2 h3 h4 h5 hh).mono ?_; rintro e w2 ⟨rfl, hb⟩; have HBn := Aside0.mk (below_then HB.out HB.out.size hb); clear HB; have HB := HBn; clear HBn; have hcn0 := (hb.cell (World.block_lt_of_cell? _ _ hc0)).trans hc0; clear hc0; have hc0 := hcn0; clear hcn0; have hcn1 := (hb.cell (World.block_lt_of_cell? _ _ hc1)).trans hc1; clear hc1; have hc1 := hcn1; clear hcn1; clear hb) | (go_at_call 95; refine (word_writes.calls i0 i1 i2 i3 i4 b1 b2 b3 b4 b5 _ h0 h1 hh).mono ?_; rintro e w2 ⟨rfl, hb⟩; have HBn := Aside0.mk (below_then HB.out HB.out.size hb); clear HB; have HB := HBn; clear HBn; have hcn0 := (hb.cell (World.block_lt_of_cell? _ _ hc0)).trans hc0; clear hc0; have hc0 := hcn0; clear hcn0; have hcn1 := (hb.cell (World.block_lt_of_cell? _ _ hc1)).trans hc1; clear hc1; have hc1 := hcn1; clear hcn1; clear hb)))
  go_ret
  exact ⟨rfl, HB.out⟩

theorem arr5_one' (a b c d e : Int) : ((#[.int .i8 a, .int .i8 b, .int .i8 c, .int .i8 d, .int .i64 e] : Array Value).all fun v => v.oneCell') = true := by kernel_rfl
section
variable {P : Program} {ops : Array Oper} {rest : List Oper} {o : Oper} {a : Act} {Q : Exit → Act → World → Prop}
theorem lit_event {W : World} (hgd : o.guard = none) {N : Tmp} (_hd : o.dst = some N) {cs : Array Value} {t : TypeId} {n : Nat}
    (hrun : (execOp a.eval o).run P W = .ok (.value (.slice (some ⟨W.heap.size, 0, none⟩) n n)) (W.alloc (.cells cs t (0, 0))))
    (h : ∀ g, g = W.heap.size → ∀ w1, w1.heap[g]? = some (.cells cs t (0, 0)) → Below W.heap.size W w1 → wpList P ops Q rest (a.put o.dst (.slice (some ⟨g, 0, none⟩) n n)) w1) : wpList P ops Q (o :: rest) a W :=
  Kd.event_run hgd hrun (h _ rfl _ (blk_new W _) (below_alloc (Below.refl _ _) _))
end
theorem decS_range (w : Int) : (0 ≤ (decS w).2.1 ∧ (decS w).2.1 < 16) ∧ (0 ≤ (decS w).2.2.1 ∧ (decS w).2.2.1 < 16) ∧ (0 ≤ (decS w).2.2.2.1 ∧ (decS w).2.2.2.1 < 16) := by
  unfold decS
  split
  · refine ⟨⟨?_, ?_⟩, ⟨?_, ?_⟩, ⟨?_, ?_⟩⟩
    all_goals (simp only; omega)
  · refine ⟨⟨?_, ?_⟩, ⟨?_, ?_⟩, ⟨?_, ?_⟩⟩ <;> simp
theorem hasT3 (op : Int) : isa_Has.f op = some (tup op) := by
  unfold isa_Has.f
  rw [has1]
  rfl
def readsS (w : Int) : Int := readsI (tup (decS w).1).2.1 (tup (decS w).1).2.2.1 (decS w).2.2.1 (decS w).2.2.2.1
def writesS (w : Int) : Int := writesI (tup (decS w).1).1 (decS w).1 (decS w).2.1

def touch_Reads.f (a0 : Int) : Option (Int) := if 0 ≤ a0 then (if a0 < 4294967296 then (some (Go.bits .or .u16 0 (readsS a0))) else (none)) else (none)
set_option maxHeartbeats 4000000 in
set_option maxRecDepth 100000 in
theorem touch_Reads.calls (a0 : Int) (r : Int) (w : World) (h : touch_Reads.f a0 = some r) :
    Calls Try.prog 43 #[.int .u32 a0] w fun e w' => e = .returned (.int .u16 r) ∧ Below w.heap.size w w' := by
  unfold touch_Reads.f at h
  by_cases w0 : 0 ≤ a0
  · rw [if_pos w0] at h
    by_cases w1 : a0 < 4294967296
    · rw [if_pos w1] at h
      have h := Option.some.inj h
      obtain ⟨⟨h0, h1⟩, ⟨h2, h3⟩, ⟨h4, h5⟩⟩ := decS_range a0
      obtain ⟨k, HD⟩ := Ev.rounds (dec1 w0 w1)
      have hh := hasT3 (decS a0).1
      (try unfold readsS at h)
      (try unfold writesS at h)
      generalize decS a0 = i at HD h h0 h1 h2 h3 h4 h5 hh
      obtain ⟨i0, i1, i2, i3, i4⟩ := i
      generalize tup (i0, i1, i2, i3, i4).1 = b at h hh
      obtain ⟨b1, b2, b3, b4, b5⟩ := b
      replace HD := Aside0.mk HD
      replace hh := Aside0.mk hh
      have hr : (Go.bits .or .u16 0 (readsI b2 b3 i2 i3)) = r := h
      have HR := Aside0.mk hr
      clear h hr
      have hu1 := Try.underlying110
      have hu2 := Try.underlying36
      have hu3 := Try.underlying140
      have HB := Aside0.mk (Below.refl w.heap.size w)
      go_enter Try.func43, Try.ntmps43
      go_wp2_with (first | (go_at_call 24; refine (isa_Decode.calls k a0 i0 i1 i2 i3 i4 _ HD.out).mono ?_; rintro e w1 ⟨rfl, hb⟩; have HBn := Aside0.mk (below_then HB.out HB.out.size hb); clear HB hb; have HB := HBn; clear HBn) | ((with_reducible refine gate_dst (N := 7) rfl ?_); refine lit_event ?hg (N := 7) ?hd (cs := #[(.func (.func 93) #[.agg #[.int .i8 i0, .int .i8 i1, .int .i8 i2, .int .i8 i3, .int .i64 i4]] #[])]) (t := 108) (n := 1) ?hr ?_; (case hd => rfl); (case hg => rfl); (case hr => first | (go_simp; done) | (go_simp; rfl)); intro g1 hge1 w3 BL0 hb; have BL := Aside0.mk BL0; clear BL0 hge1; have HBn := Aside0.mk (below_then HB.out HB.out.size hb); clear HB hb; have HB := HBn; clear HBn) | (go_at_call 92; refine (sets_r.calls i0 i1 i2 i3 i4 b1 b2 b3 b4 b5 _ g1 h0 h1 h2 h3 h4 h5 hh ((blk_cell BL.out 0).trans rfl)).mono ?_; rintro e w4 ⟨rfl, hb⟩; have HBn := Aside0.mk (below_then HB.out HB.out.size hb); clear HB hb; have HB := HBn; clear HBn))
      go_ret
      exact ⟨by rw [← HR.out]; rfl, HB.out⟩
    · rw [if_neg w1] at h; cases h
  · rw [if_neg w0] at h; cases h

def touch_Writes.f (a0 : Int) : Option (Int) := if 0 ≤ a0 then (if a0 < 4294967296 then (some (Go.bits .or .u16 0 (writesS a0))) else (none)) else (none)
set_option maxHeartbeats 4000000 in
set_option maxRecDepth 100000 in
theorem touch_Writes.calls (a0 : Int) (r : Int) (w : World) (h : touch_Writes.f a0 = some r) :
    Calls Try.prog 45 #[.int .u32 a0] w fun e w' => e = .returned (.int .u16 r) ∧ Below w.heap.size w w' := by
  unfold touch_Writes.f at h
  by_cases w0 : 0 ≤ a0
  · rw [if_pos w0] at h
    by_cases w1 : a0 < 4294967296
    · rw [if_pos w1] at h
      have h := Option.some.inj h
      obtain ⟨⟨h0, h1⟩, ⟨h2, h3⟩, ⟨h4, h5⟩⟩ := decS_range a0
      obtain ⟨k, HD⟩ := Ev.rounds (dec1 w0 w1)
      have hh := hasT3 (decS a0).1
      (try unfold readsS at h)
      (try unfold writesS at h)
      generalize decS a0 = i at HD h h0 h1 h2 h3 h4 h5 hh
      obtain ⟨i0, i1, i2, i3, i4⟩ := i
      generalize tup (i0, i1, i2, i3, i4).1 = b at h hh
      obtain ⟨b1, b2, b3, b4, b5⟩ := b
      replace HD := Aside0.mk HD
      replace hh := Aside0.mk hh
      have hr : (Go.bits .or .u16 0 (writesI b1 i0 i1)) = r := h
      have HR := Aside0.mk hr
      clear h hr
      have hu1 := Try.underlying110
      have hu2 := Try.underlying36
      have hu3 := Try.underlying140
      have HB := Aside0.mk (Below.refl w.heap.size w)
      go_enter Try.func45, Try.ntmps45
      go_wp2_with (first | (go_at_call 24; refine (isa_Decode.calls k a0 i0 i1 i2 i3 i4 _ HD.out).mono ?_; rintro e w1 ⟨rfl, hb⟩; have HBn := Aside0.mk (below_then HB.out HB.out.size hb); clear HB hb; have HB := HBn; clear HBn) | ((with_reducible refine gate_dst (N := 7) rfl ?_); refine lit_event ?hg (N := 7) ?hd (cs := #[(.func (.func 95) #[.agg #[.int .i8 i0, .int .i8 i1, .int .i8 i2, .int .i8 i3, .int .i64 i4]] #[])]) (t := 108) (n := 1) ?hr ?_; (case hd => rfl); (case hg => rfl); (case hr => first | (go_simp; done) | (go_simp; rfl)); intro g1 hge1 w3 BL0 hb; have BL := Aside0.mk BL0; clear BL0 hge1; have HBn := Aside0.mk (below_then HB.out HB.out.size hb); clear HB hb; have HB := HBn; clear HBn) | (go_at_call 92; refine (sets_w.calls i0 i1 i2 i3 i4 b1 b2 b3 b4 b5 _ g1 h0 h1 h2 h3 h4 h5 hh ((blk_cell BL.out 0).trans rfl)).mono ?_; rintro e w4 ⟨rfl, hb⟩; have HBn := Aside0.mk (below_then HB.out HB.out.size hb); clear HB hb; have HB := HBn; clear HBn))
      go_ret
      exact ⟨by rw [← HR.out]; rfl, HB.out⟩
    · rw [if_neg w1] at h; cases h
  · rw [if_neg w0] at h; cases h

def touch_Links.f (a0 : Int) : Option (Bool) := if 0 ≤ a0 then (if a0 < 4294967296 then (some (Go.bits .and .u16 (Go.bits .or .u16 (Go.bits .or .u16 0 (readsS a0)) (writesS a0)) 32768 != 0)) else (none)) else (none)
set_option maxHeartbeats 4000000 in
set_option maxRecDepth 100000 in
theorem touch_Links.calls (a0 : Int) (r : Bool) (w : World) (h : touch_Links.f a0 = some r) :
    Calls Try.prog 47 #[.int .u32 a0] w fun e w' => e = .returned (.bool r) ∧ Below w.heap.size w w' := by
  unfold touch_Links.f at h
  by_cases w0 : 0 ≤ a0
  · rw [if_pos w0] at h
    by_cases w1 : a0 < 4294967296
    · rw [if_pos w1] at h
      have h := Option.some.inj h
      obtain ⟨⟨h0, h1⟩, ⟨h2, h3⟩, ⟨h4, h5⟩⟩ := decS_range a0
      obtain ⟨k, HD⟩ := Ev.rounds (dec1 w0 w1)
      have hh := hasT3 (decS a0).1
      (try unfold readsS at h)
      (try unfold writesS at h)
      generalize decS a0 = i at HD h h0 h1 h2 h3 h4 h5 hh
      obtain ⟨i0, i1, i2, i3, i4⟩ := i
      generalize tup (i0, i1, i2, i3, i4).1 = b at h hh
      obtain ⟨b1, b2, b3, b4, b5⟩ := b
      replace HD := Aside0.mk HD
      replace hh := Aside0.mk hh
      have hr : (Go.bits .and .u16 (Go.bits .or .u16 (Go.bits .or .u16 0 (readsI b2 b3 i2 i3)) (writesI b1 i0 i1)) 32768 != 0) = r := h
      have HR := Aside0.mk hr
      clear h hr
      have hu1 := Try.underlying110
      have hu2 := Try.underlying36
      have hu3 := Try.underlying140
      have HB := Aside0.mk (Below.refl w.heap.size w)
      go_enter Try.func47, Try.ntmps47
      go_wp2_with (first | (go_at_call 24; refine (isa_Decode.calls k a0 i0 i1 i2 i3 i4 _ HD.out).mono ?_; rintro e w1 ⟨rfl, hb⟩; have HBn := Aside0.mk (below_then HB.out HB.out.size hb); clear HB hb; have HB := HBn; clear HBn) | ((with_reducible refine gate_dst (N := 11) rfl ?_); refine lit_event ?hg (N := 11) ?hd (cs := #[(.func (.func 93) #[.agg #[.int .i8 i0, .int .i8 i1, .int .i8 i2, .int .i8 i3, .int .i64 i4]] #[]), (.func (.func 95) #[.agg #[.int .i8 i0, .int .i8 i1, .int .i8 i2, .int .i8 i3, .int .i64 i4]] #[])]) (t := 108) (n := 2) ?hr ?_; (case hd => rfl); (case hg => rfl); (case hr => first | (go_simp; done) | (go_simp; rfl)); intro g1 hge1 w3 BL0 hb; have BL := Aside0.mk BL0; clear BL0 hge1; have HBn := Aside0.mk (below_then HB.out HB.out.size hb); clear HB hb; have HB := HBn; clear HBn) | (go_at_call 92; refine (sets_rw.calls i0 i1 i2 i3 i4 b1 b2 b3 b4 b5 _ g1 h0 h1 h2 h3 h4 h5 hh ((blk_cell BL.out 0).trans rfl) ((blk_cell BL.out 1).trans rfl)).mono ?_; rintro e w4 ⟨rfl, hb⟩; have HBn := Aside0.mk (below_then HB.out HB.out.size hb); clear HB hb; have HB := HBn; clear HBn) | ((with_reducible refine gate_dst (N := 3) rfl ?_); refine box_event ?hg (N := 3) ?hd (cs := #[.int .i8 0, .int .i8 0, .int .i8 0, .int .i8 0, .int .i64 0]) (t := 110) ?hr ?_; (case hd => rfl); (case hg => rfl); (case hr => first | (go_simp; done) | (go_simp; rfl)); intro g0 hge0 w5 BK0 hb; have GE0 := Aside0.mk (show w.heap.size ≤ g0 by have := HB.out.size; omega); have BK := Aside0.mk BK0; clear BK0 hge0; have HBn := Aside0.mk (below_then HB.out HB.out.size hb); clear HB hb; have HB := HBn; clear HBn) | ((with_reducible refine gate_store (t := 110) rfl ?_); refine wpList_store_whole rfl rfl rfl g0 _ #[.int .i8 i0, .int .i8 i1, .int .i8 i2, .int .i8 i3, .int .i64 i4] _ rfl (by rfl) BK.out (by kernel_rfl) (by rfl) (arr5_one' _ _ _ _ _) ?_; intro w6 hp; have hb := hp.below HB.out GE0.out; have BKn := Aside0.mk hp.blk; clear HB BK hp; have HB := Aside0.mk hb; have BK := BKn; clear hb BKn) | ((with_reducible refine gate_dst (N := 7) rfl ?_); refine wpList_load_row rfl 110 _ rfl g0 rfl 110 #[.int .i8 i0, .int .i8 i1, .int .i8 i2, .int .i8 i3, .int .i64 i4] (0, 0) _ BK.out Try.underlying110 rfl (by kernel_rfl) ?_) | ((with_reducible refine gate_dst (N := 9) rfl ?_); refine wpList_load_row rfl 110 _ rfl g0 rfl 110 #[.int .i8 i0, .int .i8 i1, .int .i8 i2, .int .i8 i3, .int .i64 i4] (0, 0) _ BK.out Try.underlying110 rfl (by kernel_rfl) ?_))
      go_ret
      exact ⟨by rw [← HR.out]; rfl, HB.out⟩
    · rw [if_neg w1] at h; cases h
  · rw [if_neg w0] at h; cases h

end Go.Proofs.Ytiaohbbafaaibaa.P
