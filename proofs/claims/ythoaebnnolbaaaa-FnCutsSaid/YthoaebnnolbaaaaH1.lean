/- For each Go function named below: a plain Lean function of the same name, and the proof that a call of the Go function returns just what the plain function tells, where it tells something. Written by a program of this session with the printer of the kit. -/
import Derived.Test.YthoaebnnolbaaaaH0
namespace Go.Proofs.Ythoaebnnolbaaaa.G
open Go.RowKit Go.Proofs.YthoaebnnolbaaaaW.PrintWords Go.Proofs.YthoaebnnolbaaaaW.PrintLast Go.Proofs.YthoaebnnolbaaaaW.PrintMore
attribute [local go_sem] max2_int min2_int max_two min_two max_three min_three max_four min_four   -- for this text's walks alone
set_option linter.unusedVariables false
set_option linter.unusedSimpArgs false
/-- A state of type 99 at block g of W; what its slices lead to came in by w0. -/
def IsS99 (w0 W : World) (g : Nat) (f0 : List Int) (f1 : Int) : Prop := ∃ A0 c0, W.heap[g]? = some (.cells #[.slice A0 f0.length c0, .int .i64 f1] 99 (0, 0)) ∧ w0.heap.size ≤ g ∧ Kd.C (Kd.int .u8) w0 A0 f0.length f0
theorem IsS99.grown {w0 W : World} {g : Nat} {f0 : List Int} {f1 : Int} {W1 : World} {row : Option Nat} (h : IsS99 w0 W g f0 f1) (hw : W.grownBy W1 row) (hne : some g ≠ row) : IsS99 w0 W1 g f0 f1 := by
 obtain ⟨A0, c0, hb, hg, hr0⟩ := h
 exact ⟨A0, c0, blk_grown hb hw hne, hg, hr0⟩
theorem IsS99.own_neN {w0 W : World} {g : Nat} {f0 : List Int} {f1 : Int} {α : Type} {d : Kd α} {e : Nat} {base : Nat} {ok : Nat → Prop} {v : Value} {xs : List α} (h : IsS99 w0 W g f0 f1) (ho : Kd.N d e W base ok v xs) (ht : e ≠ 99) : some g ≠ v.ownBlock := by
 obtain ⟨A0, c0, hb, hg, hr0⟩ := h
 exact Kd.N_ne ho hb ht
theorem IsS99.fresh {w0 W : World} {g : Nat} {f0 : List Int} {f1 : Int} (h : IsS99 w0 W g f0 f1) : ∀ k, W.heap.size ≤ k → k ≠ g := by
 obtain ⟨A0, c0, hb, hg, hr0⟩ := h
 exact Kd.freshB hb
theorem IsS99.kept {w0 W : World} {g : Nat} {f0 : List Int} {f1 : Int} {W1 : World} {S : Nat → Prop} (h : IsS99 w0 W g f0 f1) (hk : Kept W W1 S) (hne : ¬ S g) : IsS99 w0 W1 g f0 f1 := by
 obtain ⟨A0, c0, hb, hg, hr0⟩ := h
 exact ⟨A0, c0, blk_kept hb hk hne, hg, hr0⟩
theorem IsS99.below {w0 W : World} {g : Nat} {f0 : List Int} {f1 : Int} {W1 : World} (h : IsS99 w0 W g f0 f1) (hw : Below W.heap.size W W1) : IsS99 w0 W1 g f0 f1 := h.grown (grown_of_below hw none) (by simp)
theorem IsS99.alloc {w0 W : World} {g : Nat} {f0 : List Int} {f1 : Int} (h : IsS99 w0 W g f0 f1) (o : Obj) : IsS99 w0 (W.alloc o) g f0 f1 := h.below (below_alloc (Below.refl _ _) o)
theorem IsS99.drewN {w0 W : World} {g : Nat} {f0 : List Int} {f1 : Int} (h : IsS99 w0 W g f0 f1) (m : Nat) : IsS99 w0 (W.drewN m) g f0 f1 := h
theorem IsS99.drew {w0 W : World} {g : Nat} {f0 : List Int} {f1 : Int} (h : IsS99 w0 W g f0 f1) : IsS99 w0 W.drew g f0 f1 := h
theorem IsS99.at_ {w0 W : World} {g : Nat} {f0 : List Int} {f1 : Int} {w' : World} {m : Nat} (hq : W.drewN m = w') (h : IsS99 w0 W g f0 f1) : IsS99 w0 w' g f0 f1 := by subst hq; exact IsS99.drewN h m
theorem IsS99.apart {w0 W : World} {g : Nat} {f0 : List Int} {f1 : Int} {α : Type} {d : Kd α} {e : Nat} {base : Nat} {ok : Nat → Prop} {v : Value} {xs : List α} (h : IsS99 w0 W g f0 f1) (ho : d.R e W base ok v xs) (ht : ∀ q, q ∈ e :: d.E → q ≠ 99) : d.R e W base (fun k => ok k ∧ k ≠ g) v xs := by
 obtain ⟨A0, c0, hb, hg, hr0⟩ := h
 exact Kd.R_types ho hb ht
theorem IsS99.own_ne {w0 W : World} {g : Nat} {f0 : List Int} {f1 : Int} {α : Type} {d : Kd α} {e : Nat} {base : Nat} {ok : Nat → Prop} {v : Value} {xs : List α} (h : IsS99 w0 W g f0 f1) (ho : d.R e W base ok v xs) (ht : e ≠ 99) : some g ≠ v.ownBlock := by
 obtain ⟨A0, c0, hb, hg, hr0⟩ := h
 exact Kd.R_ne ho hb ht
theorem IsS99.apartQ {w0 W : World} {g : Nat} {f0 : List Int} {f1 : Int} {α : Type} {d : Kd α} {e : Nat} {base : Nat} {ok : Nat → Prop} {v : Value} {xs : List α} (h : IsS99 w0 W g f0 f1) (ho : d.Q e W base ok v xs) (ht : ∀ q, q ∈ e :: d.E → q ≠ 99) : d.Q e W base (fun k => ok k ∧ k ≠ g) v xs := by
 obtain ⟨A0, c0, hb, hg, hr0⟩ := h
 exact Kd.Q_types ho hb ht
theorem IsS99.own_neQ {w0 W : World} {g : Nat} {f0 : List Int} {f1 : Int} {α : Type} {d : Kd α} {e : Nat} {base : Nat} {ok : Nat → Prop} {v : Value} {xs : List α} (h : IsS99 w0 W g f0 f1) (ho : d.Q e W base ok v xs) (ht : e ≠ 99) : some g ≠ v.ownBlock := by
 obtain ⟨A0, c0, hb, hg, hr0⟩ := h
 exact Kd.Q_ne ho hb ht
theorem IsS99.apartS {w0 W : World} {g : Nat} {f0 : List Int} {f1 : Int} {α : Type} {d : Kd α} {e : Nat} {base : Nat} {ok : Nat → Prop} {v : Value} {xs : List α} (h : IsS99 w0 W g f0 f1) (ho : d.S e W base ok v xs) (ht : ∀ q, q ∈ e :: d.E → q ≠ 99) : d.S e W base (fun k => ok k ∧ k ≠ g) v xs := by
 obtain ⟨A0, c0, hb, hg, hr0⟩ := h
 exact Kd.S_types ho hb ht
theorem IsS99.own_neS {w0 W : World} {g : Nat} {f0 : List Int} {f1 : Int} {α : Type} {d : Kd α} {e : Nat} {base : Nat} {ok : Nat → Prop} {v : Value} {xs : List α} (h : IsS99 w0 W g f0 f1) (ho : d.S e W base ok v xs) (ht : e ≠ 99) : some g ≠ v.ownBlock := by
 obtain ⟨A0, c0, hb, hg, hr0⟩ := h
 exact Kd.S_ne ho hb ht
theorem IsS99.lt {w0 W : World} {g : Nat} {f0 : List Int} {f1 : Int} (h : IsS99 w0 W g f0 f1) : g < W.heap.size := by
 obtain ⟨A0, c0, hb, hg, hr0⟩ := h
 exact blk_lt hb
theorem IsS99.ge {w0 W : World} {g : Nat} {f0 : List Int} {f1 : Int} (h : IsS99 w0 W g f0 f1) : w0.heap.size ≤ g := by
 obtain ⟨A0, c0, hb, hg, hr0⟩ := h
 exact hg
theorem IsS99.ne_blk {w0 W : World} {g : Nat} {f0 : List Int} {f1 : Int} {a : Nat} {cs : Array Value} {t : TypeId} {fr : Nat × Nat} (h : IsS99 w0 W g f0 f1) (hb2 : W.heap[a]? = some (.cells cs t fr)) (ht : t ≠ 99) : g ≠ a := by
 obtain ⟨A0, c0, hb, hg, hr0⟩ := h
 rintro rfl
 rw [hb] at hb2
 injection hb2 with hb2
 injection hb2 with _ ht2
 exact ht ht2.symm
theorem IsS99.far {w0 W : World} {g : Nat} {f0 : List Int} {f1 : Int} {p : Addr} (h : IsS99 w0 W g f0 f1) (hne : g ≠ p.block) (u : Value) : IsS99 w0 (W.setCell p u) g f0 f1 := by
 obtain ⟨A0, c0, hb, hg, hr0⟩ := h
 exact ⟨A0, c0, blk_far hb hne u, hg, hr0⟩
theorem cellS99_0 {W : World} {g : Nat} {A0 : Option Addr} {c0 : Nat} {f0 : List Int} {f1 : Int} (h : W.heap[g]? = some (.cells #[.slice A0 f0.length c0, .int .i64 f1] 99 (0, 0))) : W.cell? ⟨g, 0, none⟩ = some (.slice A0 f0.length c0) := (blk_cell h 0).trans rfl
theorem cellS99_1 {W : World} {g : Nat} {A0 : Option Addr} {c0 : Nat} {f0 : List Int} {f1 : Int} (h : W.heap[g]? = some (.cells #[.slice A0 f0.length c0, .int .i64 f1] 99 (0, 0))) : W.cell? ⟨g, 1, none⟩ = some (.int .i64 f1) := (blk_cell h 1).trans rfl
theorem IsS99.set_1 {w0 W : World} {g : Nat} {f0 : List Int} {f1 : Int} (h : IsS99 w0 W g f0 f1) (x : Int) : IsS99 w0 (W.setCell ⟨g, 1, none⟩ (.int .i64 x)) g f0 x := by
 obtain ⟨A0, c0, hb, hg, hr0⟩ := h
 exact ⟨A0, c0, by simpa using blk_set hb 1 (.int .i64 x), hg, hr0⟩
theorem IsS99.new (w0 W : World) (A0 : Option Addr) (c0 : Nat) (f0 : List Int) (f1 : Int) (hB : Below w0.heap.size w0 W) (hr0 : Kd.C (Kd.int .u8) w0 A0 f0.length f0) : IsS99 w0 (W.alloc (.cells #[.slice A0 f0.length c0, .int .i64 f1] 99)) W.heap.size f0 f1 := ⟨A0, c0, by simpa using heap_alloc_new W _, hB.size, hr0⟩
theorem viaI {p q : Prop} (h : p) (f : p → q := by (intro h_ ; repeat (first | (with_reducible first | exact h_ | apply IsS99.alloc | apply IsS99.drewN | apply IsS99.drew | apply IsS99.set_1) | exact h_))) : q := f h 
theorem viaI1 {p r q : Prop} (h : p) (g : r) (f : p → r → q := by (intro h_ g_; repeat (first | (with_reducible first | exact h_ | apply IsS99.alloc | apply IsS99.drewN | apply IsS99.drew | apply IsS99.set_1 | refine IsS99.far ?_ g_ _) | exact h_))) : q := f h g
theorem viaI2 {p r r2 q : Prop} (h : p) (g : r) (g2 : r2) (f : p → r → r2 → q := by (intro h_ g_ g2_; repeat (first | (with_reducible first | exact h_ | apply IsS99.alloc | apply IsS99.drewN | apply IsS99.drew | apply IsS99.set_1 | refine IsS99.far ?_ g_ _ | refine IsS99.far ?_ g2_ _) | exact h_))) : q := f h g g2
theorem viaI3 {p r r2 r3 q : Prop} (h : p) (g : r) (g2 : r2) (g3 : r3) (f : p → r → r2 → r3 → q := by (intro h_ g_ g2_ g3_; repeat (first | (with_reducible first | exact h_ | apply IsS99.alloc | apply IsS99.drewN | apply IsS99.drew | apply IsS99.set_1 | refine IsS99.far ?_ g_ _ | refine IsS99.far ?_ g2_ _ | refine IsS99.far ?_ g3_ _) | exact h_))) : q := f h g g2 g3
/-! ### spec_l6Open: function 81 -/
def spec_l6Open.f (l0 : List Int) : Option (List Int × Int) := if (l0.length : Int) > 2000 then (if 2000 ≤ (l0.length : Int) then (some (l0.take 2000, 0)) else (none)) else (some (l0, 0))
set_option maxHeartbeats 8000000 in
set_option maxRecDepth 100000 in
theorem spec_l6Open.calls (A0 : Option Addr) (c0 : Nat) (l0 : List Int) (r1 : List Int) (r2 : Int) (w0 w : World) (hB : Below w0.heap.size w0 w) (hr0 : Kd.C (Kd.int .u8) w0 A0 l0.length l0) (hc0 : l0.length ≤ c0) (h : spec_l6Open.f l0 = some (r1, r2)) :
  Calls Try.prog 81 #[.slice A0 l0.length c0] w fun e w' => ∃ g_ : Nat, e = .returned (.pointer (some ⟨g_, 0, none⟩)) ∧ IsS99 w0 w' g_ r1 r2 ∧ Below w0.heap.size w0 w' ∧ Below w.heap.size w w' := by
 have hu99 := Try.underlying99; have HR0 := Aside0.mk hr0; have HC0 := Aside0.mk hc0; clear hr0 hc0; have HBW := Aside0.mk (Below.refl w.heap.size w); have HW0 := Aside0.mk hB.size; have HB := Aside0.mk hB; clear hB; have H : (if (l0.length : Int) > 2000 then (if 2000 ≤ (l0.length : Int) then (some (l0.take 2000, 0)) else (none)) else (some (l0, 0))) = some (r1, r2) := h; clear h
 by_cases c2 : (l0.length : Int) > 2000
 ·rw [if_pos c2] at H
  have c2b0 : decide (2000 < (l0.length : Int)) = true := decide_eq_true c2; have c2b1 : decide (2000 < l0.length) = true := decide_eq_true (by omega); clear c2
  by_cases c3 : 2000 ≤ (l0.length : Int)
  ·rw [if_pos c3] at H
   have c3b0 := eq_true c3; have c3b1 : decide (2000 ≤ (l0.length : Int)) = true := decide_eq_true c3; clear c3
   simp only [Option.some.injEq, Prod.mk.injEq] at H
   obtain ⟨rfl, rfl⟩ := H; obtain ⟨i04, hi04, _, hsz4, _⟩ := info_parts info5; obtain ⟨hcut4, hA4, hC4⟩ := print_take_of (P := Try.prog) (Value.int .u8) 0 22 5 .i64 Try.underlying22 hi04 hsz4 A0 c0 l0 2000 (by omega) (of_decide_eq_true (by first | (with_reducible assumption) | assumption)) HC0.out; have HR101 := Aside0.mk (Kd.C_of_reads (h1 := fun _ => rfl) (hA4 _ (Kd.reads_of_C HR0.out))); have HC101 := Aside0.mk hC4; clear hA4 hC4 hi04 hsz4
   go_enter Try.func81, Try.ntmps81
   go_wp2_with (first | ((with_reducible refine gate_dst (N := 10) rfl ?_); refine box_event ?hg (N := 10) ?hd (cs := #[.slice A0 (l0.take 2000).length c0, .int .i64 0]) (t := 99) ?hr ?_; (case hd => rfl); (case hg => rfl); (case hr => first | (go_simp; done) | (go_simp; rfl)); intro gb102 hg w5 hbox hb; have n0_ := Aside0.mk (below_step HBW.out hb); have n1_ := Aside0.mk (below_step (viaW HB.out) hb); have n2_ := Aside0.mk (hbox); have n3_ := Aside0.mk ((by rw [hg]; exact (below_size (viaW HBW.out)) : w.heap.size ≤ gb102)); have n4_ := Aside0.mk ((Nat.le_trans HW0.out (by rw [hg]; exact (below_size (viaW HBW.out)) : w.heap.size ≤ gb102) : w0.heap.size ≤ gb102)); clear HBW; clear HB; have HBW := n0_; have HB := n1_; have BK102 := n2_; have GW102 := n3_; have GE102 := n4_; clear n0_ n1_ n2_ n3_ n4_; clear hb hbox hg))
   go_ret
   exact ⟨_, rfl, (show IsS99 w0 _ gb102 (l0.take 2000) 0 from ⟨_, _, viaB BK102.out, GE102.out, HR101.out⟩), viaX HB.out GE102.out, viaX HBW.out GW102.out⟩
  ·rw [if_neg c3] at H
   exact absurd H (by simp)
 ·rw [if_neg c2] at H
  have c2b0 : decide (2000 < (l0.length : Int)) = false := decide_eq_false c2; have c2b1 : decide (2000 < l0.length) = false := decide_eq_false (by omega); clear c2
  simp only [Option.some.injEq, Prod.mk.injEq] at H
  obtain ⟨rfl, rfl⟩ := H
  go_enter Try.func81, Try.ntmps81
  go_wp2_with (first | ((with_reducible refine gate_dst (N := 10) rfl ?_); refine box_event ?hg (N := 10) ?hd (cs := #[.slice A0 l0.length c0, .int .i64 0]) (t := 99) ?hr ?_; (case hd => rfl); (case hg => rfl); (case hr => first | (go_simp; done) | (go_simp; rfl)); intro gb103 hg w6 hbox hb; have n0_ := Aside0.mk (below_step HBW.out hb); have n1_ := Aside0.mk (below_step (viaW HB.out) hb); have n2_ := Aside0.mk (hbox); have n3_ := Aside0.mk ((by rw [hg]; exact (below_size (viaW HBW.out)) : w.heap.size ≤ gb103)); have n4_ := Aside0.mk ((Nat.le_trans HW0.out (by rw [hg]; exact (below_size (viaW HBW.out)) : w.heap.size ≤ gb103) : w0.heap.size ≤ gb103)); clear HBW; clear HB; have HBW := n0_; have HB := n1_; have BK103 := n2_; have GW103 := n3_; have GE103 := n4_; clear n0_ n1_ n2_ n3_ n4_; clear hb hbox hg))
  go_ret
  exact ⟨_, rfl, (show IsS99 w0 _ gb103 l0 0 from ⟨_, _, viaB BK103.out, GE103.out, HR0.out⟩), viaX HB.out GE103.out, viaX HBW.out GW103.out⟩
/-! ### spec_l6Rd_pick: function 85 -/
def spec_l6Rd_pick.j0 : Nat → Int → Bool → List Int → Int → Option (Int × Int)
 | 0, _, _, _, _ => none
 | k + 1, x1, x24, x1000, x1001 => if x24 = true then (some (0, x1001)) else (if (wrap64 (x1001 - 1)) < (x1000.length : Int) then (if 0 ≤ (wrap64 (x1001 - 1)) then (if x1 = 0 then (none) else (some (Int.tmod (wrap64 (rd x1000 (wrap64 (x1001 - 1)))) x1, x1001))) else (none)) else (if (x1000.length : Int) = 0 then (none) else (if 0 ≤ (Int.tmod (wrap64 (x1001 - 1)) (x1000.length : Int)) then (if (Int.tmod (wrap64 (x1001 - 1)) (x1000.length : Int)) < (x1000.length : Int) then (if 0 ≤ (Int.tmod (wrap64 ((wrap64 ((wrap64 (x1001 - 1)) * 7)) + 3)) (x1000.length : Int)) then (if (Int.tmod (wrap64 ((wrap64 ((wrap64 (x1001 - 1)) * 7)) + 3)) (x1000.length : Int)) < (x1000.length : Int) then (if x1 = 0 then (none) else (some (Int.tmod (Go.bits .xor .i64 (wrap64 ((wrap64 ((wrap64 ((wrap64 ((wrap64 (rd x1000 (Int.tmod (wrap64 (x1001 - 1)) (x1000.length : Int)))) * 131)) + (wrap64 ((wrap64 (rd x1000 (Int.tmod (wrap64 ((wrap64 ((wrap64 (x1001 - 1)) * 7)) + 3)) (x1000.length : Int)))) * 1117)))) + (wrap64 ((wrap64 (x1001 - 1)) * 29)))) + (wrap64 ((wrap64 (Int.tdiv (wrap64 (x1001 - 1)) (x1000.length : Int))) * 53)))) (wrap64 (Int.tdiv (wrap64 ((wrap64 ((wrap64 ((wrap64 ((wrap64 (rd x1000 (Int.tmod (wrap64 (x1001 - 1)) (x1000.length : Int)))) * 131)) + (wrap64 ((wrap64 (rd x1000 (Int.tmod (wrap64 ((wrap64 ((wrap64 (x1001 - 1)) * 7)) + 3)) (x1000.length : Int)))) * 1117)))) + (wrap64 ((wrap64 (x1001 - 1)) * 29)))) + (wrap64 ((wrap64 (Int.tdiv (wrap64 (x1001 - 1)) (x1000.length : Int))) * 53)))) 64))) x1, x1001))) else (none)) else (none)) else (none)) else (none))))
def spec_l6Rd_pick.f (k : Nat) (s0_0 : List Int) (s0_1 : Int) (a1 : Int) : Option (Int × Int) := if a1 < 1 then (spec_l6Rd_pick.j0 k a1 true s0_0 (wrap64 (s0_1 + 1))) else (spec_l6Rd_pick.j0 k a1 ((s0_0.length : Int) == 0) s0_0 (wrap64 (s0_1 + 1)))
theorem spec_l6Rd_pick.mono_l : ∀ k, (∀ y0 y1 y2 y3, LeO (spec_l6Rd_pick.j0 k y0 y1 y2 y3) (spec_l6Rd_pick.j0 (k + 1) y0 y1 y2 y3))
 | 0 => fun _ _ _ _ r h => by simp [spec_l6Rd_pick.j0] at h
 | k + 1 => by
  have ih0 := spec_l6Rd_pick.mono_l k
  ·intro y0 y1 y2 y3
   unfold spec_l6Rd_pick.j0
   repeat' first
   | (with_reducible exact ih0 _ _ _ _)
   | (with_reducible exact LeO.refl _)
   | (with_reducible exact LeO.none _)
   | (with_reducible refine LeO.ite ?_ ?_)
   | (with_reducible refine LeO.bind ?_ (fun _ => ?_))
   | exact ih0 _ _ _ _
   | exact LeO.none _
   | refine LeO.ite ?_ ?_
   | refine LeO.bind ?_ (fun _ => ?_)
theorem spec_l6Rd_pick.mono : ∀ a0 a1 a2 k, LeO (spec_l6Rd_pick.f k a0 a1 a2) (spec_l6Rd_pick.f (k + 1) a0 a1 a2) := by
 intro a0 a1 a2 k; have ih0 := spec_l6Rd_pick.mono_l k
 unfold spec_l6Rd_pick.f
 repeat' first
   | (with_reducible exact ih0 _ _ _ _)
   | (with_reducible exact LeO.refl _)
   | (with_reducible exact LeO.none _)
   | (with_reducible refine LeO.ite ?_ ?_)
   | (with_reducible refine LeO.bind ?_ (fun _ => ?_))
   | exact ih0 _ _ _ _
   | exact LeO.none _
   | refine LeO.ite ?_ ?_
   | refine LeO.bind ?_ (fun _ => ?_)
set_option maxHeartbeats 8000000 in
set_option maxRecDepth 100000 in
theorem spec_l6Rd_pick.calls (k : Nat) (g : Nat) (s0_0 : List Int) (s0_1 : Int) (a1 : Int) (r1 : Int) (r2 : Int) (w0 w : World) (hI : IsS99 w0 w g s0_0 s0_1) (hB : Below w0.heap.size w0 w) (h : spec_l6Rd_pick.f k s0_0 s0_1 a1 = some (r1, r2)) :
  Calls Try.prog 85 #[.pointer (some ⟨g, 0, none⟩), .int .i64 a1] w fun e w' => e = .returned (.int .i64 r1) ∧ IsS99 w0 w' g s0_0 r2 ∧ Below w0.heap.size w0 w' ∧ KeepBut w w' g none := by
 have HI0 := Aside0.mk hI; have HK := Aside0.mk (KeepBut.refl w g none); have HL := Aside0.mk hB.size; clear hI; have HW0 := Aside0.mk hB.size; have HB := Aside0.mk hB; clear hB; have H : (if a1 < 1 then (spec_l6Rd_pick.j0 k a1 true s0_0 (wrap64 (s0_1 + 1))) else (spec_l6Rd_pick.j0 k a1 ((s0_0.length : Int) == 0) s0_0 (wrap64 (s0_1 + 1)))) = some (r1, r2) := h; clear h; have HC3 := Aside0.mk H; clear H; obtain ⟨ASz4_0, cSz4_0, HGz4, hgz4, HSz4_0⟩ := HI0.out; have hcz4_0 := cellS99_0 HGz4; have hcz4_1 := cellS99_1 HGz4; have hfz4_1 := blk_frozen HGz4 1; clear HGz4 hgz4
 go_enter Try.func85, Try.ntmps85
 go_upto_region 2 with (fail)
 repeat (go_quiet (fail); go_upto_region 2 with (fail))
 go_cut [24] (fun v24 wc => ∃ (kq : Nat) (x24_2 : Bool), v24 = .bool x24_2 ∧ Aside0 (spec_l6Rd_pick.j0 kq a1 x24_2 s0_0 (wrap64 (s0_1 + 1)) = some (r1, r2)) ∧ Aside0 (kq ≤ k) ∧ Aside0 (IsS99 w0 wc g s0_0 (wrap64 (s0_1 + 1))) ∧ Aside0 (KeepBut w wc g none) ∧ Aside0 (Below w0.heap.size w0 wc))
 case first =>
  have H := HC3.out; clear HC3
  by_cases c5 : a1 < 1
  ·rw [if_pos c5] at H
   have c5b0 : decide (a1 < 1) = true := decide_eq_true c5; clear c5
   (first | rw [c5b0] | (simp only [i64_w, i32_w]; rw [c5b0]) | skip)
   have H' := Aside0.mk H; clear H
   go_wp2
   repeat (go_quiet (fail); try go_wp2)
   go_meet
   case rel => exact ⟨_, (true), (by first | rfl | (simp; done) | (simp [*]; done)), H', ⟨by first | omega | exact Nat.le_refl _⟩, ⟨by exact viaI HI0.out⟩, ⟨viaK HK.out⟩, ⟨viaX HB.out (IsS99.ge HI0.out)⟩⟩
  ·rw [if_neg c5] at H
   have c5b0 : decide (a1 < 1) = false := decide_eq_false c5; clear c5
   (first | rw [c5b0] | (simp only [i64_w, i32_w]; rw [c5b0]) | skip)
   have H' := Aside0.mk H; clear H; obtain ⟨ASz6_0, cSz6_0, HGz6, hgz6, HSz6_0⟩ := HI0.out; have hcz6_0 := cellS99_0 HGz6; have hcz6_1 := cellS99_1 HGz6; have hfz6_1 := blk_frozen HGz6 1; clear HGz6 hgz6
   go_wp2
   repeat (go_quiet (fail); try go_wp2)
   go_meet
   case rel => exact ⟨_, (((s0_0.length : Int) == 0)), (by first | rfl | (simp; done) | (simp [*]; done)), H', ⟨by first | omega | exact Nat.le_refl _⟩, ⟨by exact viaI HI0.out⟩, ⟨viaK HK.out⟩, ⟨viaX HB.out (IsS99.ge HI0.out)⟩⟩
 case rest =>
  clear HC3
  try clear p2
  try clear c5
  try clear c5b0
  try clear p6
  try clear hcz4_0
  try clear hcz4_1
  try clear hcz6_0
  try clear hcz6_1
  try clear hfz4_1
  try clear hfz6_1
  obtain ⟨kq, x24_2, rfl, HA, HJ2, HI0, HK, HB⟩ := hcut
  cases kq with
  | zero => exact absurd HA.out (by simp [spec_l6Rd_pick.j0])
  | succ kj2 =>
   have H := HA.out; clear HA
   simp only [spec_l6Rd_pick.j0] at H
   by_cases c7 : x24_2 = true
   ·subst c7
    have H1 : (some (0, (wrap64 (s0_1 + 1)))) = some (r1, r2) := by rw [if_pos rfl] at H; exact H
    clear H; have H := H1; clear H1
    simp only [Option.some.injEq, Prod.mk.injEq] at H
    obtain ⟨rfl, rfl⟩ := H
    go_wp2
    repeat (go_quiet (fail); try go_wp2)
    go_ret
    exact ⟨by first | rfl | (simp [errW_none, errW_some] <;> rfl) | (simp [*, errW_none, errW_some] <;> rfl), by exact viaI HI0.out, viaX HB.out (IsS99.ge HI0.out), viaK HK.out⟩
   ·replace c7 := Bool.eq_false_iff.mpr c7
    subst c7; have H1 : (if (wrap64 ((wrap64 (s0_1 + 1)) - 1)) < (s0_0.length : Int) then (if 0 ≤ (wrap64 ((wrap64 (s0_1 + 1)) - 1)) then (if a1 = 0 then (none) else (some (Int.tmod (wrap64 (rd s0_0 (wrap64 ((wrap64 (s0_1 + 1)) - 1)))) a1, (wrap64 (s0_1 + 1))))) else (none)) else (if (s0_0.length : Int) = 0 then (none) else (if 0 ≤ (Int.tmod (wrap64 ((wrap64 (s0_1 + 1)) - 1)) (s0_0.length : Int)) then (if (Int.tmod (wrap64 ((wrap64 (s0_1 + 1)) - 1)) (s0_0.length : Int)) < (s0_0.length : Int) then (if 0 ≤ (Int.tmod (wrap64 ((wrap64 ((wrap64 ((wrap64 (s0_1 + 1)) - 1)) * 7)) + 3)) (s0_0.length : Int)) then (if (Int.tmod (wrap64 ((wrap64 ((wrap64 ((wrap64 (s0_1 + 1)) - 1)) * 7)) + 3)) (s0_0.length : Int)) < (s0_0.length : Int) then (if a1 = 0 then (none) else (some (Int.tmod (Go.bits .xor .i64 (wrap64 ((wrap64 ((wrap64 ((wrap64 ((wrap64 (rd s0_0 (Int.tmod (wrap64 ((wrap64 (s0_1 + 1)) - 1)) (s0_0.length : Int)))) * 131)) + (wrap64 ((wrap64 (rd s0_0 (Int.tmod (wrap64 ((wrap64 ((wrap64 ((wrap64 (s0_1 + 1)) - 1)) * 7)) + 3)) (s0_0.length : Int)))) * 1117)))) + (wrap64 ((wrap64 ((wrap64 (s0_1 + 1)) - 1)) * 29)))) + (wrap64 ((wrap64 (Int.tdiv (wrap64 ((wrap64 (s0_1 + 1)) - 1)) (s0_0.length : Int))) * 53)))) (wrap64 (Int.tdiv (wrap64 ((wrap64 ((wrap64 ((wrap64 ((wrap64 (rd s0_0 (Int.tmod (wrap64 ((wrap64 (s0_1 + 1)) - 1)) (s0_0.length : Int)))) * 131)) + (wrap64 ((wrap64 (rd s0_0 (Int.tmod (wrap64 ((wrap64 ((wrap64 ((wrap64 (s0_1 + 1)) - 1)) * 7)) + 3)) (s0_0.length : Int)))) * 1117)))) + (wrap64 ((wrap64 ((wrap64 (s0_1 + 1)) - 1)) * 29)))) + (wrap64 ((wrap64 (Int.tdiv (wrap64 ((wrap64 (s0_1 + 1)) - 1)) (s0_0.length : Int))) * 53)))) 64))) a1, (wrap64 (s0_1 + 1))))) else (none)) else (none)) else (none)) else (none)))) = some (r1, r2) := by rw [if_neg (show ¬ (false = true) by decide)] at H; exact H
    clear H; have H := H1; clear H1
    by_cases c8 : (wrap64 ((wrap64 (s0_1 + 1)) - 1)) < (s0_0.length : Int)
    ·rw [if_pos c8] at H
     have c8b0 : decide ((wrap64 ((wrap64 (s0_1 + 1)) - 1)) < (s0_0.length : Int)) = true := decide_eq_true c8; clear c8; obtain ⟨ji9, hji9⟩ : ∃ j_ : Int, (wrap64 ((wrap64 (s0_1 + 1)) - 1)) = j_ := ⟨_, rfl⟩; replace H : (if 0 ≤ (ji9) then (if a1 = 0 then (none) else (some (Int.tmod (wrap64 (rd s0_0 (ji9))) a1, (wrap64 (s0_1 + 1))))) else (none)) = some (r1, r2) := by first | (rw [hji9] at H; exact H) | (simp only [hji9] at H ⊢; exact H)
     (try rw [hji9] at c8b0)
     have hji9w : (IntKind.i64.wrap ((wrap64 (s0_1 + 1)) - 1)) = ji9 := (i64_w _).trans hji9
     by_cases c10 : 0 ≤ (ji9)
     ·rw [if_pos c10] at H
      have c10b0 : decide (0 ≤ (ji9)) = true := decide_eq_true c10; clear c10
      by_cases c11 : a1 = 0
      ·rw [if_pos c11] at H
       exact absurd H (by simp)
      ·rw [if_neg c11] at H
       have c11b0 : (a1 == 0) = false := beq_eq_false_iff_ne.mpr c11; have c11b1 : (a1 != 0) = true := bne_iff_ne.mpr c11
       simp only [Option.some.injEq, Prod.mk.injEq] at H
       obtain ⟨rfl, rfl⟩ := H; obtain ⟨ASz12_0, cSz12_0, HGz12, hgz12, HSz12_0⟩ := HI0.out; have hcz12_0 := cellS99_0 HGz12; have hcz12_1 := cellS99_1 HGz12; have hfz12_1 := blk_frozen HGz12 1; clear HGz12 hgz12; have p104 : 0 ≤ ((ji9) : Int) := of_decide_eq_true (by first | (with_reducible assumption) | assumption); have q104 : (ji9) < (s0_0.length : Int) := of_decide_eq_true (by first | (with_reducible assumption) | assumption); obtain ⟨ad104, e104, hx104_0⟩ := Kd.at_int HSz12_0 (ji9) p104 q104
       cases e104
       replace hx104_0 := pw_cell_below HB.out hx104_0; replace p104 := eq_true p104; replace q104 := eq_true q104
       go_wp2
       repeat (go_quiet (fail); try go_wp2)
       go_ret
       exact ⟨by first | rfl | (simp [errW_none, errW_some] <;> rfl) | (simp only [← hji9]; first | rfl | (simp [errW_none, errW_some] <;> rfl)) | (simp [*, errW_none, errW_some] <;> rfl), by exact viaI HI0.out, viaX HB.out (IsS99.ge HI0.out), viaK HK.out⟩
     ·rw [if_neg c10] at H
      exact absurd H (by simp)
    ·rw [if_neg c8] at H
     have c8b0 : decide ((wrap64 ((wrap64 (s0_1 + 1)) - 1)) < (s0_0.length : Int)) = false := decide_eq_false c8; clear c8
     by_cases c13 : (s0_0.length : Int) = 0
     ·rw [if_pos c13] at H
      exact absurd H (by simp)
     ·rw [if_neg c13] at H
      have c13b0 : ((s0_0.length : Int) == 0) = false := beq_eq_false_iff_ne.mpr c13; have c13b1 : ((s0_0.length : Int) != 0) = true := bne_iff_ne.mpr c13; have c13b2 : ¬ (s0_0 = []) := fun h_ => c13 (by rw [h_]; rfl); obtain ⟨ji14, hji14⟩ : ∃ j_ : Int, (Int.tmod (wrap64 ((wrap64 (s0_1 + 1)) - 1)) (s0_0.length : Int)) = j_ := ⟨_, rfl⟩; replace H : (if 0 ≤ (ji14) then (if (ji14) < (s0_0.length : Int) then (if 0 ≤ (Int.tmod (wrap64 ((wrap64 ((wrap64 ((wrap64 (s0_1 + 1)) - 1)) * 7)) + 3)) (s0_0.length : Int)) then (if (Int.tmod (wrap64 ((wrap64 ((wrap64 ((wrap64 (s0_1 + 1)) - 1)) * 7)) + 3)) (s0_0.length : Int)) < (s0_0.length : Int) then (if a1 = 0 then (none) else (some (Int.tmod (Go.bits .xor .i64 (wrap64 ((wrap64 ((wrap64 ((wrap64 ((wrap64 (rd s0_0 (ji14))) * 131)) + (wrap64 ((wrap64 (rd s0_0 (Int.tmod (wrap64 ((wrap64 ((wrap64 ((wrap64 (s0_1 + 1)) - 1)) * 7)) + 3)) (s0_0.length : Int)))) * 1117)))) + (wrap64 ((wrap64 ((wrap64 (s0_1 + 1)) - 1)) * 29)))) + (wrap64 ((wrap64 (Int.tdiv (wrap64 ((wrap64 (s0_1 + 1)) - 1)) (s0_0.length : Int))) * 53)))) (wrap64 (Int.tdiv (wrap64 ((wrap64 ((wrap64 ((wrap64 ((wrap64 (rd s0_0 (ji14))) * 131)) + (wrap64 ((wrap64 (rd s0_0 (Int.tmod (wrap64 ((wrap64 ((wrap64 ((wrap64 (s0_1 + 1)) - 1)) * 7)) + 3)) (s0_0.length : Int)))) * 1117)))) + (wrap64 ((wrap64 ((wrap64 (s0_1 + 1)) - 1)) * 29)))) + (wrap64 ((wrap64 (Int.tdiv (wrap64 ((wrap64 (s0_1 + 1)) - 1)) (s0_0.length : Int))) * 53)))) 64))) a1, (wrap64 (s0_1 + 1))))) else (none)) else (none)) else (none)) else (none)) = some (r1, r2) := by first | (rw [hji14] at H; exact H) | (simp only [hji14] at H ⊢; exact H)
      by_cases c15 : 0 ≤ (ji14)
      ·rw [if_pos c15] at H
       have c15b0 : decide (0 ≤ (ji14)) = true := decide_eq_true c15; clear c15
       by_cases c16 : (ji14) < (s0_0.length : Int)
       ·rw [if_pos c16] at H
        have c16b0 : decide ((ji14) < (s0_0.length : Int)) = true := decide_eq_true c16; clear c16; obtain ⟨ji17, hji17⟩ : ∃ j_ : Int, (Int.tmod (wrap64 ((wrap64 ((wrap64 ((wrap64 (s0_1 + 1)) - 1)) * 7)) + 3)) (s0_0.length : Int)) = j_ := ⟨_, rfl⟩; replace H : (if 0 ≤ (ji17) then (if (ji17) < (s0_0.length : Int) then (if a1 = 0 then (none) else (some (Int.tmod (Go.bits .xor .i64 (wrap64 ((wrap64 ((wrap64 ((wrap64 ((wrap64 (rd s0_0 (ji14))) * 131)) + (wrap64 ((wrap64 (rd s0_0 (ji17))) * 1117)))) + (wrap64 ((wrap64 ((wrap64 (s0_1 + 1)) - 1)) * 29)))) + (wrap64 ((wrap64 (Int.tdiv (wrap64 ((wrap64 (s0_1 + 1)) - 1)) (s0_0.length : Int))) * 53)))) (wrap64 (Int.tdiv (wrap64 ((wrap64 ((wrap64 ((wrap64 ((wrap64 (rd s0_0 (ji14))) * 131)) + (wrap64 ((wrap64 (rd s0_0 (ji17))) * 1117)))) + (wrap64 ((wrap64 ((wrap64 (s0_1 + 1)) - 1)) * 29)))) + (wrap64 ((wrap64 (Int.tdiv (wrap64 ((wrap64 (s0_1 + 1)) - 1)) (s0_0.length : Int))) * 53)))) 64))) a1, (wrap64 (s0_1 + 1))))) else (none)) else (none)) = some (r1, r2) := by first | (rw [hji17] at H; exact H) | (simp only [hji17] at H ⊢; exact H)
        by_cases c18 : 0 ≤ (ji17)
        ·rw [if_pos c18] at H
         have c18b0 : decide (0 ≤ (ji17)) = true := decide_eq_true c18; clear c18
         by_cases c19 : (ji17) < (s0_0.length : Int)
         ·rw [if_pos c19] at H
          have c19b0 : decide ((ji17) < (s0_0.length : Int)) = true := decide_eq_true c19; clear c19
          by_cases c20 : a1 = 0
          ·rw [if_pos c20] at H
           exact absurd H (by simp)
          ·rw [if_neg c20] at H
           have c20b0 : (a1 == 0) = false := beq_eq_false_iff_ne.mpr c20; have c20b1 : (a1 != 0) = true := bne_iff_ne.mpr c20
           simp only [Option.some.injEq, Prod.mk.injEq] at H
           obtain ⟨rfl, rfl⟩ := H; obtain ⟨ASz21_0, cSz21_0, HGz21, hgz21, HSz21_0⟩ := HI0.out; have hcz21_0 := cellS99_0 HGz21; have hcz21_1 := cellS99_1 HGz21; have hfz21_1 := blk_frozen HGz21 1; clear HGz21 hgz21; have p105 : 0 ≤ ((ji14) : Int) := of_decide_eq_true (by first | (with_reducible assumption) | assumption); have q105 : (ji14) < (s0_0.length : Int) := of_decide_eq_true (by first | (with_reducible assumption) | assumption); obtain ⟨ad105, e105, hx105_0⟩ := Kd.at_int HSz21_0 (ji14) p105 q105
           cases e105
           replace hx105_0 := pw_cell_below HB.out hx105_0; replace p105 := eq_true p105; replace q105 := eq_true q105; have p106 : 0 ≤ ((ji17) : Int) := of_decide_eq_true (by first | (with_reducible assumption) | assumption); have q106 : (ji17) < (s0_0.length : Int) := of_decide_eq_true (by first | (with_reducible assumption) | assumption); obtain ⟨ad106, e106, hx106_0⟩ := Kd.at_int HSz21_0 (ji17) p106 q106; obtain rfl : ad105 = ad106 := (by injection e106); replace hx106_0 := pw_cell_below HB.out hx106_0; replace p106 := eq_true p106; replace q106 := eq_true q106
           go_wp2
           repeat (go_quiet (fail); try go_wp2)
           go_ret
           exact ⟨by first | rfl | (simp [errW_none, errW_some] <;> rfl) | (simp only [← hji14, ← hji17]; first | rfl | (simp [errW_none, errW_some] <;> rfl)) | (simp [*, errW_none, errW_some] <;> rfl), by exact viaI HI0.out, viaX HB.out (IsS99.ge HI0.out), viaK HK.out⟩
         ·rw [if_neg c19] at H
          exact absurd H (by simp)
        ·rw [if_neg c18] at H
         exact absurd H (by simp)
       ·rw [if_neg c16] at H
        exact absurd H (by simp)
      ·rw [if_neg c15] at H
       exact absurd H (by simp)
/-! ### spec_l91Graph: function 93 -/
mutual
def spec_l91Graph.l0 : Nat → Int → Int → Int → List Int → Int → Int → List (S69) → Option (Int × (List (S69)) × Int)
 | 0, _, _, _, _, _, _, _ => none
 | k + 1, x3, x5, x6, x1000, x1001, x114000, x114001 => if x6 < x3 then (spec_l91Graph.l1 k x3 x5 x6 (wrap64 (x6 + 1)) x1000 x1001 x114000 x114001) else ((spec_l6Rd_pick.f k x1000 x1001 40).bind fun bt116 => (if bt116.1 = 0 then (if x114001.length < 8796093022208 then (some (x114000, (x114001 ++ [(⟨wrap64 (x3 - 1), 0⟩ : S69)]), bt116.2)) else (none)) else (some (x114000, x114001, bt116.2))))
def spec_l91Graph.l1 : Nat → Int → Int → Int → Int → List Int → Int → Int → List (S69) → Option (Int × (List (S69)) × Int)
 | 0, _, _, _, _, _, _, _, _ => none
 | k + 1, x3, x5, x6, x7, x1000, x1001, x114000, x114001 => if x7 < x3 then (if x5 = 0 then (if x114001.length < 8796093022208 then (spec_l91Graph.l1 k x3 x5 x6 (wrap64 (x7 + 1)) x1000 x1001 x114000 (x114001 ++ [(⟨x6, x7⟩ : S69)])) else (none)) else (if x5 = 1 then (if x7 = (wrap64 (x6 + 1)) then (if x114001.length < 8796093022208 then (spec_l91Graph.l1 k x3 x5 x6 (wrap64 (x7 + 1)) x1000 x1001 x114000 (x114001 ++ [(⟨x6, x7⟩ : S69)])) else (none)) else (if x6 = 0 then (if x7 = (wrap64 (x3 - 1)) then (if x114001.length < 8796093022208 then (spec_l91Graph.l1 k x3 x5 x6 (wrap64 (x7 + 1)) x1000 x1001 x114000 (x114001 ++ [(⟨x6, x7⟩ : S69)])) else (none)) else (if x5 > 1 then ((spec_l6Rd_pick.f k x1000 x1001 5).bind fun bt130 => (if bt130.1 > 1 then (if x114001.length < 8796093022208 then (spec_l91Graph.l1 k x3 x5 x6 (wrap64 (x7 + 1)) x1000 bt130.2 x114000 (x114001 ++ [(⟨x6, x7⟩ : S69)])) else (none)) else (spec_l91Graph.l1 k x3 x5 x6 (wrap64 (x7 + 1)) x1000 bt130.2 x114000 x114001))) else (spec_l91Graph.l1 k x3 x5 x6 (wrap64 (x7 + 1)) x1000 x1001 x114000 x114001))) else (if x5 > 1 then ((spec_l6Rd_pick.f k x1000 x1001 5).bind fun bt135 => (if bt135.1 > 1 then (if x114001.length < 8796093022208 then (spec_l91Graph.l1 k x3 x5 x6 (wrap64 (x7 + 1)) x1000 bt135.2 x114000 (x114001 ++ [(⟨x6, x7⟩ : S69)])) else (none)) else (spec_l91Graph.l1 k x3 x5 x6 (wrap64 (x7 + 1)) x1000 bt135.2 x114000 x114001))) else (spec_l91Graph.l1 k x3 x5 x6 (wrap64 (x7 + 1)) x1000 x1001 x114000 x114001)))) else (if x5 > 1 then ((spec_l6Rd_pick.f k x1000 x1001 5).bind fun bt140 => (if bt140.1 > 1 then (if x114001.length < 8796093022208 then (spec_l91Graph.l1 k x3 x5 x6 (wrap64 (x7 + 1)) x1000 bt140.2 x114000 (x114001 ++ [(⟨x6, x7⟩ : S69)])) else (none)) else (spec_l91Graph.l1 k x3 x5 x6 (wrap64 (x7 + 1)) x1000 bt140.2 x114000 x114001))) else (spec_l91Graph.l1 k x3 x5 x6 (wrap64 (x7 + 1)) x1000 x1001 x114000 x114001)))) else (spec_l91Graph.l0 k x3 x5 (wrap64 (x6 + 1)) x1000 x1001 x114000 x114001)
end
def spec_l91Graph.f (k : Nat) (s0_0 : List Int) (s0_1 : Int) : Option (Int × (List (S69)) × Int) := (spec_l6Rd_pick.f k s0_0 s0_1 5).bind fun bt108 => ((spec_l6Rd_pick.f k s0_0 bt108.2 4).bind fun bt114 => (spec_l91Graph.l0 k (wrap64 (1 + bt108.1)) bt114.1 0 s0_0 bt114.2 (wrap64 (1 + bt108.1)) (([] : List (S69)))))
theorem spec_l91Graph.mono_l : ∀ k, (∀ y0 y1 y2 y3 y4 y5 y6, LeO (spec_l91Graph.l0 k y0 y1 y2 y3 y4 y5 y6) (spec_l91Graph.l0 (k + 1) y0 y1 y2 y3 y4 y5 y6)) ∧ (∀ y0 y1 y2 y3 y4 y5 y6 y7, LeO (spec_l91Graph.l1 k y0 y1 y2 y3 y4 y5 y6 y7) (spec_l91Graph.l1 (k + 1) y0 y1 y2 y3 y4 y5 y6 y7))
 | 0 => ⟨fun _ _ _ _ _ _ _ r h => by simp [spec_l91Graph.l0] at h, fun _ _ _ _ _ _ _ _ r h => by simp [spec_l91Graph.l1] at h⟩
 | k + 1 => by
  obtain ⟨ih0, ih1⟩ := spec_l91Graph.mono_l k
  refine ⟨?_, ?_⟩
  ·intro y0 y1 y2 y3 y4 y5 y6
   unfold spec_l91Graph.l0
   repeat' first
   | (with_reducible exact ih0 _ _ _ _ _ _ _)
   | (with_reducible exact ih1 _ _ _ _ _ _ _ _)
   | (with_reducible exact spec_l6Rd_pick.mono _ _ _ _)
   | (with_reducible exact LeO.refl _)
   | (with_reducible exact LeO.none _)
   | (with_reducible refine LeO.ite ?_ ?_)
   | (with_reducible refine LeO.bind ?_ (fun _ => ?_))
   | exact ih0 _ _ _ _ _ _ _
   | exact ih1 _ _ _ _ _ _ _ _
   | exact spec_l6Rd_pick.mono _ _ _ _
   | exact LeO.none _
   | refine LeO.ite ?_ ?_
   | refine LeO.bind ?_ (fun _ => ?_)
  ·intro y0 y1 y2 y3 y4 y5 y6 y7
   unfold spec_l91Graph.l1
   repeat' first
   | (with_reducible exact ih0 _ _ _ _ _ _ _)
   | (with_reducible exact ih1 _ _ _ _ _ _ _ _)
   | (with_reducible exact spec_l6Rd_pick.mono _ _ _ _)
   | (with_reducible exact LeO.refl _)
   | (with_reducible exact LeO.none _)
   | (with_reducible refine LeO.ite ?_ ?_)
   | (with_reducible refine LeO.bind ?_ (fun _ => ?_))
   | exact ih0 _ _ _ _ _ _ _
   | exact ih1 _ _ _ _ _ _ _ _
   | exact spec_l6Rd_pick.mono _ _ _ _
   | exact LeO.none _
   | refine LeO.ite ?_ ?_
   | refine LeO.bind ?_ (fun _ => ?_)
theorem spec_l91Graph.mono : ∀ a0 a1 k, LeO (spec_l91Graph.f k a0 a1) (spec_l91Graph.f (k + 1) a0 a1) := by
 intro a0 a1 k; obtain ⟨ih0, ih1⟩ := spec_l91Graph.mono_l k
 unfold spec_l91Graph.f
 repeat' first
   | (with_reducible exact ih0 _ _ _ _ _ _ _)
   | (with_reducible exact ih1 _ _ _ _ _ _ _ _)
   | (with_reducible exact spec_l6Rd_pick.mono _ _ _ _)
   | (with_reducible exact LeO.refl _)
   | (with_reducible exact LeO.none _)
   | (with_reducible refine LeO.ite ?_ ?_)
   | (with_reducible refine LeO.bind ?_ (fun _ => ?_))
   | exact ih0 _ _ _ _ _ _ _
   | exact ih1 _ _ _ _ _ _ _ _
   | exact spec_l6Rd_pick.mono _ _ _ _
   | exact LeO.none _
   | refine LeO.ite ?_ ?_
   | refine LeO.bind ?_ (fun _ => ?_)
set_option maxHeartbeats 8000000 in
set_option maxRecDepth 100000 in
theorem spec_l91Graph.calls (k : Nat) (g : Nat) (s0_0 : List Int) (s0_1 : Int) (r1 : Int) (r2 : List (S69)) (r3 : Int) (w0 w : World) (hI : IsS99 w0 w g s0_0 s0_1) (hB : Below w0.heap.size w0 w) (h : spec_l91Graph.f k s0_0 s0_1 = some (r1, r2, r3)) :
  Calls Try.prog 93 #[.pointer (some ⟨g, 0, none⟩)] w fun e w' => ∃ v1_ : Value, e = .returned (.agg #[.int .i64 r1, v1_]) ∧ Kd.R k69 69 w' w.heap.size (fun _ => True) v1_ r2 ∧ IsS99 w0 w' g s0_0 r3 ∧ Below w0.heap.size w0 w' ∧ KeepBut w w' g none := by
 have hu25 := Try.underlying25; have hu69 := Try.underlying69; have HI0 := Aside0.mk hI; have HK := Aside0.mk (KeepBut.refl w g none); have HL := Aside0.mk hB.size; clear hI; have HW0 := Aside0.mk hB.size; have HB := Aside0.mk hB; clear hB; have H : ((spec_l6Rd_pick.f k s0_0 s0_1 5).bind fun bt108 => ((spec_l6Rd_pick.f k s0_0 bt108.2 4).bind fun bt114 => (spec_l91Graph.l0 k (wrap64 (1 + bt108.1)) bt114.1 0 s0_0 bt114.2 (wrap64 (1 + bt108.1)) (([] : List (S69)))))) = some (r1, r2, r3) := h; clear h; replace H := Option.bind_eq_some_iff.mp H; obtain ⟨⟨t108, t109⟩, A20, H⟩ := H; replace H : ((spec_l6Rd_pick.f k s0_0 t109 4).bind fun bt114 => (spec_l91Graph.l0 k (wrap64 (1 + t108)) bt114.1 0 s0_0 bt114.2 (wrap64 (1 + t108)) (([] : List (S69))))) = some (r1, r2, r3) := H; have A2 := Aside0.mk A20; clear A20; obtain ⟨y110, hy110⟩ : ∃ y_ : List (S69), y_ = (([] : List (S69))) := ⟨_, rfl⟩; replace H : ((spec_l6Rd_pick.f k s0_0 t109 4).bind fun bt114 => (spec_l91Graph.l0 k (wrap64 (1 + t108)) bt114.1 0 s0_0 bt114.2 (wrap64 (1 + t108)) y110)) = some (r1, r2, r3) := by first | (rw [hy110]; with_reducible exact H) | (have H2_ := (Option.bind_some _ _).symm.trans H; rw [hy110]; with_reducible exact H2_) | (have H2_ := (Option.bind_some _ _).symm.trans H; with_reducible exact H2_) | with_reducible exact H | (rw [hy110]; exact H) | exact H
 have Ny110 := Aside0.mk hy110; clear hy110; replace H := Option.bind_eq_some_iff.mp H; obtain ⟨⟨t114, t115⟩, A30, H⟩ := H; replace H : (spec_l91Graph.l0 k (wrap64 (1 + t108)) t114 0 s0_0 t115 (wrap64 (1 + t108)) y110) = some (r1, r2, r3) := H; have A3 := Aside0.mk A30; clear A30; have H' := Aside0.mk H; clear H
 go_enter Try.func93, Try.ntmps93
 go_wp2_with (first | ((with_reducible refine gate_dst (N := 2) rfl ?_); refine box_event ?hg (N := 2) ?hd (cs := #[.int .i64 0, .slice none 0 0]) (t := 25) ?hr ?_; (case hd => rfl); (case hg => rfl); (case hr => first | (go_simp; done) | (go_simp; rfl)); intro gb107 hg w4 hbox hb; have n0_ := Aside0.mk (IsS99.below (by exact viaI HI0.out) hb); have n1_ := Aside0.mk (KeepBut.trans (viaK HK.out) (KeepBut.of_below hb g none) (.inl rfl)); have n2_ := Aside0.mk (below_step (viaX HB.out (IsS99.ge HI0.out)) hb); have n3_ := Aside0.mk (hbox); have n4_ := Aside0.mk ((by rw [hg]; exact (keep_size (w := w) (g := g) (row := none) (viaK HK.out)) : w.heap.size ≤ gb107)); have n5_ := Aside0.mk ((Nat.le_trans HW0.out (by rw [hg]; exact (keep_size (w := w) (g := g) (row := none) (viaK HK.out)) : w.heap.size ≤ gb107) : w0.heap.size ≤ gb107)); have n6_ := Aside0.mk ((by rw [hg]; exact Nat.ne_of_lt (IsS99.lt (show IsS99 w0 _ g s0_0 s0_1 from by exact viaI HI0.out)) : g ≠ gb107)); have n7_ := Aside0.mk ((by rw [hg]; exact Nat.ne_of_gt (IsS99.lt (show IsS99 w0 _ g s0_0 s0_1 from by exact viaI HI0.out)) : gb107 ≠ g)); clear HI0; clear HK; clear HB; have HI0 := n0_; have HK := n1_; have HB := n2_; have BK107 := n3_; have GW107 := n4_; have GE107 := n5_; have NB0_107 := n6_; have NB107_0 := n7_; clear n0_ n1_ n2_ n3_ n4_ n5_ n6_ n7_; clear hb hbox hg) | ((with_reducible refine gate_callee (f := 85) rfl ?_); refine goesL_ (some 9) rfl rfl Try.func85 (by kernel_rfl) rfl #[.pointer (some ⟨g, 0, none⟩), .int .i64 5] rfl (by (try simp only [List.map_toArray, List.map_cons, List.map_nil]); first | done | rfl) ?_; (with_reducible refine (spec_l6Rd_pick.calls k g s0_0 s0_1 5 t108 t109 w0 _ ?side1 ?side2 A2.out).mono ?_); (case side1 => exact viaI1 HI0.out NB0_107.out); (case side2 => repeat (first | (with_reducible first | exact HB.out | apply below_alloc | apply pw_below_drewN | apply below_drew1 | refine below_set ?_ (IsS99.ge HI0.out) | refine below_set ?_ GE107.out) | exact HB.out)); rintro e w5 ⟨rfl, hi, hb, hk⟩; refine ⟨_, rfl, ?_⟩; have n0_ := Aside0.mk (KeepBut.blk hk (g' := gb107) (o := .cells #[.int .i64 0, .slice none 0 0] 25 (0, 0)) (viaB BK107.out) NB107_0.out (by simp)); have n1_ := Aside0.mk (KeepBut.trans (viaK1 HK.out GW107.out) hk (.inl rfl)); have n2_ := Aside0.mk (hb); have n3_ := Aside0.mk (hi); clear BK107; clear HK; clear HB; clear HI0; have BK107 := n0_; have HK := n1_; have HB := n2_; have HI0 := n3_; clear n0_ n1_ n2_ n3_; (try clear hb); (try clear hb2); (try clear hk); (try clear hi)) | ((with_reducible refine gate_dst (N := 12) rfl ?_); refine Kd.R_lit k69 _ 69 ?hg (N := 12) ?hd (xs := ([] : List (S69))) (inner := []) (ok := fun _ => True) (okp := fun _ => True) ?hr ?hp (fun _ hk => hk) trivial (Below.refl _ _) (Nat.le_refl _) (by simp) ?_; (case hd => rfl); (case hg => rfl); (case hr => first | (go_simp; done) | (go_simp; rfl)); (case hp => exact (Reps.none _ _)); intro v111 w6 ho7 hb hg_ hnew_; clear hg_ hnew_; (first | rw [← Ny110.out] at ho7 | (simp only [Int.reduceToNat] at ho7; rw [← Ny110.out] at ho7)); have n0_ := Aside0.mk (Kd.R_lower ho7 (keep_size (w := w) (g := g) (row := none) (viaK1 HK.out GW107.out))); have n1_ := Aside0.mk (IsS99.below (by exact viaI1 HI0.out NB0_107.out) hb); have n2_ := Aside0.mk (blk_below (g := gb107) (o := .cells #[.int .i64 0, .slice none 0 0] 25 (0, 0)) (viaB BK107.out) hb); have n3_ := Aside0.mk (KeepBut.trans (viaK1 HK.out GW107.out) (KeepBut.of_below hb g none) (.inl rfl)); have n4_ := Aside0.mk (below_step (viaX2 HB.out (IsS99.ge HI0.out) GE107.out) hb); clear HI0; clear BK107; clear HK; clear HB; have HO112 := n0_; have HI0 := n1_; have BK107 := n2_; have HK := n3_; have HB := n4_; clear n0_ n1_ n2_ n3_ n4_; clear hb ho7; obtain ⟨Ao8, co8, eo8⟩ := Kd.R_slice HO112.out; subst eo8) | ((with_reducible refine gate_dst (N := 4) rfl ?_); refine box_event ?hg (N := 4) ?hd (cs := #[.int .i64 0, .slice none 0 0]) (t := 25) ?hr ?_; (case hd => rfl); (case hg => rfl); (case hr => first | (go_simp; done) | (go_simp; rfl)); intro gb113 hg w9 hbox hb; have n0_ := Aside0.mk (Kd.R_below (viaR HO112.out) hb); have n1_ := Aside0.mk (IsS99.below (by exact viaI1 HI0.out NB0_107.out) hb); have n2_ := Aside0.mk (blk_below (g := gb107) (o := .cells #[.int .i64 0, .slice none 0 0] 25 (0, 0)) (viaB BK107.out) hb); have n3_ := Aside0.mk (KeepBut.trans (viaK1 HK.out GW107.out) (KeepBut.of_below hb g none) (.inl rfl)); have n4_ := Aside0.mk (below_step (viaX2 HB.out (IsS99.ge HI0.out) GE107.out) hb); have n5_ := Aside0.mk (hbox); have n6_ := Aside0.mk ((by rw [hg]; exact (keep_size (w := w) (g := g) (row := none) (viaK1 HK.out GW107.out)) : w.heap.size ≤ gb113)); have n7_ := Aside0.mk ((Nat.le_trans HW0.out (by rw [hg]; exact (keep_size (w := w) (g := g) (row := none) (viaK1 HK.out GW107.out)) : w.heap.size ≤ gb113) : w0.heap.size ≤ gb113)); have n8_ := Aside0.mk ((by rw [hg]; exact Nat.ne_of_lt (blk_lt (g := gb107) (o := .cells #[.int .i64 0, .slice none 0 0] 25 (0, 0)) (viaB BK107.out)) : gb107 ≠ gb113)); have n9_ := Aside0.mk ((by rw [hg]; exact Nat.ne_of_gt (blk_lt (g := gb107) (o := .cells #[.int .i64 0, .slice none 0 0] 25 (0, 0)) (viaB BK107.out)) : gb113 ≠ gb107)); have n10_ := Aside0.mk ((by rw [hg]; exact Nat.ne_of_lt (IsS99.lt (show IsS99 w0 _ g s0_0 t109 from by exact viaI1 HI0.out NB0_107.out)) : g ≠ gb113)); have n11_ := Aside0.mk ((by rw [hg]; exact Nat.ne_of_gt (IsS99.lt (show IsS99 w0 _ g s0_0 t109 from by exact viaI1 HI0.out NB0_107.out)) : gb113 ≠ g)); clear HO112; clear HI0; clear BK107; clear HK; clear HB; have HO112 := n0_; have HI0 := n1_; have BK107 := n2_; have HK := n3_; have HB := n4_; have BK113 := n5_; have GW113 := n6_; have GE113 := n7_; have NB107_113 := n8_; have NB113_107 := n9_; have NB0_113 := n10_; have NB113_0 := n11_; clear n0_ n1_ n2_ n3_ n4_ n5_ n6_ n7_ n8_ n9_ n10_ n11_; clear hb hbox hg; have hnb10 := NB113_107.out; have hnc10 := NB107_113.out; have hnb11 := NB113_0.out; have hnc11 := NB0_113.out; have hcz12_0 : w9.cell? ⟨gb113, 0, none⟩ = some (.int .i64 0) := (blk_cell BK113.out 0).trans rfl; have hcz12_1 : w9.cell? ⟨gb113, 1, none⟩ = some (.slice none 0 0) := (blk_cell BK113.out 1).trans rfl; have hfz12_0 := blk_frozen BK113.out 0; have hfz12_1 := blk_frozen BK113.out 1) | ((with_reducible refine gate_callee (f := 85) rfl ?_); refine goesL_ (some 15) rfl rfl Try.func85 (by kernel_rfl) rfl #[.pointer (some ⟨g, 0, none⟩), .int .i64 4] rfl (by (try simp only [List.map_toArray, List.map_cons, List.map_nil]); first | done | rfl) ?_; (with_reducible refine (spec_l6Rd_pick.calls k g s0_0 t109 4 t114 t115 w0 _ ?side1 ?side2 A3.out).mono ?_); (case side1 => exact viaI2 HI0.out NB0_107.out NB0_113.out); (case side2 => repeat (first | (with_reducible first | exact HB.out | apply below_alloc | apply pw_below_drewN | apply below_drew1 | refine below_set ?_ (IsS99.ge HI0.out) | refine below_set ?_ GE107.out | refine below_set ?_ GE113.out) | exact HB.out)); rintro e w13 ⟨rfl, hi, hb, hk⟩; refine ⟨_, rfl, ?_⟩; have n0_ := Aside0.mk (KeepBut.blk hk (g' := gb107) (o := .cells #[.int .i64 0, .slice none 0 0] 25 (0, 0)) (by (with_reducible repeat (first | refine blk_drewN ?_ _ | refine blk_drew ?_ | refine blk_alloc ?_ _)); refine blk_far ?_ NB107_113.out _; (with_reducible repeat (first | refine blk_drewN ?_ _ | refine blk_drew ?_ | refine blk_alloc ?_ _)); refine blk_far ?_ NB107_113.out _; (with_reducible repeat (first | refine blk_drewN ?_ _ | refine blk_drew ?_ | refine blk_alloc ?_ _)); exact BK107.out) NB107_0.out (by simp)); have n1_ := Aside0.mk (Kd.R_mono (Kd.R_keep (IsS99.apart (show IsS99 w0 _ g s0_0 t109 from by exact viaI2 HI0.out NB0_107.out NB0_113.out) (by (with_reducible repeat (first | apply Kd.R_alloc | apply Kd.R_drewN | apply Kd.R_drew)); exact (Kd.R_mono (Kd.R_far (p := ⟨gb113, 1, none⟩) (Kd.R_far (p := ⟨gb113, 0, none⟩) (Kd.R_types HO112.out BK113.out (by decide)) (fun _ hk => hk.2) (.int .i64 (wrap64 (1 + t108)))) (fun _ hk => hk.2) (.slice Ao8 y110.length co8)) (fun _ h_ => h_.1))) (by decide)) hk (fun _ h => h.2)) (fun _ h => h.1)); have n2_ := Aside0.mk (KeepBut.blk hk (g' := gb113) (o := .cells #[.int .i64 (wrap64 (1 + t108)), .slice Ao8 y110.length co8] 25 (0, 0)) (by (with_reducible repeat (first | refine blk_drewN ?_ _ | refine blk_drew ?_ | refine blk_alloc ?_ _)); refine blk_put (cs := #[.int .i64 (wrap64 (1 + t108)), .slice none 0 0]) ?_ 1 _ rfl; (with_reducible repeat (first | refine blk_drewN ?_ _ | refine blk_drew ?_ | refine blk_alloc ?_ _)); refine blk_put (cs := #[.int .i64 0, .slice none 0 0]) ?_ 0 _ rfl; (with_reducible repeat (first | refine blk_drewN ?_ _ | refine blk_drew ?_ | refine blk_alloc ?_ _)); exact BK113.out) NB113_0.out (by simp)); have n3_ := Aside0.mk (KeepBut.trans (viaK2 HK.out GW107.out GW113.out) hk (.inl rfl)); have n4_ := Aside0.mk (hb); have n5_ := Aside0.mk (hi); clear BK107; clear HO112; clear BK113; clear HK; clear HB; clear HI0; have BK107 := n0_; have HO112 := n1_; have BK113 := n2_; have HK := n3_; have HB := n4_; have HI0 := n5_; clear n0_ n1_ n2_ n3_ n4_ n5_; (try clear hb); (try clear hb2); (try clear hk); (try clear hi)))
 go_loopg [6] k (fun kq v6 w' => ∃ (x6_1 : Int) (x1001_1 : Int) (x114001_1 : List (S69)) (u114001 : Value), v6 = .int .i64 x6_1 ∧ Aside0 (spec_l91Graph.l0 kq (wrap64 (1 + t108)) t114 x6_1 s0_0 x1001_1 (wrap64 (1 + t108)) x114001_1 = some (r1, r2, r3)) ∧ Aside0 (kq ≤ k) ∧ Aside0 (Kd.R k69 69 w' w.heap.size (fun _ => True) u114001 x114001_1) ∧ Aside0 (w'.heap[gb107]? = some (.cells #[.int .i64 0, (.slice none 0 0)] 25 (0, 0))) ∧ Aside0 (w'.heap[gb113]? = some (.cells #[.int .i64 (wrap64 (1 + t108)), u114001] 25 (0, 0))) ∧ Aside0 (IsS99 w0 w' g s0_0 x1001_1) ∧ Aside0 (KeepBut w w' g none) ∧ Aside0 (Below w0.heap.size w0 w'))
 case atStart => exact ⟨(0), (t115), (y110), (.slice Ao8 y110.length co8), (by first | rfl | (simp; done) | (simp [*]; done)), H', ⟨Nat.le_refl _⟩, ⟨viaR HO112.out⟩, ⟨viaB BK107.out⟩, ⟨viaB BK113.out⟩, ⟨by exact viaI2 HI0.out NB0_107.out NB0_113.out⟩, ⟨viaK2 HK.out GW107.out GW113.out⟩, ⟨viaX3 HB.out (IsS99.ge HI0.out) GE107.out GE113.out⟩⟩
 case round =>
  clear H'
  try clear c1
  try clear p2
  try clear p6
  try clear c8
  try clear c9
  try clear c10
  try clear c11
  try clear hcz12_0
  try clear hcz12_1
  try clear hfz12_0
  try clear hfz12_1
  obtain ⟨x6_1, x1001_1, x114001_1, u114001, rfl, HA, HK1, HO_114001, BK107, BK113, HI0, HK, HB⟩ := hrel
  cases gk with
  | zero => exact absurd HA.out (by simp [spec_l91Graph.l0])
  | succ k1 =>
   have H := HA.out; clear HA
   simp only [spec_l91Graph.l0] at H
   by_cases c14 : x6_1 < (wrap64 (1 + t108))
   ·rw [if_pos c14] at H
    have c14b0 : decide (x6_1 < (wrap64 (1 + t108))) = true := decide_eq_true c14; clear c14; have H' := Aside0.mk H; clear H
    go_wp2
    go_loopg [7] k1 (fun kq v7 w' => ∃ (x7_2 : Int) (x1001_2 : Int) (x114001_2 : List (S69)) (u114001 : Value), v7 = .int .i64 x7_2 ∧ Aside0 (spec_l91Graph.l1 kq (wrap64 (1 + t108)) t114 x6_1 x7_2 s0_0 x1001_2 (wrap64 (1 + t108)) x114001_2 = some (r1, r2, r3)) ∧ Aside0 (kq ≤ k1) ∧ Aside0 (Kd.R k69 69 w' w.heap.size (fun _ => True) u114001 x114001_2) ∧ Aside0 (w'.heap[gb107]? = some (.cells #[.int .i64 0, (.slice none 0 0)] 25 (0, 0))) ∧ Aside0 (w'.heap[gb113]? = some (.cells #[.int .i64 (wrap64 (1 + t108)), u114001] 25 (0, 0))) ∧ Aside0 (IsS99 w0 w' g s0_0 x1001_2) ∧ Aside0 (KeepBut w w' g none) ∧ Aside0 (Below w0.heap.size w0 w'))
    case atStart => exact ⟨(wrap64 (x6_1 + 1)), (x1001_1), (x114001_1), (u114001), (by first | rfl | (simp; done) | (simp [*]; done)), H', ⟨Nat.le_refl _⟩, ⟨viaR HO_114001.out⟩, ⟨viaB BK107.out⟩, ⟨viaB BK113.out⟩, ⟨by exact viaI2 HI0.out NB0_107.out NB0_113.out⟩, ⟨viaK2 HK.out GW107.out GW113.out⟩, ⟨viaX3 HB.out (IsS99.ge HI0.out) GE107.out GE113.out⟩⟩
    case round =>
     clear H'
     try clear c1
     try clear p2
     try clear p6
     try clear c8
     try clear c9
     try clear c10
     try clear c11
     try clear c14
     try clear c14b0
     try clear hcz12_0
     try clear hcz12_1
     try clear hfz12_0
     try clear hfz12_1
     try clear p2
     try clear p6
     obtain ⟨x7_2, x1001_2, x114001_2, u114001, rfl, HA, HK2, HO_114001, BK107, BK113, HI0, HK, HB⟩ := hrel
     cases gk with
     | zero => exact absurd HA.out (by simp [spec_l91Graph.l1])
     | succ k2 =>
      have H := HA.out; clear HA
      simp only [spec_l91Graph.l1] at H
      by_cases c15 : x7_2 < (wrap64 (1 + t108))
      ·rw [if_pos c15] at H
       have c15b0 : decide (x7_2 < (wrap64 (1 + t108))) = true := decide_eq_true c15; clear c15
       by_cases c16 : t114 = 0
       ·rw [if_pos c16] at H
        have c16b0 : (t114 == 0) = true := beq_iff_eq.mpr c16; have c16b1 : (t114 != 0) = false := bne_eq_false_iff_eq.mpr c16; clear c16
        by_cases c17 : x114001_2.length < 8796093022208
        ·rw [if_pos c17] at H
         have LMc17 := Aside0.mk c17; clear c17; obtain ⟨y121, hy121⟩ : ∃ y_ : List (S69), y_ = (x114001_2 ++ [(⟨x6_1, x7_2⟩ : S69)]) := ⟨_, rfl⟩; replace H : (spec_l91Graph.l1 k2 (wrap64 (1 + t108)) t114 x6_1 (wrap64 (x7_2 + 1)) s0_0 x1001_2 (wrap64 (1 + t108)) y121) = some (r1, r2, r3) := by first | (rw [hy121]; with_reducible exact H) | (have H2_ := (Option.bind_some _ _).symm.trans H; rw [hy121]; with_reducible exact H2_) | (have H2_ := (Option.bind_some _ _).symm.trans H; with_reducible exact H2_) | with_reducible exact H | (rw [hy121]; exact H) | exact H
         have Ny121 := Aside0.mk hy121; clear hy121; have H' := Aside0.mk H; clear H; have hnb18 := NB113_107.out; have hnc18 := NB107_113.out; have hnb19 := NB113_0.out; have hnc19 := NB0_113.out; have hcz20_0 : wr.cell? ⟨gb113, 0, none⟩ = some (.int .i64 (wrap64 (1 + t108))) := (blk_cell BK113.out 0).trans rfl; have hcz20_1 : wr.cell? ⟨gb113, 1, none⟩ = some (u114001) := (blk_cell BK113.out 1).trans rfl; have hfz20_0 := blk_frozen BK113.out 0; have hfz20_1 := blk_frozen BK113.out 1
         go_wp2_with (first | ((with_reducible refine gate_builtin (b := .append) (xs := #[.tmp 60, .tmp 64]) rfl ?_); at_builtin; refine Kd.R_append k69 w.heap.size rfl (.tmp 60) (.tmp 64) 23 69 (.agg #[(.int .i64 0), (.int .i64 0)]) 16 rfl Try.underlying23 info69 rfl (by decide) (by omega) u114001 x114001_2 (⟨x6_1, x7_2⟩ : S69) [.int .i64 x6_1, .int .i64 x7_2] (fun _ => True) (fun _ => False) rfl rfl ?aP (fun _ hk => hk.elim) ?aF ?aO (Below.refl _ _) ?aS ?aL ?_; (case aP => exact k69_mkM _ _ _ (⟨x6_1, x7_2⟩ : S69)); (case aF => exact (fun _ _ => trivial)); (case aO => exact (viaR HO_114001.out)); (case aS => exact (keep_size (w := w) (g := g) (row := none) (viaK2 HK.out GW107.out GW113.out))); (case aL => have := LMc17.out; omega); intro v122 w21 ho hb hg hat; rw [← Ny121.out] at ho; have n0_ := Aside0.mk (blk_grown (g := gb107) (o := .cells #[.int .i64 0, .slice none 0 0] 25 (0, 0)) (viaB BK107.out) hg (Kd.R_ne HO_114001.out BK107.out (by decide))); have n1_ := Aside0.mk (blk_grown (g := gb113) (o := .cells #[.int .i64 (wrap64 (1 + t108)), u114001] 25 (0, 0)) (viaB BK113.out) hg (Kd.R_ne HO_114001.out BK113.out (by decide))); have n2_ := Aside0.mk (IsS99.grown (by exact viaI2 HI0.out NB0_107.out NB0_113.out) hg (IsS99.own_ne HI0.out HO_114001.out (by decide))); have n3_ := Aside0.mk (below_weaken (viaX3 HB.out (IsS99.ge HI0.out) GE107.out GE113.out) HL.out hb); have n4_ := Aside0.mk (KeepBut.trans (viaK2 HK.out GW107.out GW113.out) (KeepBut.of_grown hg g) (Kd.R_base2 HO_114001.out)); have n5_ := Aside0.mk (ho); clear BK107; clear BK113; clear HI0; clear HB; clear HK; clear HO_114001; have BK107 := n0_; have BK113 := n1_; have HI0 := n2_; have HB := n3_; have HK := n4_; have HO123 := n5_; clear n0_ n1_ n2_ n3_ n4_ n5_; clear ho hb hg hat; obtain ⟨Ao22, co22, eo22⟩ := Kd.R_slice HO123.out; subst eo22; have hcz23_0 : w21.cell? ⟨gb113, 0, none⟩ = some (.int .i64 (wrap64 (1 + t108))) := (blk_cell BK113.out 0).trans rfl; have hcz23_1 : w21.cell? ⟨gb113, 1, none⟩ = some (u114001) := (blk_cell BK113.out 1).trans rfl; have hfz23_0 := blk_frozen BK113.out 0; have hfz23_1 := blk_frozen BK113.out 1))
         go_roundg k2
         case measure => have := HK1.out; have := HK2.out; omega
         case rel => exact ⟨(wrap64 (x7_2 + 1)), (x1001_2), (y121), (.slice Ao22 y121.length co22), (by first | rfl | (simp; done) | (simp [*]; done)), H', ⟨by have := HK1.out; have := HK2.out; omega⟩, ⟨by (with_reducible repeat (first | apply Kd.R_alloc | apply Kd.R_drewN | apply Kd.R_drew)); exact Kd.R_mono (Kd.R_far (p := ⟨gb113, 1, none⟩) (Kd.R_types HO123.out BK113.out (by decide)) (fun _ hk => hk.2) (.slice Ao22 y121.length co22)) (fun _ hk => trivial)⟩, ⟨by (with_reducible repeat (first | refine blk_drewN ?_ _ | refine blk_drew ?_ | refine blk_alloc ?_ _)); refine blk_far ?_ NB107_113.out _; (with_reducible repeat (first | refine blk_drewN ?_ _ | refine blk_drew ?_ | refine blk_alloc ?_ _)); exact BK107.out⟩, ⟨by (with_reducible repeat (first | refine blk_drewN ?_ _ | refine blk_drew ?_ | refine blk_alloc ?_ _)); refine blk_put (cs := #[.int .i64 (wrap64 (1 + t108)), u114001]) ?_ 1 _ rfl; (with_reducible repeat (first | refine blk_drewN ?_ _ | refine blk_drew ?_ | refine blk_alloc ?_ _)); exact BK113.out⟩, ⟨by exact viaI2 HI0.out NB0_107.out NB0_113.out⟩, ⟨viaK2 HK.out GW107.out GW113.out⟩, ⟨viaX3 HB.out (IsS99.ge HI0.out) GE107.out GE113.out⟩⟩
        ·rw [if_neg c17] at H
         exact absurd H (by simp)
       ·rw [if_neg c16] at H
        have c16b0 : (t114 == 0) = false := beq_eq_false_iff_ne.mpr c16; have c16b1 : (t114 != 0) = true := bne_iff_ne.mpr c16
        by_cases c24 : t114 = 1
        ·rw [if_pos c24] at H
         have c24b0 : (t114 == 1) = true := beq_iff_eq.mpr c24; have c24b1 : (t114 != 1) = false := bne_eq_false_iff_eq.mpr c24; clear c24
         by_cases c25 : x7_2 = (wrap64 (x6_1 + 1))
         ·rw [if_pos c25] at H
          have c25b0 : (x7_2 == (wrap64 (x6_1 + 1))) = true := beq_iff_eq.mpr c25; have c25b1 : (x7_2 != (wrap64 (x6_1 + 1))) = false := bne_eq_false_iff_eq.mpr c25; clear c25
          by_cases c26 : x114001_2.length < 8796093022208
          ·rw [if_pos c26] at H
           have LMc26 := Aside0.mk c26; clear c26; obtain ⟨y124, hy124⟩ : ∃ y_ : List (S69), y_ = (x114001_2 ++ [(⟨x6_1, x7_2⟩ : S69)]) := ⟨_, rfl⟩; replace H : (spec_l91Graph.l1 k2 (wrap64 (1 + t108)) t114 x6_1 (wrap64 (x7_2 + 1)) s0_0 x1001_2 (wrap64 (1 + t108)) y124) = some (r1, r2, r3) := by first | (rw [hy124]; with_reducible exact H) | (have H2_ := (Option.bind_some _ _).symm.trans H; rw [hy124]; with_reducible exact H2_) | (have H2_ := (Option.bind_some _ _).symm.trans H; with_reducible exact H2_) | with_reducible exact H | (rw [hy124]; exact H) | exact H
           have Ny124 := Aside0.mk hy124; clear hy124; have H' := Aside0.mk H; clear H; have hnb27 := NB113_107.out; have hnc27 := NB107_113.out; have hnb28 := NB113_0.out; have hnc28 := NB0_113.out; have hcz29_0 : wr.cell? ⟨gb113, 0, none⟩ = some (.int .i64 (wrap64 (1 + t108))) := (blk_cell BK113.out 0).trans rfl; have hcz29_1 : wr.cell? ⟨gb113, 1, none⟩ = some (u114001) := (blk_cell BK113.out 1).trans rfl; have hfz29_0 := blk_frozen BK113.out 0; have hfz29_1 := blk_frozen BK113.out 1
           go_wp2_with (first | ((with_reducible refine gate_builtin (b := .append) (xs := #[.tmp 60, .tmp 64]) rfl ?_); at_builtin; refine Kd.R_append k69 w.heap.size rfl (.tmp 60) (.tmp 64) 23 69 (.agg #[(.int .i64 0), (.int .i64 0)]) 16 rfl Try.underlying23 info69 rfl (by decide) (by omega) u114001 x114001_2 (⟨x6_1, x7_2⟩ : S69) [.int .i64 x6_1, .int .i64 x7_2] (fun _ => True) (fun _ => False) rfl rfl ?aP (fun _ hk => hk.elim) ?aF ?aO (Below.refl _ _) ?aS ?aL ?_; (case aP => exact k69_mkM _ _ _ (⟨x6_1, x7_2⟩ : S69)); (case aF => exact (fun _ _ => trivial)); (case aO => exact (viaR HO_114001.out)); (case aS => exact (keep_size (w := w) (g := g) (row := none) (viaK2 HK.out GW107.out GW113.out))); (case aL => have := LMc26.out; omega); intro v125 w30 ho hb hg hat; rw [← Ny124.out] at ho; have n0_ := Aside0.mk (blk_grown (g := gb107) (o := .cells #[.int .i64 0, .slice none 0 0] 25 (0, 0)) (viaB BK107.out) hg (Kd.R_ne HO_114001.out BK107.out (by decide))); have n1_ := Aside0.mk (blk_grown (g := gb113) (o := .cells #[.int .i64 (wrap64 (1 + t108)), u114001] 25 (0, 0)) (viaB BK113.out) hg (Kd.R_ne HO_114001.out BK113.out (by decide))); have n2_ := Aside0.mk (IsS99.grown (by exact viaI2 HI0.out NB0_107.out NB0_113.out) hg (IsS99.own_ne HI0.out HO_114001.out (by decide))); have n3_ := Aside0.mk (below_weaken (viaX3 HB.out (IsS99.ge HI0.out) GE107.out GE113.out) HL.out hb); have n4_ := Aside0.mk (KeepBut.trans (viaK2 HK.out GW107.out GW113.out) (KeepBut.of_grown hg g) (Kd.R_base2 HO_114001.out)); have n5_ := Aside0.mk (ho); clear BK107; clear BK113; clear HI0; clear HB; clear HK; clear HO_114001; have BK107 := n0_; have BK113 := n1_; have HI0 := n2_; have HB := n3_; have HK := n4_; have HO126 := n5_; clear n0_ n1_ n2_ n3_ n4_ n5_; clear ho hb hg hat; obtain ⟨Ao31, co31, eo31⟩ := Kd.R_slice HO126.out; subst eo31; have hcz32_0 : w30.cell? ⟨gb113, 0, none⟩ = some (.int .i64 (wrap64 (1 + t108))) := (blk_cell BK113.out 0).trans rfl; have hcz32_1 : w30.cell? ⟨gb113, 1, none⟩ = some (u114001) := (blk_cell BK113.out 1).trans rfl; have hfz32_0 := blk_frozen BK113.out 0; have hfz32_1 := blk_frozen BK113.out 1))
           go_roundg k2
           case measure => have := HK1.out; have := HK2.out; omega
           case rel => exact ⟨(wrap64 (x7_2 + 1)), (x1001_2), (y124), (.slice Ao31 y124.length co31), (by first | rfl | (simp; done) | (simp [*]; done)), H', ⟨by have := HK1.out; have := HK2.out; omega⟩, ⟨by (with_reducible repeat (first | apply Kd.R_alloc | apply Kd.R_drewN | apply Kd.R_drew)); exact Kd.R_mono (Kd.R_far (p := ⟨gb113, 1, none⟩) (Kd.R_types HO126.out BK113.out (by decide)) (fun _ hk => hk.2) (.slice Ao31 y124.length co31)) (fun _ hk => trivial)⟩, ⟨by (with_reducible repeat (first | refine blk_drewN ?_ _ | refine blk_drew ?_ | refine blk_alloc ?_ _)); refine blk_far ?_ NB107_113.out _; (with_reducible repeat (first | refine blk_drewN ?_ _ | refine blk_drew ?_ | refine blk_alloc ?_ _)); exact BK107.out⟩, ⟨by (with_reducible repeat (first | refine blk_drewN ?_ _ | refine blk_drew ?_ | refine blk_alloc ?_ _)); refine blk_put (cs := #[.int .i64 (wrap64 (1 + t108)), u114001]) ?_ 1 _ rfl; (with_reducible repeat (first | refine blk_drewN ?_ _ | refine blk_drew ?_ | refine blk_alloc ?_ _)); exact BK113.out⟩, ⟨by exact viaI2 HI0.out NB0_107.out NB0_113.out⟩, ⟨viaK2 HK.out GW107.out GW113.out⟩, ⟨viaX3 HB.out (IsS99.ge HI0.out) GE107.out GE113.out⟩⟩
          ·rw [if_neg c26] at H
           exact absurd H (by simp)
         ·rw [if_neg c25] at H
          have c25b0 : (x7_2 == (wrap64 (x6_1 + 1))) = false := beq_eq_false_iff_ne.mpr c25; have c25b1 : (x7_2 != (wrap64 (x6_1 + 1))) = true := bne_iff_ne.mpr c25
          by_cases c33 : x6_1 = 0
          ·rw [if_pos c33] at H
           have c33b0 : (x6_1 == 0) = true := beq_iff_eq.mpr c33; have c33b1 : (x6_1 != 0) = false := bne_eq_false_iff_eq.mpr c33; clear c33
           by_cases c34 : x7_2 = (wrap64 ((wrap64 (1 + t108)) - 1))
           ·rw [if_pos c34] at H
            have c34b0 : (x7_2 == (wrap64 ((wrap64 (1 + t108)) - 1))) = true := beq_iff_eq.mpr c34; have c34b1 : (x7_2 != (wrap64 ((wrap64 (1 + t108)) - 1))) = false := bne_eq_false_iff_eq.mpr c34; clear c34
            by_cases c35 : x114001_2.length < 8796093022208
            ·rw [if_pos c35] at H
             have LMc35 := Aside0.mk c35; clear c35; obtain ⟨y127, hy127⟩ : ∃ y_ : List (S69), y_ = (x114001_2 ++ [(⟨x6_1, x7_2⟩ : S69)]) := ⟨_, rfl⟩; replace H : (spec_l91Graph.l1 k2 (wrap64 (1 + t108)) t114 x6_1 (wrap64 (x7_2 + 1)) s0_0 x1001_2 (wrap64 (1 + t108)) y127) = some (r1, r2, r3) := by first | (rw [hy127]; with_reducible exact H) | (have H2_ := (Option.bind_some _ _).symm.trans H; rw [hy127]; with_reducible exact H2_) | (have H2_ := (Option.bind_some _ _).symm.trans H; with_reducible exact H2_) | with_reducible exact H | (rw [hy127]; exact H) | exact H
             have Ny127 := Aside0.mk hy127; clear hy127; have H' := Aside0.mk H; clear H; have hnb36 := NB113_107.out; have hnc36 := NB107_113.out; have hnb37 := NB113_0.out; have hnc37 := NB0_113.out; have hcz38_0 : wr.cell? ⟨gb113, 0, none⟩ = some (.int .i64 (wrap64 (1 + t108))) := (blk_cell BK113.out 0).trans rfl; have hcz38_1 : wr.cell? ⟨gb113, 1, none⟩ = some (u114001) := (blk_cell BK113.out 1).trans rfl; have hfz38_0 := blk_frozen BK113.out 0; have hfz38_1 := blk_frozen BK113.out 1
             go_wp2_with (first | ((with_reducible refine gate_builtin (b := .append) (xs := #[.tmp 60, .tmp 64]) rfl ?_); at_builtin; refine Kd.R_append k69 w.heap.size rfl (.tmp 60) (.tmp 64) 23 69 (.agg #[(.int .i64 0), (.int .i64 0)]) 16 rfl Try.underlying23 info69 rfl (by decide) (by omega) u114001 x114001_2 (⟨x6_1, x7_2⟩ : S69) [.int .i64 x6_1, .int .i64 x7_2] (fun _ => True) (fun _ => False) rfl rfl ?aP (fun _ hk => hk.elim) ?aF ?aO (Below.refl _ _) ?aS ?aL ?_; (case aP => exact k69_mkM _ _ _ (⟨x6_1, x7_2⟩ : S69)); (case aF => exact (fun _ _ => trivial)); (case aO => exact (viaR HO_114001.out)); (case aS => exact (keep_size (w := w) (g := g) (row := none) (viaK2 HK.out GW107.out GW113.out))); (case aL => have := LMc35.out; omega); intro v128 w39 ho hb hg hat; rw [← Ny127.out] at ho; have n0_ := Aside0.mk (blk_grown (g := gb107) (o := .cells #[.int .i64 0, .slice none 0 0] 25 (0, 0)) (viaB BK107.out) hg (Kd.R_ne HO_114001.out BK107.out (by decide))); have n1_ := Aside0.mk (blk_grown (g := gb113) (o := .cells #[.int .i64 (wrap64 (1 + t108)), u114001] 25 (0, 0)) (viaB BK113.out) hg (Kd.R_ne HO_114001.out BK113.out (by decide))); have n2_ := Aside0.mk (IsS99.grown (by exact viaI2 HI0.out NB0_107.out NB0_113.out) hg (IsS99.own_ne HI0.out HO_114001.out (by decide))); have n3_ := Aside0.mk (below_weaken (viaX3 HB.out (IsS99.ge HI0.out) GE107.out GE113.out) HL.out hb); have n4_ := Aside0.mk (KeepBut.trans (viaK2 HK.out GW107.out GW113.out) (KeepBut.of_grown hg g) (Kd.R_base2 HO_114001.out)); have n5_ := Aside0.mk (ho); clear BK107; clear BK113; clear HI0; clear HB; clear HK; clear HO_114001; have BK107 := n0_; have BK113 := n1_; have HI0 := n2_; have HB := n3_; have HK := n4_; have HO129 := n5_; clear n0_ n1_ n2_ n3_ n4_ n5_; clear ho hb hg hat; obtain ⟨Ao40, co40, eo40⟩ := Kd.R_slice HO129.out; subst eo40; have hcz41_0 : w39.cell? ⟨gb113, 0, none⟩ = some (.int .i64 (wrap64 (1 + t108))) := (blk_cell BK113.out 0).trans rfl; have hcz41_1 : w39.cell? ⟨gb113, 1, none⟩ = some (u114001) := (blk_cell BK113.out 1).trans rfl; have hfz41_0 := blk_frozen BK113.out 0; have hfz41_1 := blk_frozen BK113.out 1))
             go_roundg k2
             case measure => have := HK1.out; have := HK2.out; omega
             case rel => exact ⟨(wrap64 (x7_2 + 1)), (x1001_2), (y127), (.slice Ao40 y127.length co40), (by first | rfl | (simp; done) | (simp [*]; done)), H', ⟨by have := HK1.out; have := HK2.out; omega⟩, ⟨by (with_reducible repeat (first | apply Kd.R_alloc | apply Kd.R_drewN | apply Kd.R_drew)); exact Kd.R_mono (Kd.R_far (p := ⟨gb113, 1, none⟩) (Kd.R_types HO129.out BK113.out (by decide)) (fun _ hk => hk.2) (.slice Ao40 y127.length co40)) (fun _ hk => trivial)⟩, ⟨by (with_reducible repeat (first | refine blk_drewN ?_ _ | refine blk_drew ?_ | refine blk_alloc ?_ _)); refine blk_far ?_ NB107_113.out _; (with_reducible repeat (first | refine blk_drewN ?_ _ | refine blk_drew ?_ | refine blk_alloc ?_ _)); exact BK107.out⟩, ⟨by (with_reducible repeat (first | refine blk_drewN ?_ _ | refine blk_drew ?_ | refine blk_alloc ?_ _)); refine blk_put (cs := #[.int .i64 (wrap64 (1 + t108)), u114001]) ?_ 1 _ rfl; (with_reducible repeat (first | refine blk_drewN ?_ _ | refine blk_drew ?_ | refine blk_alloc ?_ _)); exact BK113.out⟩, ⟨by exact viaI2 HI0.out NB0_107.out NB0_113.out⟩, ⟨viaK2 HK.out GW107.out GW113.out⟩, ⟨viaX3 HB.out (IsS99.ge HI0.out) GE107.out GE113.out⟩⟩
            ·rw [if_neg c35] at H
             exact absurd H (by simp)
           ·rw [if_neg c34] at H
            have c34b0 : (x7_2 == (wrap64 ((wrap64 (1 + t108)) - 1))) = false := beq_eq_false_iff_ne.mpr c34; have c34b1 : (x7_2 != (wrap64 ((wrap64 (1 + t108)) - 1))) = true := bne_iff_ne.mpr c34
            by_cases c42 : t114 > 1
            ·rw [if_pos c42] at H
             have c42b0 : decide (1 < t114) = true := decide_eq_true c42; clear c42; replace H := Option.bind_eq_some_iff.mp H; obtain ⟨⟨t130, t131⟩, A430, H⟩ := H; replace H : (if t130 > 1 then (if x114001_2.length < 8796093022208 then (spec_l91Graph.l1 k2 (wrap64 (1 + t108)) t114 x6_1 (wrap64 (x7_2 + 1)) s0_0 t131 (wrap64 (1 + t108)) (x114001_2 ++ [(⟨x6_1, x7_2⟩ : S69)])) else (none)) else (spec_l91Graph.l1 k2 (wrap64 (1 + t108)) t114 x6_1 (wrap64 (x7_2 + 1)) s0_0 t131 (wrap64 (1 + t108)) x114001_2)) = some (r1, r2, r3) := H; have A43 := Aside0.mk A430; clear A430
             by_cases c44 : t130 > 1
             ·rw [if_pos c44] at H
              have c44b0 : decide (1 < t130) = true := decide_eq_true c44; clear c44
              by_cases c45 : x114001_2.length < 8796093022208
              ·rw [if_pos c45] at H
               have LMc45 := Aside0.mk c45; clear c45; obtain ⟨y132, hy132⟩ : ∃ y_ : List (S69), y_ = (x114001_2 ++ [(⟨x6_1, x7_2⟩ : S69)]) := ⟨_, rfl⟩; replace H : (spec_l91Graph.l1 k2 (wrap64 (1 + t108)) t114 x6_1 (wrap64 (x7_2 + 1)) s0_0 t131 (wrap64 (1 + t108)) y132) = some (r1, r2, r3) := by first | (rw [hy132]; with_reducible exact H) | (have H2_ := (Option.bind_some _ _).symm.trans H; rw [hy132]; with_reducible exact H2_) | (have H2_ := (Option.bind_some _ _).symm.trans H; with_reducible exact H2_) | with_reducible exact H | (rw [hy132]; exact H) | exact H
               have Ny132 := Aside0.mk hy132; clear hy132; have H' := Aside0.mk H; clear H
               go_wp2_with (first | (go_at_call 85; (with_reducible refine (spec_l6Rd_pick.calls k2 g s0_0 x1001_2 5 t130 t131 w0 _ ?side1 ?side2 A43.out).mono ?_); (case side1 => exact viaI2 HI0.out NB0_107.out NB0_113.out); (case side2 => repeat (first | (with_reducible first | exact HB.out | apply below_alloc | apply pw_below_drewN | apply below_drew1 | refine below_set ?_ (IsS99.ge HI0.out) | refine below_set ?_ GE107.out | refine below_set ?_ GE113.out) | exact HB.out)); rintro e w46 ⟨rfl, hi, hb, hk⟩; have n0_ := Aside0.mk (Kd.R_mono (Kd.R_keep (IsS99.apart (show IsS99 w0 _ g s0_0 x1001_2 from by exact viaI2 HI0.out NB0_107.out NB0_113.out) (viaR HO_114001.out) (by decide)) hk (fun _ h => h.2)) (fun _ h => h.1)); have n1_ := Aside0.mk (KeepBut.blk hk (g' := gb107) (o := .cells #[.int .i64 0, .slice none 0 0] 25 (0, 0)) (viaB BK107.out) NB107_0.out (by simp)); have n2_ := Aside0.mk (KeepBut.blk hk (g' := gb113) (o := .cells #[.int .i64 (wrap64 (1 + t108)), u114001] 25 (0, 0)) (viaB BK113.out) NB113_0.out (by simp)); have n3_ := Aside0.mk (KeepBut.trans (viaK2 HK.out GW107.out GW113.out) hk (.inl rfl)); have n4_ := Aside0.mk (hb); have n5_ := Aside0.mk (hi); clear HO_114001; clear BK107; clear BK113; clear HK; clear HB; clear HI0; have HO_114001 := n0_; have BK107 := n1_; have BK113 := n2_; have HK := n3_; have HB := n4_; have HI0 := n5_; clear n0_ n1_ n2_ n3_ n4_ n5_; (try clear hb); (try clear hb2); (try clear hk); (try clear hi); have hnb47 := NB113_107.out; have hnc47 := NB107_113.out; have hnb48 := NB113_0.out; have hnc48 := NB0_113.out; have hcz49_0 : w46.cell? ⟨gb113, 0, none⟩ = some (.int .i64 (wrap64 (1 + t108))) := (blk_cell BK113.out 0).trans rfl; have hcz49_1 : w46.cell? ⟨gb113, 1, none⟩ = some (u114001) := (blk_cell BK113.out 1).trans rfl; have hfz49_0 := blk_frozen BK113.out 0; have hfz49_1 := blk_frozen BK113.out 1) | ((with_reducible refine gate_builtin (b := .append) (xs := #[.tmp 60, .tmp 64]) rfl ?_); at_builtin; refine Kd.R_append k69 w.heap.size rfl (.tmp 60) (.tmp 64) 23 69 (.agg #[(.int .i64 0), (.int .i64 0)]) 16 rfl Try.underlying23 info69 rfl (by decide) (by omega) u114001 x114001_2 (⟨x6_1, x7_2⟩ : S69) [.int .i64 x6_1, .int .i64 x7_2] (fun _ => True) (fun _ => False) rfl rfl ?aP (fun _ hk => hk.elim) ?aF ?aO (Below.refl _ _) ?aS ?aL ?_; (case aP => exact k69_mkM _ _ _ (⟨x6_1, x7_2⟩ : S69)); (case aF => exact (fun _ _ => trivial)); (case aO => exact (viaR HO_114001.out)); (case aS => exact (keep_size (w := w) (g := g) (row := none) (viaK2 HK.out GW107.out GW113.out))); (case aL => have := LMc45.out; omega); intro v133 w50 ho hb hg hat; rw [← Ny132.out] at ho; have n0_ := Aside0.mk (blk_grown (g := gb107) (o := .cells #[.int .i64 0, .slice none 0 0] 25 (0, 0)) (viaB BK107.out) hg (Kd.R_ne HO_114001.out BK107.out (by decide))); have n1_ := Aside0.mk (blk_grown (g := gb113) (o := .cells #[.int .i64 (wrap64 (1 + t108)), u114001] 25 (0, 0)) (viaB BK113.out) hg (Kd.R_ne HO_114001.out BK113.out (by decide))); have n2_ := Aside0.mk (IsS99.grown (by exact viaI2 HI0.out NB0_107.out NB0_113.out) hg (IsS99.own_ne HI0.out HO_114001.out (by decide))); have n3_ := Aside0.mk (below_weaken (viaX3 HB.out (IsS99.ge HI0.out) GE107.out GE113.out) HL.out hb); have n4_ := Aside0.mk (KeepBut.trans (viaK2 HK.out GW107.out GW113.out) (KeepBut.of_grown hg g) (Kd.R_base2 HO_114001.out)); have n5_ := Aside0.mk (ho); clear BK107; clear BK113; clear HI0; clear HB; clear HK; clear HO_114001; have BK107 := n0_; have BK113 := n1_; have HI0 := n2_; have HB := n3_; have HK := n4_; have HO134 := n5_; clear n0_ n1_ n2_ n3_ n4_ n5_; clear ho hb hg hat; obtain ⟨Ao51, co51, eo51⟩ := Kd.R_slice HO134.out; subst eo51; have hcz52_0 : w50.cell? ⟨gb113, 0, none⟩ = some (.int .i64 (wrap64 (1 + t108))) := (blk_cell BK113.out 0).trans rfl; have hcz52_1 : w50.cell? ⟨gb113, 1, none⟩ = some (u114001) := (blk_cell BK113.out 1).trans rfl; have hfz52_0 := blk_frozen BK113.out 0; have hfz52_1 := blk_frozen BK113.out 1))
               go_roundg k2
               case measure => have := HK1.out; have := HK2.out; omega
               case rel => exact ⟨(wrap64 (x7_2 + 1)), (t131), (y132), (.slice Ao51 y132.length co51), (by first | rfl | (simp; done) | (simp [*]; done)), H', ⟨by have := HK1.out; have := HK2.out; omega⟩, ⟨by (with_reducible repeat (first | apply Kd.R_alloc | apply Kd.R_drewN | apply Kd.R_drew)); exact Kd.R_mono (Kd.R_far (p := ⟨gb113, 1, none⟩) (Kd.R_types HO134.out BK113.out (by decide)) (fun _ hk => hk.2) (.slice Ao51 y132.length co51)) (fun _ hk => trivial)⟩, ⟨by (with_reducible repeat (first | refine blk_drewN ?_ _ | refine blk_drew ?_ | refine blk_alloc ?_ _)); refine blk_far ?_ NB107_113.out _; (with_reducible repeat (first | refine blk_drewN ?_ _ | refine blk_drew ?_ | refine blk_alloc ?_ _)); exact BK107.out⟩, ⟨by (with_reducible repeat (first | refine blk_drewN ?_ _ | refine blk_drew ?_ | refine blk_alloc ?_ _)); refine blk_put (cs := #[.int .i64 (wrap64 (1 + t108)), u114001]) ?_ 1 _ rfl; (with_reducible repeat (first | refine blk_drewN ?_ _ | refine blk_drew ?_ | refine blk_alloc ?_ _)); exact BK113.out⟩, ⟨by exact viaI2 HI0.out NB0_107.out NB0_113.out⟩, ⟨viaK2 HK.out GW107.out GW113.out⟩, ⟨viaX3 HB.out (IsS99.ge HI0.out) GE107.out GE113.out⟩⟩
              ·rw [if_neg c45] at H
               exact absurd H (by simp)
             ·rw [if_neg c44] at H
              have c44b0 : decide (1 < t130) = false := decide_eq_false c44; clear c44; have H' := Aside0.mk H; clear H
              go_wp2_with (first | (go_at_call 85; (with_reducible refine (spec_l6Rd_pick.calls k2 g s0_0 x1001_2 5 t130 t131 w0 _ ?side1 ?side2 A43.out).mono ?_); (case side1 => exact viaI2 HI0.out NB0_107.out NB0_113.out); (case side2 => repeat (first | (with_reducible first | exact HB.out | apply below_alloc | apply pw_below_drewN | apply below_drew1 | refine below_set ?_ (IsS99.ge HI0.out) | refine below_set ?_ GE107.out | refine below_set ?_ GE113.out) | exact HB.out)); rintro e w53 ⟨rfl, hi, hb, hk⟩; have n0_ := Aside0.mk (Kd.R_mono (Kd.R_keep (IsS99.apart (show IsS99 w0 _ g s0_0 x1001_2 from by exact viaI2 HI0.out NB0_107.out NB0_113.out) (viaR HO_114001.out) (by decide)) hk (fun _ h => h.2)) (fun _ h => h.1)); have n1_ := Aside0.mk (KeepBut.blk hk (g' := gb107) (o := .cells #[.int .i64 0, .slice none 0 0] 25 (0, 0)) (viaB BK107.out) NB107_0.out (by simp)); have n2_ := Aside0.mk (KeepBut.blk hk (g' := gb113) (o := .cells #[.int .i64 (wrap64 (1 + t108)), u114001] 25 (0, 0)) (viaB BK113.out) NB113_0.out (by simp)); have n3_ := Aside0.mk (KeepBut.trans (viaK2 HK.out GW107.out GW113.out) hk (.inl rfl)); have n4_ := Aside0.mk (hb); have n5_ := Aside0.mk (hi); clear HO_114001; clear BK107; clear BK113; clear HK; clear HB; clear HI0; have HO_114001 := n0_; have BK107 := n1_; have BK113 := n2_; have HK := n3_; have HB := n4_; have HI0 := n5_; clear n0_ n1_ n2_ n3_ n4_ n5_; (try clear hb); (try clear hb2); (try clear hk); (try clear hi)))
              go_roundg k2
              case measure => have := HK1.out; have := HK2.out; omega
              case rel => exact ⟨(wrap64 (x7_2 + 1)), (t131), (x114001_2), (u114001), (by first | rfl | (simp; done) | (simp [*]; done)), H', ⟨by have := HK1.out; have := HK2.out; omega⟩, ⟨viaR HO_114001.out⟩, ⟨viaB BK107.out⟩, ⟨viaB BK113.out⟩, ⟨by exact viaI2 HI0.out NB0_107.out NB0_113.out⟩, ⟨viaK2 HK.out GW107.out GW113.out⟩, ⟨viaX3 HB.out (IsS99.ge HI0.out) GE107.out GE113.out⟩⟩
            ·rw [if_neg c42] at H
             have c42b0 : decide (1 < t114) = false := decide_eq_false c42; clear c42; have H' := Aside0.mk H; clear H
             go_wp2
             go_roundg k2
             case measure => have := HK1.out; have := HK2.out; omega
             case rel => exact ⟨(wrap64 (x7_2 + 1)), (x1001_2), (x114001_2), (u114001), (by first | rfl | (simp; done) | (simp [*]; done)), H', ⟨by have := HK1.out; have := HK2.out; omega⟩, ⟨viaR HO_114001.out⟩, ⟨viaB BK107.out⟩, ⟨viaB BK113.out⟩, ⟨by exact viaI2 HI0.out NB0_107.out NB0_113.out⟩, ⟨viaK2 HK.out GW107.out GW113.out⟩, ⟨viaX3 HB.out (IsS99.ge HI0.out) GE107.out GE113.out⟩⟩
          ·rw [if_neg c33] at H
           have c33b0 : (x6_1 == 0) = false := beq_eq_false_iff_ne.mpr c33; have c33b1 : (x6_1 != 0) = true := bne_iff_ne.mpr c33
           by_cases c54 : t114 > 1
           ·rw [if_pos c54] at H
            have c54b0 : decide (1 < t114) = true := decide_eq_true c54; clear c54; replace H := Option.bind_eq_some_iff.mp H; obtain ⟨⟨t135, t136⟩, A550, H⟩ := H; replace H : (if t135 > 1 then (if x114001_2.length < 8796093022208 then (spec_l91Graph.l1 k2 (wrap64 (1 + t108)) t114 x6_1 (wrap64 (x7_2 + 1)) s0_0 t136 (wrap64 (1 + t108)) (x114001_2 ++ [(⟨x6_1, x7_2⟩ : S69)])) else (none)) else (spec_l91Graph.l1 k2 (wrap64 (1 + t108)) t114 x6_1 (wrap64 (x7_2 + 1)) s0_0 t136 (wrap64 (1 + t108)) x114001_2)) = some (r1, r2, r3) := H; have A55 := Aside0.mk A550; clear A550
            by_cases c56 : t135 > 1
            ·rw [if_pos c56] at H
             have c56b0 : decide (1 < t135) = true := decide_eq_true c56; clear c56
             by_cases c57 : x114001_2.length < 8796093022208
             ·rw [if_pos c57] at H
              have LMc57 := Aside0.mk c57; clear c57; obtain ⟨y137, hy137⟩ : ∃ y_ : List (S69), y_ = (x114001_2 ++ [(⟨x6_1, x7_2⟩ : S69)]) := ⟨_, rfl⟩; replace H : (spec_l91Graph.l1 k2 (wrap64 (1 + t108)) t114 x6_1 (wrap64 (x7_2 + 1)) s0_0 t136 (wrap64 (1 + t108)) y137) = some (r1, r2, r3) := by first | (rw [hy137]; with_reducible exact H) | (have H2_ := (Option.bind_some _ _).symm.trans H; rw [hy137]; with_reducible exact H2_) | (have H2_ := (Option.bind_some _ _).symm.trans H; with_reducible exact H2_) | with_reducible exact H | (rw [hy137]; exact H) | exact H
              have Ny137 := Aside0.mk hy137; clear hy137; have H' := Aside0.mk H; clear H
              go_wp2_with (first | (go_at_call 85; (with_reducible refine (spec_l6Rd_pick.calls k2 g s0_0 x1001_2 5 t135 t136 w0 _ ?side1 ?side2 A55.out).mono ?_); (case side1 => exact viaI2 HI0.out NB0_107.out NB0_113.out); (case side2 => repeat (first | (with_reducible first | exact HB.out | apply below_alloc | apply pw_below_drewN | apply below_drew1 | refine below_set ?_ (IsS99.ge HI0.out) | refine below_set ?_ GE107.out | refine below_set ?_ GE113.out) | exact HB.out)); rintro e w58 ⟨rfl, hi, hb, hk⟩; have n0_ := Aside0.mk (Kd.R_mono (Kd.R_keep (IsS99.apart (show IsS99 w0 _ g s0_0 x1001_2 from by exact viaI2 HI0.out NB0_107.out NB0_113.out) (viaR HO_114001.out) (by decide)) hk (fun _ h => h.2)) (fun _ h => h.1)); have n1_ := Aside0.mk (KeepBut.blk hk (g' := gb107) (o := .cells #[.int .i64 0, .slice none 0 0] 25 (0, 0)) (viaB BK107.out) NB107_0.out (by simp)); have n2_ := Aside0.mk (KeepBut.blk hk (g' := gb113) (o := .cells #[.int .i64 (wrap64 (1 + t108)), u114001] 25 (0, 0)) (viaB BK113.out) NB113_0.out (by simp)); have n3_ := Aside0.mk (KeepBut.trans (viaK2 HK.out GW107.out GW113.out) hk (.inl rfl)); have n4_ := Aside0.mk (hb); have n5_ := Aside0.mk (hi); clear HO_114001; clear BK107; clear BK113; clear HK; clear HB; clear HI0; have HO_114001 := n0_; have BK107 := n1_; have BK113 := n2_; have HK := n3_; have HB := n4_; have HI0 := n5_; clear n0_ n1_ n2_ n3_ n4_ n5_; (try clear hb); (try clear hb2); (try clear hk); (try clear hi); have hnb59 := NB113_107.out; have hnc59 := NB107_113.out; have hnb60 := NB113_0.out; have hnc60 := NB0_113.out; have hcz61_0 : w58.cell? ⟨gb113, 0, none⟩ = some (.int .i64 (wrap64 (1 + t108))) := (blk_cell BK113.out 0).trans rfl; have hcz61_1 : w58.cell? ⟨gb113, 1, none⟩ = some (u114001) := (blk_cell BK113.out 1).trans rfl; have hfz61_0 := blk_frozen BK113.out 0; have hfz61_1 := blk_frozen BK113.out 1) | ((with_reducible refine gate_builtin (b := .append) (xs := #[.tmp 60, .tmp 64]) rfl ?_); at_builtin; refine Kd.R_append k69 w.heap.size rfl (.tmp 60) (.tmp 64) 23 69 (.agg #[(.int .i64 0), (.int .i64 0)]) 16 rfl Try.underlying23 info69 rfl (by decide) (by omega) u114001 x114001_2 (⟨x6_1, x7_2⟩ : S69) [.int .i64 x6_1, .int .i64 x7_2] (fun _ => True) (fun _ => False) rfl rfl ?aP (fun _ hk => hk.elim) ?aF ?aO (Below.refl _ _) ?aS ?aL ?_; (case aP => exact k69_mkM _ _ _ (⟨x6_1, x7_2⟩ : S69)); (case aF => exact (fun _ _ => trivial)); (case aO => exact (viaR HO_114001.out)); (case aS => exact (keep_size (w := w) (g := g) (row := none) (viaK2 HK.out GW107.out GW113.out))); (case aL => have := LMc57.out; omega); intro v138 w62 ho hb hg hat; rw [← Ny137.out] at ho; have n0_ := Aside0.mk (blk_grown (g := gb107) (o := .cells #[.int .i64 0, .slice none 0 0] 25 (0, 0)) (viaB BK107.out) hg (Kd.R_ne HO_114001.out BK107.out (by decide))); have n1_ := Aside0.mk (blk_grown (g := gb113) (o := .cells #[.int .i64 (wrap64 (1 + t108)), u114001] 25 (0, 0)) (viaB BK113.out) hg (Kd.R_ne HO_114001.out BK113.out (by decide))); have n2_ := Aside0.mk (IsS99.grown (by exact viaI2 HI0.out NB0_107.out NB0_113.out) hg (IsS99.own_ne HI0.out HO_114001.out (by decide))); have n3_ := Aside0.mk (below_weaken (viaX3 HB.out (IsS99.ge HI0.out) GE107.out GE113.out) HL.out hb); have n4_ := Aside0.mk (KeepBut.trans (viaK2 HK.out GW107.out GW113.out) (KeepBut.of_grown hg g) (Kd.R_base2 HO_114001.out)); have n5_ := Aside0.mk (ho); clear BK107; clear BK113; clear HI0; clear HB; clear HK; clear HO_114001; have BK107 := n0_; have BK113 := n1_; have HI0 := n2_; have HB := n3_; have HK := n4_; have HO139 := n5_; clear n0_ n1_ n2_ n3_ n4_ n5_; clear ho hb hg hat; obtain ⟨Ao63, co63, eo63⟩ := Kd.R_slice HO139.out; subst eo63; have hcz64_0 : w62.cell? ⟨gb113, 0, none⟩ = some (.int .i64 (wrap64 (1 + t108))) := (blk_cell BK113.out 0).trans rfl; have hcz64_1 : w62.cell? ⟨gb113, 1, none⟩ = some (u114001) := (blk_cell BK113.out 1).trans rfl; have hfz64_0 := blk_frozen BK113.out 0; have hfz64_1 := blk_frozen BK113.out 1))
              go_roundg k2
              case measure => have := HK1.out; have := HK2.out; omega
              case rel => exact ⟨(wrap64 (x7_2 + 1)), (t136), (y137), (.slice Ao63 y137.length co63), (by first | rfl | (simp; done) | (simp [*]; done)), H', ⟨by have := HK1.out; have := HK2.out; omega⟩, ⟨by (with_reducible repeat (first | apply Kd.R_alloc | apply Kd.R_drewN | apply Kd.R_drew)); exact Kd.R_mono (Kd.R_far (p := ⟨gb113, 1, none⟩) (Kd.R_types HO139.out BK113.out (by decide)) (fun _ hk => hk.2) (.slice Ao63 y137.length co63)) (fun _ hk => trivial)⟩, ⟨by (with_reducible repeat (first | refine blk_drewN ?_ _ | refine blk_drew ?_ | refine blk_alloc ?_ _)); refine blk_far ?_ NB107_113.out _; (with_reducible repeat (first | refine blk_drewN ?_ _ | refine blk_drew ?_ | refine blk_alloc ?_ _)); exact BK107.out⟩, ⟨by (with_reducible repeat (first | refine blk_drewN ?_ _ | refine blk_drew ?_ | refine blk_alloc ?_ _)); refine blk_put (cs := #[.int .i64 (wrap64 (1 + t108)), u114001]) ?_ 1 _ rfl; (with_reducible repeat (first | refine blk_drewN ?_ _ | refine blk_drew ?_ | refine blk_alloc ?_ _)); exact BK113.out⟩, ⟨by exact viaI2 HI0.out NB0_107.out NB0_113.out⟩, ⟨viaK2 HK.out GW107.out GW113.out⟩, ⟨viaX3 HB.out (IsS99.ge HI0.out) GE107.out GE113.out⟩⟩
             ·rw [if_neg c57] at H
              exact absurd H (by simp)
            ·rw [if_neg c56] at H
             have c56b0 : decide (1 < t135) = false := decide_eq_false c56; clear c56; have H' := Aside0.mk H; clear H
             go_wp2_with (first | (go_at_call 85; (with_reducible refine (spec_l6Rd_pick.calls k2 g s0_0 x1001_2 5 t135 t136 w0 _ ?side1 ?side2 A55.out).mono ?_); (case side1 => exact viaI2 HI0.out NB0_107.out NB0_113.out); (case side2 => repeat (first | (with_reducible first | exact HB.out | apply below_alloc | apply pw_below_drewN | apply below_drew1 | refine below_set ?_ (IsS99.ge HI0.out) | refine below_set ?_ GE107.out | refine below_set ?_ GE113.out) | exact HB.out)); rintro e w65 ⟨rfl, hi, hb, hk⟩; have n0_ := Aside0.mk (Kd.R_mono (Kd.R_keep (IsS99.apart (show IsS99 w0 _ g s0_0 x1001_2 from by exact viaI2 HI0.out NB0_107.out NB0_113.out) (viaR HO_114001.out) (by decide)) hk (fun _ h => h.2)) (fun _ h => h.1)); have n1_ := Aside0.mk (KeepBut.blk hk (g' := gb107) (o := .cells #[.int .i64 0, .slice none 0 0] 25 (0, 0)) (viaB BK107.out) NB107_0.out (by simp)); have n2_ := Aside0.mk (KeepBut.blk hk (g' := gb113) (o := .cells #[.int .i64 (wrap64 (1 + t108)), u114001] 25 (0, 0)) (viaB BK113.out) NB113_0.out (by simp)); have n3_ := Aside0.mk (KeepBut.trans (viaK2 HK.out GW107.out GW113.out) hk (.inl rfl)); have n4_ := Aside0.mk (hb); have n5_ := Aside0.mk (hi); clear HO_114001; clear BK107; clear BK113; clear HK; clear HB; clear HI0; have HO_114001 := n0_; have BK107 := n1_; have BK113 := n2_; have HK := n3_; have HB := n4_; have HI0 := n5_; clear n0_ n1_ n2_ n3_ n4_ n5_; (try clear hb); (try clear hb2); (try clear hk); (try clear hi)))
             go_roundg k2
             case measure => have := HK1.out; have := HK2.out; omega
             case rel => exact ⟨(wrap64 (x7_2 + 1)), (t136), (x114001_2), (u114001), (by first | rfl | (simp; done) | (simp [*]; done)), H', ⟨by have := HK1.out; have := HK2.out; omega⟩, ⟨viaR HO_114001.out⟩, ⟨viaB BK107.out⟩, ⟨viaB BK113.out⟩, ⟨by exact viaI2 HI0.out NB0_107.out NB0_113.out⟩, ⟨viaK2 HK.out GW107.out GW113.out⟩, ⟨viaX3 HB.out (IsS99.ge HI0.out) GE107.out GE113.out⟩⟩
           ·rw [if_neg c54] at H
            have c54b0 : decide (1 < t114) = false := decide_eq_false c54; clear c54; have H' := Aside0.mk H; clear H
            go_wp2
            go_roundg k2
            case measure => have := HK1.out; have := HK2.out; omega
            case rel => exact ⟨(wrap64 (x7_2 + 1)), (x1001_2), (x114001_2), (u114001), (by first | rfl | (simp; done) | (simp [*]; done)), H', ⟨by have := HK1.out; have := HK2.out; omega⟩, ⟨viaR HO_114001.out⟩, ⟨viaB BK107.out⟩, ⟨viaB BK113.out⟩, ⟨by exact viaI2 HI0.out NB0_107.out NB0_113.out⟩, ⟨viaK2 HK.out GW107.out GW113.out⟩, ⟨viaX3 HB.out (IsS99.ge HI0.out) GE107.out GE113.out⟩⟩
        ·rw [if_neg c24] at H
         have c24b0 : (t114 == 1) = false := beq_eq_false_iff_ne.mpr c24; have c24b1 : (t114 != 1) = true := bne_iff_ne.mpr c24
         by_cases c66 : t114 > 1
         ·rw [if_pos c66] at H
          have c66b0 : decide (1 < t114) = true := decide_eq_true c66; clear c66; replace H := Option.bind_eq_some_iff.mp H; obtain ⟨⟨t140, t141⟩, A670, H⟩ := H; replace H : (if t140 > 1 then (if x114001_2.length < 8796093022208 then (spec_l91Graph.l1 k2 (wrap64 (1 + t108)) t114 x6_1 (wrap64 (x7_2 + 1)) s0_0 t141 (wrap64 (1 + t108)) (x114001_2 ++ [(⟨x6_1, x7_2⟩ : S69)])) else (none)) else (spec_l91Graph.l1 k2 (wrap64 (1 + t108)) t114 x6_1 (wrap64 (x7_2 + 1)) s0_0 t141 (wrap64 (1 + t108)) x114001_2)) = some (r1, r2, r3) := H; have A67 := Aside0.mk A670; clear A670
          by_cases c68 : t140 > 1
          ·rw [if_pos c68] at H
           have c68b0 : decide (1 < t140) = true := decide_eq_true c68; clear c68
           by_cases c69 : x114001_2.length < 8796093022208
           ·rw [if_pos c69] at H
            have LMc69 := Aside0.mk c69; clear c69; obtain ⟨y142, hy142⟩ : ∃ y_ : List (S69), y_ = (x114001_2 ++ [(⟨x6_1, x7_2⟩ : S69)]) := ⟨_, rfl⟩; replace H : (spec_l91Graph.l1 k2 (wrap64 (1 + t108)) t114 x6_1 (wrap64 (x7_2 + 1)) s0_0 t141 (wrap64 (1 + t108)) y142) = some (r1, r2, r3) := by first | (rw [hy142]; with_reducible exact H) | (have H2_ := (Option.bind_some _ _).symm.trans H; rw [hy142]; with_reducible exact H2_) | (have H2_ := (Option.bind_some _ _).symm.trans H; with_reducible exact H2_) | with_reducible exact H | (rw [hy142]; exact H) | exact H
            have Ny142 := Aside0.mk hy142; clear hy142; have H' := Aside0.mk H; clear H
            go_wp2_with (first | (go_at_call 85; (with_reducible refine (spec_l6Rd_pick.calls k2 g s0_0 x1001_2 5 t140 t141 w0 _ ?side1 ?side2 A67.out).mono ?_); (case side1 => exact viaI2 HI0.out NB0_107.out NB0_113.out); (case side2 => repeat (first | (with_reducible first | exact HB.out | apply below_alloc | apply pw_below_drewN | apply below_drew1 | refine below_set ?_ (IsS99.ge HI0.out) | refine below_set ?_ GE107.out | refine below_set ?_ GE113.out) | exact HB.out)); rintro e w70 ⟨rfl, hi, hb, hk⟩; have n0_ := Aside0.mk (Kd.R_mono (Kd.R_keep (IsS99.apart (show IsS99 w0 _ g s0_0 x1001_2 from by exact viaI2 HI0.out NB0_107.out NB0_113.out) (viaR HO_114001.out) (by decide)) hk (fun _ h => h.2)) (fun _ h => h.1)); have n1_ := Aside0.mk (KeepBut.blk hk (g' := gb107) (o := .cells #[.int .i64 0, .slice none 0 0] 25 (0, 0)) (viaB BK107.out) NB107_0.out (by simp)); have n2_ := Aside0.mk (KeepBut.blk hk (g' := gb113) (o := .cells #[.int .i64 (wrap64 (1 + t108)), u114001] 25 (0, 0)) (viaB BK113.out) NB113_0.out (by simp)); have n3_ := Aside0.mk (KeepBut.trans (viaK2 HK.out GW107.out GW113.out) hk (.inl rfl)); have n4_ := Aside0.mk (hb); have n5_ := Aside0.mk (hi); clear HO_114001; clear BK107; clear BK113; clear HK; clear HB; clear HI0; have HO_114001 := n0_; have BK107 := n1_; have BK113 := n2_; have HK := n3_; have HB := n4_; have HI0 := n5_; clear n0_ n1_ n2_ n3_ n4_ n5_; (try clear hb); (try clear hb2); (try clear hk); (try clear hi); have hnb71 := NB113_107.out; have hnc71 := NB107_113.out; have hnb72 := NB113_0.out; have hnc72 := NB0_113.out; have hcz73_0 : w70.cell? ⟨gb113, 0, none⟩ = some (.int .i64 (wrap64 (1 + t108))) := (blk_cell BK113.out 0).trans rfl; have hcz73_1 : w70.cell? ⟨gb113, 1, none⟩ = some (u114001) := (blk_cell BK113.out 1).trans rfl; have hfz73_0 := blk_frozen BK113.out 0; have hfz73_1 := blk_frozen BK113.out 1) | ((with_reducible refine gate_builtin (b := .append) (xs := #[.tmp 60, .tmp 64]) rfl ?_); at_builtin; refine Kd.R_append k69 w.heap.size rfl (.tmp 60) (.tmp 64) 23 69 (.agg #[(.int .i64 0), (.int .i64 0)]) 16 rfl Try.underlying23 info69 rfl (by decide) (by omega) u114001 x114001_2 (⟨x6_1, x7_2⟩ : S69) [.int .i64 x6_1, .int .i64 x7_2] (fun _ => True) (fun _ => False) rfl rfl ?aP (fun _ hk => hk.elim) ?aF ?aO (Below.refl _ _) ?aS ?aL ?_; (case aP => exact k69_mkM _ _ _ (⟨x6_1, x7_2⟩ : S69)); (case aF => exact (fun _ _ => trivial)); (case aO => exact (viaR HO_114001.out)); (case aS => exact (keep_size (w := w) (g := g) (row := none) (viaK2 HK.out GW107.out GW113.out))); (case aL => have := LMc69.out; omega); intro v143 w74 ho hb hg hat; rw [← Ny142.out] at ho; have n0_ := Aside0.mk (blk_grown (g := gb107) (o := .cells #[.int .i64 0, .slice none 0 0] 25 (0, 0)) (viaB BK107.out) hg (Kd.R_ne HO_114001.out BK107.out (by decide))); have n1_ := Aside0.mk (blk_grown (g := gb113) (o := .cells #[.int .i64 (wrap64 (1 + t108)), u114001] 25 (0, 0)) (viaB BK113.out) hg (Kd.R_ne HO_114001.out BK113.out (by decide))); have n2_ := Aside0.mk (IsS99.grown (by exact viaI2 HI0.out NB0_107.out NB0_113.out) hg (IsS99.own_ne HI0.out HO_114001.out (by decide))); have n3_ := Aside0.mk (below_weaken (viaX3 HB.out (IsS99.ge HI0.out) GE107.out GE113.out) HL.out hb); have n4_ := Aside0.mk (KeepBut.trans (viaK2 HK.out GW107.out GW113.out) (KeepBut.of_grown hg g) (Kd.R_base2 HO_114001.out)); have n5_ := Aside0.mk (ho); clear BK107; clear BK113; clear HI0; clear HB; clear HK; clear HO_114001; have BK107 := n0_; have BK113 := n1_; have HI0 := n2_; have HB := n3_; have HK := n4_; have HO144 := n5_; clear n0_ n1_ n2_ n3_ n4_ n5_; clear ho hb hg hat; obtain ⟨Ao75, co75, eo75⟩ := Kd.R_slice HO144.out; subst eo75; have hcz76_0 : w74.cell? ⟨gb113, 0, none⟩ = some (.int .i64 (wrap64 (1 + t108))) := (blk_cell BK113.out 0).trans rfl; have hcz76_1 : w74.cell? ⟨gb113, 1, none⟩ = some (u114001) := (blk_cell BK113.out 1).trans rfl; have hfz76_0 := blk_frozen BK113.out 0; have hfz76_1 := blk_frozen BK113.out 1))
            go_roundg k2
            case measure => have := HK1.out; have := HK2.out; omega
            case rel => exact ⟨(wrap64 (x7_2 + 1)), (t141), (y142), (.slice Ao75 y142.length co75), (by first | rfl | (simp; done) | (simp [*]; done)), H', ⟨by have := HK1.out; have := HK2.out; omega⟩, ⟨by (with_reducible repeat (first | apply Kd.R_alloc | apply Kd.R_drewN | apply Kd.R_drew)); exact Kd.R_mono (Kd.R_far (p := ⟨gb113, 1, none⟩) (Kd.R_types HO144.out BK113.out (by decide)) (fun _ hk => hk.2) (.slice Ao75 y142.length co75)) (fun _ hk => trivial)⟩, ⟨by (with_reducible repeat (first | refine blk_drewN ?_ _ | refine blk_drew ?_ | refine blk_alloc ?_ _)); refine blk_far ?_ NB107_113.out _; (with_reducible repeat (first | refine blk_drewN ?_ _ | refine blk_drew ?_ | refine blk_alloc ?_ _)); exact BK107.out⟩, ⟨by (with_reducible repeat (first | refine blk_drewN ?_ _ | refine blk_drew ?_ | refine blk_alloc ?_ _)); refine blk_put (cs := #[.int .i64 (wrap64 (1 + t108)), u114001]) ?_ 1 _ rfl; (with_reducible repeat (first | refine blk_drewN ?_ _ | refine blk_drew ?_ | refine blk_alloc ?_ _)); exact BK113.out⟩, ⟨by exact viaI2 HI0.out NB0_107.out NB0_113.out⟩, ⟨viaK2 HK.out GW107.out GW113.out⟩, ⟨viaX3 HB.out (IsS99.ge HI0.out) GE107.out GE113.out⟩⟩
           ·rw [if_neg c69] at H
            exact absurd H (by simp)
          ·rw [if_neg c68] at H
           have c68b0 : decide (1 < t140) = false := decide_eq_false c68; clear c68; have H' := Aside0.mk H; clear H
           go_wp2_with (first | (go_at_call 85; (with_reducible refine (spec_l6Rd_pick.calls k2 g s0_0 x1001_2 5 t140 t141 w0 _ ?side1 ?side2 A67.out).mono ?_); (case side1 => exact viaI2 HI0.out NB0_107.out NB0_113.out); (case side2 => repeat (first | (with_reducible first | exact HB.out | apply below_alloc | apply pw_below_drewN | apply below_drew1 | refine below_set ?_ (IsS99.ge HI0.out) | refine below_set ?_ GE107.out | refine below_set ?_ GE113.out) | exact HB.out)); rintro e w77 ⟨rfl, hi, hb, hk⟩; have n0_ := Aside0.mk (Kd.R_mono (Kd.R_keep (IsS99.apart (show IsS99 w0 _ g s0_0 x1001_2 from by exact viaI2 HI0.out NB0_107.out NB0_113.out) (viaR HO_114001.out) (by decide)) hk (fun _ h => h.2)) (fun _ h => h.1)); have n1_ := Aside0.mk (KeepBut.blk hk (g' := gb107) (o := .cells #[.int .i64 0, .slice none 0 0] 25 (0, 0)) (viaB BK107.out) NB107_0.out (by simp)); have n2_ := Aside0.mk (KeepBut.blk hk (g' := gb113) (o := .cells #[.int .i64 (wrap64 (1 + t108)), u114001] 25 (0, 0)) (viaB BK113.out) NB113_0.out (by simp)); have n3_ := Aside0.mk (KeepBut.trans (viaK2 HK.out GW107.out GW113.out) hk (.inl rfl)); have n4_ := Aside0.mk (hb); have n5_ := Aside0.mk (hi); clear HO_114001; clear BK107; clear BK113; clear HK; clear HB; clear HI0; have HO_114001 := n0_; have BK107 := n1_; have BK113 := n2_; have HK := n3_; have HB := n4_; have HI0 := n5_; clear n0_ n1_ n2_ n3_ n4_ n5_; (try clear hb); (try clear hb2); (try clear hk); (try clear hi)))
           go_roundg k2
           case measure => have := HK1.out; have := HK2.out; omega
           case rel => exact ⟨(wrap64 (x7_2 + 1)), (t141), (x114001_2), (u114001), (by first | rfl | (simp; done) | (simp [*]; done)), H', ⟨by have := HK1.out; have := HK2.out; omega⟩, ⟨viaR HO_114001.out⟩, ⟨viaB BK107.out⟩, ⟨viaB BK113.out⟩, ⟨by exact viaI2 HI0.out NB0_107.out NB0_113.out⟩, ⟨viaK2 HK.out GW107.out GW113.out⟩, ⟨viaX3 HB.out (IsS99.ge HI0.out) GE107.out GE113.out⟩⟩
         ·rw [if_neg c66] at H
          have c66b0 : decide (1 < t114) = false := decide_eq_false c66; clear c66; have H' := Aside0.mk H; clear H
          go_wp2
          go_roundg k2
          case measure => have := HK1.out; have := HK2.out; omega
          case rel => exact ⟨(wrap64 (x7_2 + 1)), (x1001_2), (x114001_2), (u114001), (by first | rfl | (simp; done) | (simp [*]; done)), H', ⟨by have := HK1.out; have := HK2.out; omega⟩, ⟨viaR HO_114001.out⟩, ⟨viaB BK107.out⟩, ⟨viaB BK113.out⟩, ⟨by exact viaI2 HI0.out NB0_107.out NB0_113.out⟩, ⟨viaK2 HK.out GW107.out GW113.out⟩, ⟨viaX3 HB.out (IsS99.ge HI0.out) GE107.out GE113.out⟩⟩
      ·rw [if_neg c15] at H
       have c15b0 : decide (x7_2 < (wrap64 (1 + t108))) = false := decide_eq_false c15; clear c15; have H' := Aside0.mk H; clear H
       go_wp2
       go_roundg k2
       case measure => have := HK1.out; have := HK2.out; omega
       case rel => exact ⟨(wrap64 (x6_1 + 1)), (x1001_2), (x114001_2), (u114001), (by first | rfl | (simp; done) | (simp [*]; done)), H', ⟨by have := HK1.out; have := HK2.out; omega⟩, ⟨viaR HO_114001.out⟩, ⟨viaB BK107.out⟩, ⟨viaB BK113.out⟩, ⟨by exact viaI2 HI0.out NB0_107.out NB0_113.out⟩, ⟨viaK2 HK.out GW107.out GW113.out⟩, ⟨viaX3 HB.out (IsS99.ge HI0.out) GE107.out GE113.out⟩⟩
   ·rw [if_neg c14] at H
    have c14b0 : decide (x6_1 < (wrap64 (1 + t108))) = false := decide_eq_false c14; clear c14; replace H := Option.bind_eq_some_iff.mp H; obtain ⟨⟨t116, t117⟩, A780, H⟩ := H; replace H : (if t116 = 0 then (if x114001_1.length < 8796093022208 then (some ((wrap64 (1 + t108)), (x114001_1 ++ [(⟨wrap64 ((wrap64 (1 + t108)) - 1), 0⟩ : S69)]), t117)) else (none)) else (some ((wrap64 (1 + t108)), x114001_1, t117))) = some (r1, r2, r3) := H; have A78 := Aside0.mk A780; clear A780
    by_cases c79 : t116 = 0
    ·rw [if_pos c79] at H
     have c79b0 : (t116 == 0) = true := beq_iff_eq.mpr c79; have c79b1 : (t116 != 0) = false := bne_eq_false_iff_eq.mpr c79; clear c79
     by_cases c80 : x114001_1.length < 8796093022208
     ·rw [if_pos c80] at H
      have LMc80 := Aside0.mk c80; clear c80; obtain ⟨y118, hy118⟩ : ∃ y_ : List (S69), y_ = (x114001_1 ++ [(⟨wrap64 ((wrap64 (1 + t108)) - 1), 0⟩ : S69)]) := ⟨_, rfl⟩; replace H : (some ((wrap64 (1 + t108)), y118, t117)) = some (r1, r2, r3) := by first | (rw [hy118]; with_reducible exact H) | (have H2_ := (Option.bind_some _ _).symm.trans H; rw [hy118]; with_reducible exact H2_) | (have H2_ := (Option.bind_some _ _).symm.trans H; with_reducible exact H2_) | with_reducible exact H | (rw [hy118]; exact H) | exact H
      have Ny118 := Aside0.mk hy118; clear hy118
      simp only [Option.some.injEq, Prod.mk.injEq] at H
      obtain ⟨rfl, rfl, rfl⟩ := H
      go_wp2_with (first | ((with_reducible refine gate_callee (f := 85) rfl ?_); refine goesL_ (some 68) rfl rfl Try.func85 (by kernel_rfl) rfl #[.pointer (some ⟨g, 0, none⟩), .int .i64 40] rfl (by (try simp only [List.map_toArray, List.map_cons, List.map_nil]); first | done | rfl) ?_; (with_reducible refine (spec_l6Rd_pick.calls k1 g s0_0 x1001_1 40 t116 t117 w0 _ ?side1 ?side2 A78.out).mono ?_); (case side1 => exact viaI2 HI0.out NB0_107.out NB0_113.out); (case side2 => repeat (first | (with_reducible first | exact HB.out | apply below_alloc | apply pw_below_drewN | apply below_drew1 | refine below_set ?_ (IsS99.ge HI0.out) | refine below_set ?_ GE107.out | refine below_set ?_ GE113.out) | exact HB.out)); rintro e w81 ⟨rfl, hi, hb, hk⟩; refine ⟨_, rfl, ?_⟩; have n0_ := Aside0.mk (Kd.R_mono (Kd.R_keep (IsS99.apart (show IsS99 w0 _ g s0_0 x1001_1 from by exact viaI2 HI0.out NB0_107.out NB0_113.out) (viaR HO_114001.out) (by decide)) hk (fun _ h => h.2)) (fun _ h => h.1)); have n1_ := Aside0.mk (KeepBut.blk hk (g' := gb107) (o := .cells #[.int .i64 0, .slice none 0 0] 25 (0, 0)) (viaB BK107.out) NB107_0.out (by simp)); have n2_ := Aside0.mk (KeepBut.blk hk (g' := gb113) (o := .cells #[.int .i64 (wrap64 (1 + t108)), u114001] 25 (0, 0)) (viaB BK113.out) NB113_0.out (by simp)); have n3_ := Aside0.mk (KeepBut.trans (viaK2 HK.out GW107.out GW113.out) hk (.inl rfl)); have n4_ := Aside0.mk (hb); have n5_ := Aside0.mk (hi); clear HO_114001; clear BK107; clear BK113; clear HK; clear HB; clear HI0; have HO_114001 := n0_; have BK107 := n1_; have BK113 := n2_; have HK := n3_; have HB := n4_; have HI0 := n5_; clear n0_ n1_ n2_ n3_ n4_ n5_; (try clear hb); (try clear hb2); (try clear hk); (try clear hi); have hnb82 := NB113_107.out; have hnc82 := NB107_113.out; have hnb83 := NB113_0.out; have hnc83 := NB0_113.out; have hcz84_0 : w81.cell? ⟨gb113, 0, none⟩ = some (.int .i64 (wrap64 (1 + t108))) := (blk_cell BK113.out 0).trans rfl; have hcz84_1 : w81.cell? ⟨gb113, 1, none⟩ = some (u114001) := (blk_cell BK113.out 1).trans rfl; have hfz84_0 := blk_frozen BK113.out 0; have hfz84_1 := blk_frozen BK113.out 1) | ((with_reducible refine gate_builtin (b := .append) (xs := #[.tmp 71, .tmp 75]) rfl ?_); at_builtin; refine Kd.R_append k69 w.heap.size rfl (.tmp 71) (.tmp 75) 23 69 (.agg #[(.int .i64 0), (.int .i64 0)]) 16 rfl Try.underlying23 info69 rfl (by decide) (by omega) u114001 x114001_1 (⟨wrap64 ((wrap64 (1 + t108)) - 1), 0⟩ : S69) [.int .i64 (wrap64 ((wrap64 (1 + t108)) - 1)), .int .i64 0] (fun _ => True) (fun _ => False) rfl rfl ?aP (fun _ hk => hk.elim) ?aF ?aO (Below.refl _ _) ?aS ?aL ?_; (case aP => exact k69_mkM _ _ _ (⟨wrap64 ((wrap64 (1 + t108)) - 1), 0⟩ : S69)); (case aF => exact (fun _ _ => trivial)); (case aO => exact (viaR HO_114001.out)); (case aS => exact (keep_size (w := w) (g := g) (row := none) (viaK2 HK.out GW107.out GW113.out))); (case aL => have := LMc80.out; omega); intro v119 w85 ho hb hg hat; rw [← Ny118.out] at ho; have n0_ := Aside0.mk (blk_grown (g := gb107) (o := .cells #[.int .i64 0, .slice none 0 0] 25 (0, 0)) (viaB BK107.out) hg (Kd.R_ne HO_114001.out BK107.out (by decide))); have n1_ := Aside0.mk (blk_grown (g := gb113) (o := .cells #[.int .i64 (wrap64 (1 + t108)), u114001] 25 (0, 0)) (viaB BK113.out) hg (Kd.R_ne HO_114001.out BK113.out (by decide))); have n2_ := Aside0.mk (IsS99.grown (by exact viaI2 HI0.out NB0_107.out NB0_113.out) hg (IsS99.own_ne HI0.out HO_114001.out (by decide))); have n3_ := Aside0.mk (below_weaken (viaX3 HB.out (IsS99.ge HI0.out) GE107.out GE113.out) HL.out hb); have n4_ := Aside0.mk (KeepBut.trans (viaK2 HK.out GW107.out GW113.out) (KeepBut.of_grown hg g) (Kd.R_base2 HO_114001.out)); have n5_ := Aside0.mk (ho); clear BK107; clear BK113; clear HI0; clear HB; clear HK; clear HO_114001; have BK107 := n0_; have BK113 := n1_; have HI0 := n2_; have HB := n3_; have HK := n4_; have HO120 := n5_; clear n0_ n1_ n2_ n3_ n4_ n5_; clear ho hb hg hat; obtain ⟨Ao86, co86, eo86⟩ := Kd.R_slice HO120.out; subst eo86; have hcz87_0 : w85.cell? ⟨gb113, 0, none⟩ = some (.int .i64 (wrap64 (1 + t108))) := (blk_cell BK113.out 0).trans rfl; have hcz87_1 : w85.cell? ⟨gb113, 1, none⟩ = some (u114001) := (blk_cell BK113.out 1).trans rfl; have hfz87_0 := blk_frozen BK113.out 0; have hfz87_1 := blk_frozen BK113.out 1; have hnb88 := NB107_0.out; have hnc88 := NB0_107.out; have hcz89_0 : w85.cell? ⟨gb107, 0, none⟩ = some (.int .i64 0) := (blk_cell BK107.out 0).trans rfl; have hcz89_1 : w85.cell? ⟨gb107, 1, none⟩ = some (.slice none 0 0) := (blk_cell BK107.out 1).trans rfl; have hfz89_0 := blk_frozen BK107.out 0; have hfz89_1 := blk_frozen BK107.out 1))
      refine bodyPost_ret (results_cell_row rfl _ _ gb107 25 #[.int .i64 (wrap64 (1 + t108)), .slice Ao86 y118.length co86] (0, 0) _ rfl (by (with_reducible repeat (first | refine blk_drewN ?_ _ | refine blk_drew ?_ | refine blk_alloc ?_ _)); refine blk_put (cs := #[.int .i64 (wrap64 (1 + t108)), .slice none 0 0]) ?_ 1 _ rfl; (with_reducible repeat (first | refine blk_drewN ?_ _ | refine blk_drew ?_ | refine blk_alloc ?_ _)); refine blk_put (cs := #[.int .i64 0, .slice none 0 0]) ?_ 0 _ rfl; (with_reducible repeat (first | refine blk_drewN ?_ _ | refine blk_drew ?_ | refine blk_alloc ?_ _)); refine blk_far ?_ NB107_113.out _; (with_reducible repeat (first | refine blk_drewN ?_ _ | refine blk_drew ?_ | refine blk_alloc ?_ _)); exact BK107.out) Try.underlying25 rfl (by kernel_rfl)) rfl ?_
      exact ⟨_, by first | rfl | (simp [errW_none, errW_some] <;> rfl) | (simp [*, errW_none, errW_some] <;> rfl), by (with_reducible repeat (first | apply Kd.R_alloc | apply Kd.R_drewN | apply Kd.R_drew)); exact Kd.R_mono (Kd.R_far (p := ⟨gb107, 1, none⟩) (Kd.R_far (p := ⟨gb107, 0, none⟩) (Kd.R_far (p := ⟨gb113, 1, none⟩) (Kd.R_types (Kd.R_types HO120.out BK113.out (by decide)) BK107.out (by decide)) (fun _ hk => hk.1.2) (.slice Ao86 y118.length co86)) (fun _ hk => hk.2) (.int .i64 (wrap64 (1 + t108)))) (fun _ hk => hk.2) (.slice Ao86 y118.length co86)) (fun _ hk => trivial), by exact viaI2 HI0.out NB0_107.out NB0_113.out, viaX3 HB.out (IsS99.ge HI0.out) GE107.out GE113.out, viaK2 HK.out GW107.out GW113.out⟩
     ·rw [if_neg c80] at H
      exact absurd H (by simp)
    ·rw [if_neg c79] at H
     have c79b0 : (t116 == 0) = false := beq_eq_false_iff_ne.mpr c79; have c79b1 : (t116 != 0) = true := bne_iff_ne.mpr c79
     simp only [Option.some.injEq, Prod.mk.injEq] at H
     obtain ⟨rfl, rfl, rfl⟩ := H
     go_wp2_with (first | ((with_reducible refine gate_callee (f := 85) rfl ?_); refine goesL_ (some 68) rfl rfl Try.func85 (by kernel_rfl) rfl #[.pointer (some ⟨g, 0, none⟩), .int .i64 40] rfl (by (try simp only [List.map_toArray, List.map_cons, List.map_nil]); first | done | rfl) ?_; (with_reducible refine (spec_l6Rd_pick.calls k1 g s0_0 x1001_1 40 t116 t117 w0 _ ?side1 ?side2 A78.out).mono ?_); (case side1 => exact viaI2 HI0.out NB0_107.out NB0_113.out); (case side2 => repeat (first | (with_reducible first | exact HB.out | apply below_alloc | apply pw_below_drewN | apply below_drew1 | refine below_set ?_ (IsS99.ge HI0.out) | refine below_set ?_ GE107.out | refine below_set ?_ GE113.out) | exact HB.out)); rintro e w90 ⟨rfl, hi, hb, hk⟩; refine ⟨_, rfl, ?_⟩; have n0_ := Aside0.mk (Kd.R_mono (Kd.R_keep (IsS99.apart (show IsS99 w0 _ g s0_0 x1001_1 from by exact viaI2 HI0.out NB0_107.out NB0_113.out) (viaR HO_114001.out) (by decide)) hk (fun _ h => h.2)) (fun _ h => h.1)); have n1_ := Aside0.mk (KeepBut.blk hk (g' := gb107) (o := .cells #[.int .i64 0, .slice none 0 0] 25 (0, 0)) (viaB BK107.out) NB107_0.out (by simp)); have n2_ := Aside0.mk (KeepBut.blk hk (g' := gb113) (o := .cells #[.int .i64 (wrap64 (1 + t108)), u114001] 25 (0, 0)) (viaB BK113.out) NB113_0.out (by simp)); have n3_ := Aside0.mk (KeepBut.trans (viaK2 HK.out GW107.out GW113.out) hk (.inl rfl)); have n4_ := Aside0.mk (hb); have n5_ := Aside0.mk (hi); clear HO_114001; clear BK107; clear BK113; clear HK; clear HB; clear HI0; have HO_114001 := n0_; have BK107 := n1_; have BK113 := n2_; have HK := n3_; have HB := n4_; have HI0 := n5_; clear n0_ n1_ n2_ n3_ n4_ n5_; (try clear hb); (try clear hb2); (try clear hk); (try clear hi); have hnb91 := NB113_107.out; have hnc91 := NB107_113.out; have hnb92 := NB113_0.out; have hnc92 := NB0_113.out; have hcz93_0 : w90.cell? ⟨gb113, 0, none⟩ = some (.int .i64 (wrap64 (1 + t108))) := (blk_cell BK113.out 0).trans rfl; have hcz93_1 : w90.cell? ⟨gb113, 1, none⟩ = some (u114001) := (blk_cell BK113.out 1).trans rfl; have hfz93_0 := blk_frozen BK113.out 0; have hfz93_1 := blk_frozen BK113.out 1; have hnb94 := NB107_0.out; have hnc94 := NB0_107.out; have hcz95_0 : w90.cell? ⟨gb107, 0, none⟩ = some (.int .i64 0) := (blk_cell BK107.out 0).trans rfl; have hcz95_1 : w90.cell? ⟨gb107, 1, none⟩ = some (.slice none 0 0) := (blk_cell BK107.out 1).trans rfl; have hfz95_0 := blk_frozen BK107.out 0; have hfz95_1 := blk_frozen BK107.out 1; obtain ⟨Ao96, co96, eo96⟩ := Kd.R_slice HO_114001.out; subst eo96))
     refine bodyPost_ret (results_cell_row rfl _ _ gb107 25 #[.int .i64 (wrap64 (1 + t108)), .slice Ao96 x114001_1.length co96] (0, 0) _ rfl (by (with_reducible repeat (first | refine blk_drewN ?_ _ | refine blk_drew ?_ | refine blk_alloc ?_ _)); refine blk_put (cs := #[.int .i64 (wrap64 (1 + t108)), .slice none 0 0]) ?_ 1 _ rfl; (with_reducible repeat (first | refine blk_drewN ?_ _ | refine blk_drew ?_ | refine blk_alloc ?_ _)); refine blk_put (cs := #[.int .i64 0, .slice none 0 0]) ?_ 0 _ rfl; (with_reducible repeat (first | refine blk_drewN ?_ _ | refine blk_drew ?_ | refine blk_alloc ?_ _)); exact BK107.out) Try.underlying25 rfl (by kernel_rfl)) rfl ?_
     exact ⟨_, by first | rfl | (simp [errW_none, errW_some] <;> rfl) | (simp [*, errW_none, errW_some] <;> rfl), by (with_reducible repeat (first | apply Kd.R_alloc | apply Kd.R_drewN | apply Kd.R_drew)); exact Kd.R_mono (Kd.R_far (p := ⟨gb107, 1, none⟩) (Kd.R_far (p := ⟨gb107, 0, none⟩) (Kd.R_types HO_114001.out BK107.out (by decide)) (fun _ hk => hk.2) (.int .i64 (wrap64 (1 + t108)))) (fun _ hk => hk.2) (.slice Ao96 x114001_1.length co96)) (fun _ hk => trivial), by exact viaI2 HI0.out NB0_107.out NB0_113.out, viaX3 HB.out (IsS99.ge HI0.out) GE107.out GE113.out, viaK2 HK.out GW107.out GW113.out⟩
end Go.Proofs.Ythoaebnnolbaaaa.G
