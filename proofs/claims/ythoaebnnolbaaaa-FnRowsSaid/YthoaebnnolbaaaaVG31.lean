/- For each Go function named below: a plain Lean function of the same name, and the proof that a call of the Go function returns just what the plain function tells, where it tells something. Written by a program of this session with the printer of the kit. -/
import Derived.Test.YthoaebnnolbaaaaVG0
import Derived.Test.YthoaebnnolbaaaaVG3
namespace Go.Proofs.Ythoaebnnolbaaaa.G
open Go.RowKit Go.Proofs.YthoaebnnolbaaaaW.PrintWords Go.Proofs.YthoaebnnolbaaaaW.PrintLast Go.Proofs.YthoaebnnolbaaaaW.PrintMore
attribute [local go_sem] max2_int min2_int max_two min_two max_three min_three max_four min_four   -- for this text's walks alone
set_option linter.unusedVariables false
set_option linter.unusedSimpArgs false

/-! ### impl_byRounds: function 65 -/
theorem hold_ {w w' : World} {b : Nat} {v : Value} (hb : Below w.heap.size w w') (h : w.cell? ⟨b, 0, none⟩ = some v) : w'.cell? ⟨b, 0, none⟩ = some v := (hb.cell (World.block_lt_of_cell? _ _ h)).trans h
/-- A call of a function value that lies in a slot, one step of a region: what it has captured stands behind its arguments. -/
theorem goesVs_ {P : Program} {ops : Array Oper} {Q : Exit → Act → World → Prop} {oi : Oper} {N : Option Tmp} {a : Act} {w : World} {K : Act → World → Prop} {f : FuncId} {fn : Func} {t : Nat} {ar : Array Operand} {ts : Array TypeId} {caps : Array Value}
  (hf : P.funcs[f]? = some fn) (hname : (fn.name == "runtime.NumGoroutine") = false) (hb : fn.body.isSome = true) (args : Array Value)
  (hw : Region.wanted oi (yielded ops a.tmps) = true) (hN : oi.dst = N) (hop : oi.op = .call { callee := .value (.tmp t), args := ar, argTypes := ts }) (hv : a.eval (.tmp t) = .func (.func f) #[] caps) (hargs : ar.map a.eval = args)
  (h : Calls P f (args ++ caps) w fun e w' => ∃ v, e = .returned v ∧ K (a.put N v) w') : if Region.wanted oi (yielded ops a.tmps) = true then Oper.wp P oi a w K Q else K (a.put N undef) w := by
 refine call_ f (args ++ caps) hw hN ?_ h
 have he := enters_ hf hname hb (args ++ caps) w
 unfold execOp
 simp [hop, resolve, hv, Deferred.ofValue, invoke, hargs, he]
theorem store_step_ {P : Program} {ops : Array Oper} {o : Oper} {a : Act} {Q : Exit → Act → World → Prop} {K : Act → World → Prop} {W w1 : World} (hw : Region.wanted o (yielded ops a.tmps) = true) (hN : o.dst = none) (hrun : (execOp a.eval o).run P W = .ok .skip w1) (h : K a w1) : if Region.wanted o (yielded ops a.tmps) = true then Oper.wp P o a W K Q else K (a.put none undef) W := by
 rw [if_pos hw]
 unfold Oper.wp
 rw [hrun]
 show K (a.put o.dst undef) w1
 rw [hN]
 exact h
/-- The variables that the closure has captured, and what its list holds. -/
structure TurnEnv (W0 : World) (bg bo bt bw : Nat) (n o : Int) (A0 : Option Addr) (len0 c0 : Nat) (l : List Int) (w : World) : Prop where
 below : Below W0.heap.size W0 w
 g : w.heap[bg]? = some (.cells #[.int .i64 n, .slice A0 len0 c0] 25 (0, 0))
 o : w.heap[bo]? = some (.cells #[.int .i64 o] 3 (0, 0))
 f : w.heap[bw]? = some (.cells #[(.func (.func 103) #[] #[.pointer (some ⟨bg, 0, none⟩), .pointer (some ⟨bo, 0, none⟩), .pointer (some ⟨bt, 0, none⟩), .pointer (some ⟨bw, 0, none⟩)])] 92 (0, 0))
 t : ∃ v, w.heap[bt]? = some (.cells #[v] 30 (0, 0)) ∧ Kd.R (Kd.int .i64) 3 w W0.heap.size (fun k => k ≠ bo) v l
 past : W0.heap.size ≤ bt
theorem TurnEnv.next {W0 : World} {bg bo bt bw : Nat} {n o : Int} {A0 : Option Addr} {len0 c0 : Nat} {l : List Int} {w w1 : World} (h : TurnEnv W0 bg bo bt bw n o A0 len0 c0 l w) (hb : Below w.heap.size w w1) : TurnEnv W0 bg bo bt bw n o A0 len0 c0 l w1 :=
 ⟨below_step h.below hb, blk_below h.g hb, blk_below h.o hb, blk_below h.f hb, let ⟨v, h1, h2⟩ := h.t; ⟨v, blk_below h1 hb, Kd.R_below h2 hb⟩, h.past⟩
theorem TurnEnv.put {W0 : World} {bg bo bt bw : Nat} {n o : Int} {A0 : Option Addr} {len0 c0 : Nat} {l l1 : List Int} {w w1 : World} {v v1 : Value} (h : TurnEnv W0 bg bo bt bw n o A0 len0 c0 l w) (h1 : w.heap[bt]? = some (.cells #[v] 30 (0, 0))) (h2 : Kd.R (Kd.int .i64) 3 w W0.heap.size (fun k => k ≠ bo) v l)
  (h3 : Kd.R (Kd.int .i64) 3 w1 W0.heap.size (fun k => k ≠ bo) v1 l1) (hb : Below W0.heap.size W0 w1) (hg : w.grownBy w1 v.ownBlock) : TurnEnv W0 bg bo bt bw n o A0 len0 c0 l1 (w1.setCell ⟨bt, 0, none⟩ v1) := by
 have hn : ∀ {b t : Nat} {cs : Array Value}, w.heap[b]? = some (.cells cs t (0, 0)) → 3 ≠ t → w1.heap[b]? = some (.cells cs t (0, 0)) := fun hh ht => blk_grown hh hg (Kd.R_ne h2 hh ht); have ho : w1.heap[bo]? = some (.cells #[.int .i64 o] 3 (0, 0)) := blk_grown h.o hg (fun e => h2.1 bo e.symm rfl); have ht := hn h1 (by decide)
 have hd : ∀ {b t : Nat} {cs : Array Value}, w1.heap[b]? = some (.cells cs t (0, 0)) → t ≠ 30 → b ≠ bt := by
  intro b t cs hh hne e; subst e
  rw [ht] at hh
  injection hh with hh
  injection hh with _ hh
  exact hne hh.symm
 exact ⟨below_set hb h.past, blk_far (hn h.g (by decide)) (hd (hn h.g (by decide)) (by decide)) _, blk_far ho (hd ho (by decide)) _, blk_far (hn h.f (by decide)) (hd (hn h.f (by decide)) (by decide)) _,
  ⟨v1, blk_put ht 0 v1 rfl, Kd.R_set h3 ht (by intro q hq; simp [Kd.int, Kd.scalar] at hq; subst hq; decide) 0 v1⟩, h.past⟩
def impl_turn.f (n : Int) (es : List (S69)) (o first : Int) : Nat → Int → Int → Int → Int → List Int → Option (List Int)
 | 0, _, _, _, _, _ => none
 | k + 1, at_, nodes, edges, i, out => if i < (es.length : Int) then (if 0 ≤ i then ((impl_ends.f n es o i).bind fun t => if t.1 = at_ then (if t.2 = first then (if out.length < 17592186044416 then impl_turn.f n es o first k at_ nodes edges (wrap64 (i + 1)) (out ++ [Go.bits .xor .i64 (Go.bits .xor .i64 o edges) (shl .i64 1 i)]) else none) else (if first < t.2 then (if 0 ≤ t.2 then (if Go.bits .and .i64 (shr .i64 nodes t.2) 1 = 0 then ((impl_turn.f n es o first k t.2 (Go.bits .or .i64 nodes (shl .i64 1 t.2)) (Go.bits .or .i64 edges (shl .i64 1 i)) 0 out).bind fun out2 => impl_turn.f n es o first k at_ nodes edges (wrap64 (i + 1)) out2) else impl_turn.f n es o first k at_ nodes edges (wrap64 (i + 1)) out) else none) else impl_turn.f n es o first k at_ nodes edges (wrap64 (i + 1)) out)) else impl_turn.f n es o first k at_ nodes edges (wrap64 (i + 1)) out) else none) else some out
theorem impl_turn.mono (n : Int) (es : List (S69)) (o first : Int) : ∀ k a b c i out, LeO (impl_turn.f n es o first k a b c i out) (impl_turn.f n es o first (k + 1) a b c i out)
 | 0, _, _, _, _, _ => fun r h => by simp [impl_turn.f] at h
 | k + 1, a, b, c, i, out => by
  have ih := impl_turn.mono n es o first k
  unfold impl_turn.f
  repeat' first
   | (with_reducible exact ih _ _ _ _ _)
   | (with_reducible exact LeO.refl _)
   | (with_reducible exact LeO.none _)
   | (with_reducible refine LeO.ite ?_ ?_)
   | (with_reducible refine LeO.bind ?_ (fun _ => ?_))
set_option maxHeartbeats 8000000 in
set_option maxRecDepth 100000 in
theorem impl_turn.calls (W0 : World) (bg bo bt bw : Nat) (n o : Int) (A0 : Option Addr) (c0 : Nat) (es : List (S69)) (hr0 : Kd.C k69 W0 A0 es.length es) (hc0 : es.length ≤ c0) (first : Int) :
  ∀ (k : Nat) (at_ nodes edges : Int) (out r : List Int) (w : World), impl_turn.f n es o first k at_ nodes edges 0 out = some r → TurnEnv W0 bg bo bt bw n o A0 es.length c0 out w →
  Calls Try.prog 103 #[.int .i64 first, .int .i64 at_, .int .i64 nodes, .int .i64 edges, .pointer (some ⟨bg, 0, none⟩), .pointer (some ⟨bo, 0, none⟩), .pointer (some ⟨bt, 0, none⟩), .pointer (some ⟨bw, 0, none⟩)] w fun e w' => e = .returned (.tuple #[]) ∧ TurnEnv W0 bg bo bt bw n o A0 es.length c0 r w' := by
 intro k
 induction k using Nat.strongRecOn with
 | ind k ih =>
  intro at_ nodes edges out r w h env; have hu := Try.underlying25; have HR0 := Aside0.mk hr0; have HC0 := Aside0.mk hc0; have IH := Aside0.mk ih; have HE0 := Aside0.mk env; have H0 := Aside0.mk h; have HCK := Aside0.mk (Kd.C_max hr0); clear ih h env hr0 hc0; have hcg0 : w.cell? ⟨bg, 0, none⟩ = some (.int .i64 n) := (blk_cell HE0.out.g 0).trans rfl; have hcg1 : w.cell? ⟨bg, 1, none⟩ = some (.slice A0 es.length c0) := (blk_cell HE0.out.g 1).trans rfl
  go_enter Try.func103, Try.ntmps103
  go_wp2
  go_loopg [18] k (fun kq v18 w' => ∃ (x : Int) (b : List Int), v18 = .int .i64 x ∧ Aside0 (impl_turn.f n es o first kq at_ nodes edges x b = some r) ∧ Aside0 (kq ≤ k) ∧ Aside0 (TurnEnv W0 bg bo bt bw n o A0 es.length c0 b w'))
  case atStart => exact ⟨0, out, rfl, H0, ⟨Nat.le_refl _⟩, HE0⟩
  case round =>
   clear H0 HE0 hcg0 hcg1; obtain ⟨x, b, rfl, HA, HKQ, HE⟩ := hrel
   cases gk with
   | zero => exact absurd HA.out (by simp [impl_turn.f])
   | succ k1 =>
    have H := HA.out; clear HA
    simp only [impl_turn.f] at H
    by_cases c1 : x < (es.length : Int)
    ·rw [if_pos c1] at H
     have c1b : decide (x < (es.length : Int)) = true := decide_eq_true c1; clear c1
     by_cases c2 : 0 ≤ x
     ·rw [if_pos c2] at H
      obtain ⟨⟨ta, tb⟩, A1, H⟩ := Option.bind_eq_some_iff.mp H; replace H : (if ta = at_ then (if tb = first then (if b.length < 17592186044416 then impl_turn.f n es o first k1 at_ nodes edges (wrap64 (x + 1)) (b ++ [Go.bits .xor .i64 (Go.bits .xor .i64 o edges) (shl .i64 1 x)]) else none) else (if first < tb then (if 0 ≤ tb then (if Go.bits .and .i64 (shr .i64 nodes tb) 1 = 0 then ((impl_turn.f n es o first k1 tb (Go.bits .or .i64 nodes (shl .i64 1 tb)) (Go.bits .or .i64 edges (shl .i64 1 x)) 0 b).bind fun out2 => impl_turn.f n es o first k1 at_ nodes edges (wrap64 (x + 1)) out2) else impl_turn.f n es o first k1 at_ nodes edges (wrap64 (x + 1)) b) else none) else impl_turn.f n es o first k1 at_ nodes edges (wrap64 (x + 1)) b)) else impl_turn.f n es o first k1 at_ nodes edges (wrap64 (x + 1)) b) = some r := H; have A1' := Aside0.mk A1; clear A1; have hcg0 : wr.cell? ⟨bg, 0, none⟩ = some (.int .i64 n) := (blk_cell HE.out.g 0).trans rfl; have hcg1 : wr.cell? ⟨bg, 1, none⟩ = some (.slice A0 es.length c0) := (blk_cell HE.out.g 1).trans rfl; have hco0 : wr.cell? ⟨bo, 0, none⟩ = some (.int .i64 o) := (blk_cell HE.out.o 0).trans rfl; have ENDS := Aside0.mk (show Calls Try.prog 99 #[.agg #[.int .i64 n, .slice A0 es.length c0], .int .i64 o, .int .i64 x] wr fun e w' => e = .returned (.tuple #[.int .i64 ta, .int .i64 tb]) ∧ Below wr.heap.size wr w' from impl_ends.calls n A0 c0 es o x ta tb wr (Kd.C_below HR0.out HE.out.below) HC0.out A1'.out)
      by_cases c3 : ta = at_
      ·rw [if_pos c3] at H
       have c3b : (ta != at_) = false := bne_eq_false_iff_eq.mpr c3; clear c3
       by_cases c4 : tb = first
       ·rw [if_pos c4] at H
        have c4b : (tb == first) = true := beq_iff_eq.mpr c4; clear c4
        by_cases c5 : b.length < 17592186044416
        ·rw [if_pos c5] at H
         have HL := Aside0.mk c5; clear c5; obtain ⟨ji, hji⟩ : ∃ j_ : Int, (shl .i64 1 x) = j_ := ⟨_, rfl⟩
         rw [hji] at H
         have hji_ : (IntKind.i64.wrap (1 * 2 ^ min x.toNat 64)) = ji := hji; have hjiz : x ≤ 64 → (IntKind.i64.wrap (1 * 2 ^ x.toNat)) = ji := shl_small hji; have hjiu : (IntKind.i64.wrap (2 ^ min x.toNat 64)) = ji := by have h_ := hji_; rw [Int.one_mul] at h_; exact h_
         have hjiv : x ≤ 64 → (IntKind.i64.wrap (2 ^ x.toNat)) = ji := fun hle_ => by have h_ := hjiz hle_; rw [Int.one_mul] at h_; exact h_
         have hjiy : (wrap64 (1 * 2 ^ min x.toNat 64)) = ji := (i64_w _).symm.trans hji_; have hjix : x ≤ 64 → (wrap64 (1 * 2 ^ x.toNat)) = ji := fun h_ => (i64_w _).symm.trans (hjiz h_); clear hji; have H' := Aside0.mk H; clear H
         go_wp2_with (go_at_call 99; refine ENDS.out.mono ?_; rintro e w5 ⟨rfl, hb5⟩; have HE5 := Aside0.mk (HE.out.next hb5); clear hb5 ENDS HE hcg0 hcg1 hco0)
         have c2b := eq_true c2; obtain ⟨v, hv1, hv2⟩ := HE5.out.t; have HV := Aside0.mk (Kd.R_below hv2 (below_drew1 (Below.refl w5.heap.size w5))); have HT := Aside0.mk (blk_drew hv1); have HEd := Aside0.mk (HE5.out.next (below_drew1 (Below.refl w5.heap.size w5))); have hW : w5.drew.cell? ⟨bt, 0, none⟩ = some v ∧ w5.drew.cell? ⟨bo, 0, none⟩ = some (.int .i64 o) := ⟨(blk_cell HT.out 0).trans rfl, (blk_cell HEd.out.o 0).trans rfl⟩; clear hv1 hv2
         refine start_ (n := 10) (S := fun w' => w'.cell? ⟨bt, 0, none⟩ = some v ∧ w'.cell? ⟨bo, 0, none⟩ = some (.int .i64 o)) (ds := [9]) #[false, false, false, false, false, false, false, false, false, false] (by kernel_rfl) rfl rfl hW (fun hHeld => ?_)
         generalize w5.drew = wd at HV HT HEd hHeld ⊢
         clear HE5 hW
         refine pure_ (i := 2) (N := some 36) (v := ?_) (a' := ?_) #[false, false, true, false, false, false, false, false, false, false] rfl rfl (by kernel_rfl) (fun _ _ _ h => h) (Or.inl ⟨by rfl, ?_⟩) ?_ ?_
         rotate_left
         ·intro w'
          go_simp
          with_reducible rfl
         rotate_left
         ·simp only [Act.put, List.setIfInBounds_toArray, List.set_cons_zero, List.set_cons_succ, i64_w, i32_w]
          rfl
         refine pure_ (i := 4) (N := some 38) (v := ?_) (a' := ?_) #[false, false, true, false, true, false, false, false, false, false] rfl rfl (by kernel_rfl) (fun _ _ _ h => h) (Or.inl ⟨by rfl, ?_⟩) ?_ ?_
         rotate_left
         ·intro w'
          go_simp
          with_reducible rfl
         rotate_left
         ·simp only [Act.put, List.setIfInBounds_toArray, List.set_cons_zero, List.set_cons_succ, i64_w, i32_w]
          rfl
         refine pure_ (i := 5) (N := some 39) (v := ?_) (a' := ?_) #[false, false, true, false, true, true, false, false, false, false] rfl rfl (by kernel_rfl) (fun _ _ _ h => h) (Or.inl ⟨by rfl, ?_⟩) ?_ ?_
         rotate_left
         ·intro w'
          go_simp
          with_reducible rfl
         rotate_left
         ·simp only [Act.put, List.setIfInBounds_toArray, List.set_cons_zero, List.set_cons_succ, i64_w, i32_w]
          rfl
         refine take_ (i := 0) (N := some 34) (v := ?_) (a' := ?_) #[true, false, true, false, true, true, false, false, false, false] rfl rfl (by kernel_rfl) (fun _ _ _ h => h) (Or.inl ⟨by rfl, ?_⟩) hHeld ?_ ?_
         rotate_left
         ·intro w' s0
          obtain ⟨s0, s1⟩ := s0
          go_simp
          with_reducible rfl
         rotate_left
         ·simp only [Act.put, List.setIfInBounds_toArray, List.set_cons_zero, List.set_cons_succ, i64_w, i32_w]
          rfl
         refine take_ (i := 1) (N := some 35) (v := ?_) (a' := ?_) #[true, true, true, false, true, true, false, false, false, false] rfl rfl (by kernel_rfl) (fun _ _ _ h => h) (Or.inl ⟨by rfl, ?_⟩) hHeld ?_ ?_
         rotate_left
         ·intro w' s0
          obtain ⟨s0, s1⟩ := s0
          go_simp
          with_reducible rfl
         rotate_left
         ·simp only [Act.put, List.setIfInBounds_toArray, List.set_cons_zero, List.set_cons_succ, i64_w, i32_w]
          rfl
         refine pure_ (i := 3) (N := some 37) (v := ?_) (a' := ?_) #[true, true, true, true, true, true, false, false, false, false] rfl rfl (by kernel_rfl) (fun _ _ _ h => h) (Or.inl ⟨by rfl, ?_⟩) ?_ ?_
         rotate_left
         ·intro w'
          go_simp
          with_reducible rfl
         rotate_left
         ·simp only [Act.put, List.setIfInBounds_toArray, List.set_cons_zero, List.set_cons_succ, i64_w, i32_w]
          rfl
         refine pure_ (i := 6) (N := some 40) (v := ?_) (a' := ?_) #[true, true, true, true, true, true, true, false, false, false] rfl rfl (by kernel_rfl) (fun _ _ _ h => h) (Or.inl ⟨by rfl, ?_⟩) ?_ ?_
         rotate_left
         ·intro w'
          go_simp
          with_reducible rfl
         rotate_left
         ·simp only [Act.put, List.setIfInBounds_toArray, List.set_cons_zero, List.set_cons_succ, i64_w, i32_w]
          rfl
         obtain ⟨y, hy⟩ : ∃ y : Int, y = Go.bits .xor .i64 (Go.bits .xor .i64 o edges) ji := ⟨_, rfl⟩
         rw [← hy] at H'
         rw [← hy]
         have hHeld0 := Aside0.mk hHeld
         refine one_ (i := 7) (N := some 41) #[true, true, true, true, true, true, true, true, false, false] rfl rfl (by kernel_rfl) (by decide) (fun K hK => ?_)
         refine Kd.R_lit_step (Kd.int .i64) _ 3 ?hg (N := 41) ?hd (xs := ([y] : List Int)) (inner := [.int .i64 y]) (ok := fun _ => True) (okp := fun _ => True) ?hr ?hp (fun _ hk => hk) trivial (Below.refl _ _) (Nat.le_refl _) (by simp) ?_; (case hd => rfl); (case hg => rfl); (case hr => first | (go_simp; done) | (go_simp; rfl)); (case hp => exact (Reps.one (show Kd.M (Kd.int .i64) _ _ _ y [.int .i64 y] from rfl) (Reps.none _ _)))
         intro v41 w6 ho hb hg_ hnew_; clear hg_ hnew_; obtain ⟨A41, cc41, hv41⟩ := Kd.R_slice ho; have hv41' : v41 = .slice A41 [y].length cc41 := hv41; subst hv41'; have HV41 := Aside0.mk (Kd.R_reads' ho).2.2; have HE6 := Aside0.mk (HEd.out.next hb); have HV6 := Aside0.mk (Kd.R_below HV.out hb); have HT6 := Aside0.mk (blk_below HT.out hb)
         refine hK.out _ _ ⟨hold_ hb hHeld0.out.1, hold_ hb hHeld0.out.2⟩ (fun hHeld => ?_)
         clear ho hb hv41 HV HT HEd hHeld0; clear hK K
         refine norm_ (a' := ?_) ?_ ?_
         rotate_left
         ·show Act.put _ (some 41) _ = _
          simp only [Act.put, List.setIfInBounds_toArray, List.set_cons_zero, List.set_cons_succ, i64_w, i32_w]
          rfl
         refine one_ (i := 8) (N := some 42) #[true, true, true, true, true, true, true, true, true, false] rfl rfl (by kernel_rfl) (by decide) (fun K hK => ?_)
         refine Kd.R_append_rows_step (Kd.int .i64) (w0 := W0) W0.heap.size (by rfl) (.tmp 34) (.tmp 41) 30 3 (.int .i64 0) 8 rfl Try.underlying30 info3 rfl (by decide) (by omega) v b [y] _ _ _ (fun k => k ≠ bo) (fun _ => False) rfl rfl HV6.out HV41.out (fun _ _ h => h) (fun _ h => h.elim) (fun k hk e => by have := blk_lt HE6.out.o; omega) HE6.out.below HE6.out.below.size (by have := HL.out; simp; omega) ?_
         intro v42 w7 ho7 hb7 hg7 hat7; have HN7 := Aside0.mk (HE6.out.put HT6.out HV6.out ho7 hb7 hg7); have hT7 : w7.heap[bt]? = some (.cells #[v] 30 (0, 0)) := blk_grown HT6.out hg7 (Kd.R_ne HV6.out HT6.out (by decide)); have hO7 : w7.heap[bo]? = some (.cells #[.int .i64 o] 3 (0, 0)) := blk_grown HE6.out.o hg7 (fun e => HV6.out.1 bo e.symm rfl); have HT7 := Aside0.mk hT7; obtain ⟨g42, c42, hv42, _, _, _⟩ := Kd.R_form ho7 (by simp); subst hv42
         refine hK.out _ _ ⟨(blk_cell hT7 0).trans rfl, (blk_cell hO7 0).trans rfl⟩ (fun hHeld => ?_)
         clear ho7 hb7 hg7 hat7 hT7 hO7 HE6 HV6 HT6 HV41; clear hK K
         refine norm_ (a' := ?_) ?_ ?_
         rotate_left
         ·show Act.put _ (some 42) _ = _
          simp only [Act.put, List.setIfInBounds_toArray, List.set_cons_zero, List.set_cons_succ, i64_w, i32_w]
          rfl
         have hx7 := (blk_cell HT7.out 0).trans (rfl : (#[v] : Array Value)[0]? = some v); have hf7 := blk_frozen HT7.out 0
         refine last_ (i := 9) (N := none) #[true, true, true, true, true, true, true, true, true, true] rfl rfl (by kernel_rfl) (by decide) (fun K hK => ?_)
         refine store_step_ (w1 := w7.setCell ⟨bt, 0, none⟩ (.slice (some ⟨g42, 0, none⟩) (b ++ [y]).length c42)) (by rfl) rfl (by first | (go_simp; done) | (go_simp; rfl)) ?_
         refine hK.out _ _ ?_
         clear hK K hx7 hf7 HT7 hHeld
         refine done_ (by kernel_rfl) ?_
         go_wp2
         go_roundg k1
         case measure => have := HKQ.out; omega
         case rel => exact ⟨wrap64 (x + 1), b ++ [y], by first | rfl | (simp; done), H', ⟨by have := HKQ.out; omega⟩, ⟨by have h_ := HN7.out; simp only [List.length_append, List.length_singleton] at h_; exact h_⟩⟩
        ·rw [if_neg c5] at H
         exact absurd H (by simp)
       ·rw [if_neg c4] at H
        have c4b : (tb == first) = false := beq_eq_false_iff_ne.mpr c4; clear c4
        by_cases c6 : first < tb
        ·rw [if_pos c6] at H
         have c6b : decide (first < tb) = true := decide_eq_true c6; clear c6
         by_cases c7 : 0 ≤ tb
         ·rw [if_pos c7] at H
          have c7b := eq_true c7; clear c7; obtain ⟨j, hj⟩ : ∃ j : Int, shr .i64 nodes tb = j := ⟨_, rfl⟩
          rw [hj] at H
          have hj_ : (nodes / 2 ^ min tb.toNat 64) = j := hj; have hjz : tb ≤ 64 → (nodes / 2 ^ tb.toNat) = j := shr_small hj; clear hj
          by_cases c8 : Go.bits .and .i64 j 1 = 0
          ·rw [if_pos c8] at H
           have c8b : (Go.bits .and .i64 j 1 == 0) = true := beq_iff_eq.mpr c8; clear c8; obtain ⟨b1, A2, H⟩ := Option.bind_eq_some_iff.mp H; obtain ⟨ji, hji⟩ : ∃ j_ : Int, (shl .i64 1 x) = j_ := ⟨_, rfl⟩
           rw [hji] at A2
           have hji_ : (IntKind.i64.wrap (1 * 2 ^ min x.toNat 64)) = ji := hji; have hjiz : x ≤ 64 → (IntKind.i64.wrap (1 * 2 ^ x.toNat)) = ji := shl_small hji; have hjiu : (IntKind.i64.wrap (2 ^ min x.toNat 64)) = ji := by have h_ := hji_; rw [Int.one_mul] at h_; exact h_
           have hjiv : x ≤ 64 → (IntKind.i64.wrap (2 ^ x.toNat)) = ji := fun hle_ => by have h_ := hjiz hle_; rw [Int.one_mul] at h_; exact h_
           have hjiy : (wrap64 (1 * 2 ^ min x.toNat 64)) = ji := (i64_w _).symm.trans hji_; have hjix : x ≤ 64 → (wrap64 (1 * 2 ^ x.toNat)) = ji := fun h_ => (i64_w _).symm.trans (hjiz h_); clear hji; obtain ⟨ji2, hji2⟩ : ∃ j_ : Int, (shl .i64 1 tb) = j_ := ⟨_, rfl⟩
           rw [hji2] at A2
           have hji2_ : (IntKind.i64.wrap (1 * 2 ^ min tb.toNat 64)) = ji2 := hji2; have hji2z : tb ≤ 64 → (IntKind.i64.wrap (1 * 2 ^ tb.toNat)) = ji2 := shl_small hji2; have hji2u : (IntKind.i64.wrap (2 ^ min tb.toNat 64)) = ji2 := by have h_ := hji2_; rw [Int.one_mul] at h_; exact h_
           have hji2v : tb ≤ 64 → (IntKind.i64.wrap (2 ^ tb.toNat)) = ji2 := fun hle_ => by have h_ := hji2z hle_; rw [Int.one_mul] at h_; exact h_
           have hji2y : (wrap64 (1 * 2 ^ min tb.toNat 64)) = ji2 := (i64_w _).symm.trans hji2_; have hji2x : tb ≤ 64 → (wrap64 (1 * 2 ^ tb.toNat)) = ji2 := fun h_ => (i64_w _).symm.trans (hji2z h_); clear hji2; have H' := Aside0.mk H; clear H
           go_wp2_with (go_at_call 99; refine ENDS.out.mono ?_; rintro e w5 ⟨rfl, hb5⟩; have HE5 := Aside0.mk (HE.out.next hb5); clear hb5 ENDS HE hcg0 hcg1 hco0)
           have A2' := Aside0.mk A2; clear A2; have c2b := eq_true c2; have HEd := Aside0.mk (HE5.out.next (below_drew1 (Below.refl w5.heap.size w5))); have hW : w5.drew.cell? ⟨bw, 0, none⟩ = some (.func (.func 103) #[] #[.pointer (some ⟨bg, 0, none⟩), .pointer (some ⟨bo, 0, none⟩), .pointer (some ⟨bt, 0, none⟩), .pointer (some ⟨bw, 0, none⟩)]) := (blk_cell HEd.out.f 0).trans rfl
           refine start_ (n := 12) (S := fun w' => w'.cell? ⟨bw, 0, none⟩ = some (.func (.func 103) #[] #[.pointer (some ⟨bg, 0, none⟩), .pointer (some ⟨bo, 0, none⟩), .pointer (some ⟨bt, 0, none⟩), .pointer (some ⟨bw, 0, none⟩)])) (ds := []) #[false, false, false, false, false, false, false, false, false, false, false, false] (by kernel_rfl) rfl rfl hW (fun hHeld => ?_)
           generalize w5.drew = wd at HEd hHeld ⊢
           clear HE5 hW
           refine pure_ (i := 1) (N := some 54) (v := ?_) (a' := ?_) #[false, true, false, false, false, false, false, false, false, false, false, false] rfl rfl (by kernel_rfl) (fun _ _ _ h => h) (Or.inl ⟨by rfl, ?_⟩) ?_ ?_
           rotate_left
           ·intro w'
            go_simp
            with_reducible rfl
           rotate_left
           ·simp only [Act.put, List.setIfInBounds_toArray, List.set_cons_zero, List.set_cons_succ, i64_w, i32_w]
            rfl
           refine pure_ (i := 2) (N := some 55) (v := ?_) (a' := ?_) #[false, true, true, false, false, false, false, false, false, false, false, false] rfl rfl (by kernel_rfl) (fun _ _ _ h => h) (Or.inl ⟨by rfl, ?_⟩) ?_ ?_
           rotate_left
           ·intro w'
            go_simp
            with_reducible rfl
           rotate_left
           ·simp only [Act.put, List.setIfInBounds_toArray, List.set_cons_zero, List.set_cons_succ, i64_w, i32_w]
            rfl
           refine pure_ (i := 3) (N := some 56) (v := ?_) (a' := ?_) #[false, true, true, true, false, false, false, false, false, false, false, false] rfl rfl (by kernel_rfl) (fun _ _ _ h => h) (Or.inl ⟨by rfl, ?_⟩) ?_ ?_
           rotate_left
           ·intro w'
            go_simp
            with_reducible rfl
           rotate_left
           ·simp only [Act.put, List.setIfInBounds_toArray, List.set_cons_zero, List.set_cons_succ, i64_w, i32_w]
            rfl
           refine pure_ (i := 4) (N := some 57) (v := ?_) (a' := ?_) #[false, true, true, true, true, false, false, false, false, false, false, false] rfl rfl (by kernel_rfl) (fun _ _ _ h => h) (Or.inl ⟨by rfl, ?_⟩) ?_ ?_
           rotate_left
           ·intro w'
            go_simp
            with_reducible rfl
           rotate_left
           ·simp only [Act.put, List.setIfInBounds_toArray, List.set_cons_zero, List.set_cons_succ, i64_w, i32_w]
            rfl
           refine pure_ (i := 5) (N := some 58) (v := ?_) (a' := ?_) #[false, true, true, true, true, true, false, false, false, false, false, false] rfl rfl (by kernel_rfl) (fun _ _ _ h => h) (Or.inl ⟨by rfl, ?_⟩) ?_ ?_
           rotate_left
           ·intro w'
            go_simp
            with_reducible rfl
           rotate_left
           ·simp only [Act.put, List.setIfInBounds_toArray, List.set_cons_zero, List.set_cons_succ, i64_w, i32_w]
            rfl
           refine pure_ (i := 6) (N := some 59) (v := ?_) (a' := ?_) #[false, true, true, true, true, true, true, false, false, false, false, false] rfl rfl (by kernel_rfl) (fun _ _ _ h => h) (Or.inl ⟨by rfl, ?_⟩) ?_ ?_
           rotate_left
           ·intro w'
            go_simp
            with_reducible rfl
           rotate_left
           ·simp only [Act.put, List.setIfInBounds_toArray, List.set_cons_zero, List.set_cons_succ, i64_w, i32_w]
            rfl
           refine pure_ (i := 7) (N := some 60) (v := ?_) (a' := ?_) #[false, true, true, true, true, true, true, true, false, false, false, false] rfl rfl (by kernel_rfl) (fun _ _ _ h => h) (Or.inl ⟨by rfl, ?_⟩) ?_ ?_
           rotate_left
           ·intro w'
            go_simp
            with_reducible rfl
           rotate_left
           ·simp only [Act.put, List.setIfInBounds_toArray, List.set_cons_zero, List.set_cons_succ, i64_w, i32_w]
            rfl
           refine pure_ (i := 8) (N := some 61) (v := ?_) (a' := ?_) #[false, true, true, true, true, true, true, true, true, false, false, false] rfl rfl (by kernel_rfl) (fun _ _ _ h => h) (Or.inl ⟨by rfl, ?_⟩) ?_ ?_
           rotate_left
           ·intro w'
            go_simp
            with_reducible rfl
           rotate_left
           ·simp only [Act.put, List.setIfInBounds_toArray, List.set_cons_zero, List.set_cons_succ, i64_w, i32_w]
            rfl
           refine pure_ (i := 9) (N := some 62) (v := ?_) (a' := ?_) #[false, true, true, true, true, true, true, true, true, true, false, false] rfl rfl (by kernel_rfl) (fun _ _ _ h => h) (Or.inl ⟨by rfl, ?_⟩) ?_ ?_
           rotate_left
           ·intro w'
            go_simp
            with_reducible rfl
           rotate_left
           ·simp only [Act.put, List.setIfInBounds_toArray, List.set_cons_zero, List.set_cons_succ, i64_w, i32_w]
            rfl
           refine pure_ (i := 10) (N := some 63) (v := ?_) (a' := ?_) #[false, true, true, true, true, true, true, true, true, true, true, false] rfl rfl (by kernel_rfl) (fun _ _ _ h => h) (Or.inl ⟨by rfl, ?_⟩) ?_ ?_
           rotate_left
           ·intro w'
            go_simp
            with_reducible rfl
           rotate_left
           ·simp only [Act.put, List.setIfInBounds_toArray, List.set_cons_zero, List.set_cons_succ, i64_w, i32_w]
            rfl
           refine take_ (i := 0) (N := some 53) (v := ?_) (a' := ?_) #[true, true, true, true, true, true, true, true, true, true, true, false] rfl rfl (by kernel_rfl) (fun _ _ _ h => h) (Or.inl ⟨by rfl, ?_⟩) hHeld ?_ ?_
           rotate_left
           ·intro w' s0
            go_simp
            with_reducible rfl
           rotate_left
           ·simp only [Act.put, List.setIfInBounds_toArray, List.set_cons_zero, List.set_cons_succ, i64_w, i32_w]
            rfl
           refine one_ (i := 11) (N := some 64) #[true, true, true, true, true, true, true, true, true, true, true, true] rfl rfl (by kernel_rfl) (by decide) (fun K hK => ?_)
           refine goesVs_ (f := 103) (t := 53) Try.func103 (by kernel_rfl) rfl #[.int .i64 first, .int .i64 tb, .int .i64 (Go.bits .or .i64 nodes ji2), .int .i64 (Go.bits .or .i64 edges ji)] (by rfl) rfl rfl (by rfl) (by (try simp only [List.map_toArray, List.map_cons, List.map_nil]); first | done | rfl) ?_
           refine (IH.out k1 (by have := HKQ.out; omega) tb (Go.bits .or .i64 nodes ji2) (Go.bits .or .i64 edges ji) b b1 wd A2'.out HEd.out).mono ?_
           rintro e w6 ⟨rfl, he6⟩
           refine ⟨_, rfl, ?_⟩
           have HE6 := Aside0.mk he6; have hW6 : w6.cell? ⟨bw, 0, none⟩ = some (.func (.func 103) #[] #[.pointer (some ⟨bg, 0, none⟩), .pointer (some ⟨bo, 0, none⟩), .pointer (some ⟨bt, 0, none⟩), .pointer (some ⟨bw, 0, none⟩)]) := (blk_cell HE6.out.f 0).trans rfl; clear he6
           refine hK.out _ _ hW6 (fun hHeld => ?_)
           clear hW6; clear hK K
           refine norm_ (a' := ?_) ?_ ?_
           rotate_left
           ·show Act.put _ (some 64) _ = _
            simp only [Act.put, List.setIfInBounds_toArray, List.set_cons_zero, List.set_cons_succ, i64_w, i32_w]
            rfl
           refine done_ (by kernel_rfl) ?_
           go_wp2
           go_roundg k1
           case measure => have := HKQ.out; omega
           case rel => exact ⟨wrap64 (x + 1), b1, by first | rfl | (simp; done), H', ⟨by have := HKQ.out; omega⟩, HE6⟩
          ·rw [if_neg c8] at H
           have c8b : (Go.bits .and .i64 j 1 == 0) = false := beq_eq_false_iff_ne.mpr c8; clear c8; have H' := Aside0.mk H; clear H
           go_wp2_with (go_at_call 99; refine ENDS.out.mono ?_; rintro e w5 ⟨rfl, hb5⟩; have HE5 := Aside0.mk (HE.out.next hb5); clear hb5 ENDS HE hcg0 hcg1 hco0)
           try go_wp2
           go_roundg k1
           case measure => have := HKQ.out; omega
           case rel => exact ⟨wrap64 (x + 1), b, by first | rfl | (simp; done), H', ⟨by have := HKQ.out; omega⟩, HE5⟩
         ·rw [if_neg c7] at H
          exact absurd H (by simp)
        ·rw [if_neg c6] at H
         have c6b : decide (first < tb) = false := decide_eq_false c6; clear c6; have H' := Aside0.mk H; clear H
         go_wp2_with (go_at_call 99; refine ENDS.out.mono ?_; rintro e w5 ⟨rfl, hb5⟩; have HE5 := Aside0.mk (HE.out.next hb5); clear hb5 ENDS HE hcg0 hcg1 hco0)
         try go_wp2
         go_roundg k1
         case measure => have := HKQ.out; omega
         case rel => exact ⟨wrap64 (x + 1), b, by first | rfl | (simp; done), H', ⟨by have := HKQ.out; omega⟩, HE5⟩
      ·rw [if_neg c3] at H
       have c3b : (ta != at_) = true := bne_iff_ne.mpr c3; clear c3; have H' := Aside0.mk H; clear H
       go_wp2_with (go_at_call 99; refine ENDS.out.mono ?_; rintro e w5 ⟨rfl, hb5⟩; have HE5 := Aside0.mk (HE.out.next hb5); clear hb5 ENDS HE hcg0 hcg1 hco0)
       try go_wp2
       go_roundg k1
       case measure => have := HKQ.out; omega
       case rel => exact ⟨wrap64 (x + 1), b, by first | rfl | (simp; done), H', ⟨by have := HKQ.out; omega⟩, HE5⟩
     ·rw [if_neg c2] at H
      exact absurd H (by simp)
    ·rw [if_neg c1] at H
     have c1b : decide (x < (es.length : Int)) = false := decide_eq_false c1; have hb : b = r := Option.some.inj H; subst hb; clear H c1
     go_wp2
     go_end0
     exact ⟨rfl, HE.out⟩

end Go.Proofs.Ythoaebnnolbaaaa.G
