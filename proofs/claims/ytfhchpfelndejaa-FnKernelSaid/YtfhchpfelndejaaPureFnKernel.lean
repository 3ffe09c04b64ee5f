/- The law FnKernel returns true. The elements of the code are bytes. -/
import Derived.Test.YtfhchpfelndejaaQKIff
import Derived.Test.YtfhchpfelndejaaQKAll
import Derived.Test.YtfhchpfelndejaaQKer2
import Derived.Test.YtfhchpfelndejaaQDrawPlain
import Derived.Test.YtfhchpfelndejaaG30
namespace Go.Proofs.Ytfhchpfelndejaa.Q
open Go.RowKit Go.Proofs.Ytfhchpfelndejaa.G Go.Proofs.YtfhchpfelndejaaW.PrintWords Go.Proofs.YtfhchpfelndejaaW.PrintLast Go.Proofs.YtfhchpfelndejaaW.PrintMore
set_option linter.unusedVariables false
set_option linter.unusedSimpArgs false
set_option linter.unusedSectionVars false
/-! ### sinks -/
def sinkL (s : List Nat) : Nat → Nat → Nat → Nat
  | _, 0, m => m
  | i, d + 1, m => sinkL s (i + 1) d (if s.getD i 0 = 0 then m ||| 2 ^ i else m)
theorem sinkL_bit {s : List Nat} {v : Nat} : ∀ d i m, (sinkL s i d m).testBit v = true → m.testBit v = true ∨ s.getD v 0 = 0
  | 0, i, m, h => .inl h
  | d + 1, i, m, h => by
    simp only [sinkL] at h
    rcases sinkL_bit d (i + 1) _ h with h | h
    · split at h
      · rename_i hz
        rw [Nat.testBit_or, Nat.testBit_two_pow, Bool.or_eq_true, decide_eq_true_eq] at h
        rcases h with h | rfl
        · exact .inl h
        · exact .inr hz
      · exact .inl h
    · exact .inr h
theorem sinkL_lt {s : List Nat} : ∀ d i m, m < 32 → i + d ≤ 5 → sinkL s i d m < 32
  | 0, i, m, h, _ => h
  | d + 1, i, m, h, hi => by
    simp only [sinkL]
    refine sinkL_lt d (i + 1) _ ?_ (by omega)
    split
    · exact or_lt_32 h (two_lt_32 (by omega))
    · exact h
theorem sinks_loop {n : Nat} (h5 : n ≤ 5) {s : List Nat} (hs : Sets n s) : ∀ (d i m : Nat), i + d = n → m < 32 → Ev (fun k => impl_sinksOf.l0 k (m : Int) (I s) ((I s).length : Int) (i : Int)) ((sinkL s i d m : Nat) : Int)
  | 0, i, m, h, hm => by
    refine Ev.step (f := fun _ => some (m : Int)) (fun k => ?_) (Ev.now _)
    simp only [impl_sinksOf.l0]
    rw [if_neg (by rw [I_length, hs.1]; omega)]
  | d + 1, i, m, h, hm => by
    have e1 : wrap64 ((i : Int) + 1) = ((i + 1 : Nat) : Int) := wrap_add _ (lt62 (by omega))
    by_cases hz : s.getD i 0 = 0
    · refine Ev.step (fun k => ?_) (Ev.eq_ (sinks_loop h5 hs d (i + 1) (m ||| 2 ^ i) (by omega) (or_lt_32 hm (two_lt_32 (by omega)))) (by simp only [sinkL, hz, if_true]))
      simp only [impl_sinksOf.l0]
      rw [if_pos (by rw [I_length, hs.1]; omega), if_pos (Int.natCast_nonneg i), if_pos (by rw [I_length, hs.1]; omega), rd_nat, if_pos (by rw [hz]; rfl), shl_one i (by omega), or_nat _ _ (lt62 hm) (lt62 (two_lt_32 (by omega))), e1]
    · refine Ev.step (fun k => ?_) (Ev.eq_ (sinks_loop h5 hs d (i + 1) m (by omega) hm) (by simp only [sinkL, hz, if_false]))
      simp only [impl_sinksOf.l0]
      rw [if_pos (by rw [I_length, hs.1]; omega), if_pos (Int.natCast_nonneg i), if_pos (by rw [I_length, hs.1]; omega), rd_nat, if_neg (show ¬ ((s.getD i 0 : Nat) : Int) = 0 from fun h => hz (Int.ofNat.inj h)), e1]
section
variable {n : Nat} {es : List (Nat × Nat)} (hv : Val n es)
include hv
theorem impl_WaySinks_ev {o : Nat} (ho : o < 2 ^ es.length) : Ev (fun k => impl_WaySinks.f k n (mkE es) o) (((sinkL (nxt n (arcs es o)) 0 n 0 : Nat) : Int), true) := by
  unfold impl_WaySinks.f
  refine Ev.bind (impl_WayIn_yes hv ho) ?_
  simp only [if_true]
  refine Ev.bind ?_ (Ev.now _)
  unfold impl_sinksOf.f
  exact Ev.bind (impl_nextOf_ev hv ho) (sinks_loop hv.le (nxt_sets hv o) n 0 0 (by omega) (by omega))
theorem sinks_kernel {o K : Nat} (hk : kernelB n es o K = true) : sinkL (nxt n (arcs es o)) 0 n 0 &&& (sinkL (nxt n (arcs es o)) 0 n 0 ^^^ K) = 0 := by
  have hlt := sinkL_lt (s := nxt n (arcs es o)) n 0 0 (by omega) (by have := hv.le; omega)
  have hF := ((kernel_iff hv).1 hk).1
  have hbit := fun v => sinkL_bit (s := nxt n (arcs es o)) (v := v) n 0 0
  have hFn : ∀ v, (sinkL (nxt n (arcs es o)) 0 n 0).testBit v = true → v < n := by
    intro v h
    apply Classical.byContradiction
    intro hn
    have key : ∀ d i m, i + d ≤ n → m < 2 ^ n → sinkL (nxt n (arcs es o)) i d m < 2 ^ n := by
      intro d
      induction d with
      | zero => intro i m _ hm; exact hm
      | succ d ih =>
        intro i m hi hm
        simp only [sinkL]
        refine ih (i + 1) _ (by omega) ?_
        split
        · exact Nat.or_lt_two_pow hm (Nat.pow_lt_pow_right (by decide) (by omega))
        · exact hm
    have := Nat.testBit_lt_two_pow (Nat.lt_of_lt_of_le (key n 0 0 (by omega) (Nat.two_pow_pos n)) (Nat.pow_le_pow_right (by decide) (show n ≤ v by omega)))
    rw [this] at h; exact absurd h (by decide)
  apply Nat.eq_of_testBit_eq
  intro v
  rw [Nat.zero_testBit, Nat.testBit_and, Nat.testBit_xor]
  cases hS : (sinkL (nxt n (arcs es o)) 0 n 0).testBit v with
  | false => rfl
  | true =>
    have hz : (nxt n (arcs es o)).getD v 0 = 0 := by
      rcases hbit v hS with h | h
      · rw [Nat.zero_testBit] at h; exact absurd h (by decide)
      · exact h
    have hK : K.testBit v = true := (hF v (hFn v hS)).2 fun ⟨u, h1, _⟩ => by
      have h := out_bit hv o v u
      unfold out at h
      rw [hz, Nat.zero_testBit, h1] at h
      exact absurd h (by decide)
    rw [hK]; rfl
end
/-! ### the draw -/
theorem DrawKernelIn_ev {code : List Int} (h : ∀ x ∈ code, (Lit.int .u8 x).wf = true) : ∃ (a : Int) (l : List E) (o x : Int), Ev (fun k => spec_DrawKernelIn.f k code) (a, l, o, x) ∧ InR a ∧ WfE l := by
  obtain ⟨b, hb, hB⟩ := l6Open_eq (bytes_of_wf h)
  obtain ⟨n, l, q, hg, hd⟩ := l91Graph_ev hB 0 (by omega)
  have hq := hd.2.2.2.2
  have h5 := hd.2.1
  obtain ⟨o, q2, hw, hq2⟩ := l91Plain_ev hB hd (by omega)
  obtain ⟨r, c, hrl, hr32, _, hs⟩ := KernelAll_both hd.inR hd.wf o
  have low : ∀ q3 : Nat, q3 ≤ 1000 → ∃ x : Int, Ev (fun k => spec_DrawKernelIn.j0 k o (I r) false b (q3 : Int) (n : Int) l) ((n : Int), l, o, x) := by
    intro q3 hq3
    obtain ⟨x, hx, hx0, hx1⟩ := pick_ev hB q3 (by omega) 24 (by omega)
    have h32 := two_n h5
    have ht : 0 ≤ Int.tdiv x 23 ∧ Int.tdiv x 23 ≤ 100 := by
      rw [Int.tdiv_eq_ediv_of_nonneg hx0]
      exact ⟨Int.ediv_nonneg hx0 (by omega), by omega⟩
    have hbd : wrap64 ((shl .i64 1 (n : Int)) + (wrap64 (Int.tdiv x 23))) ≤ 1000000 := by
      rw [shl_one n (by omega), wrap_int (Int.tdiv x 23) (by omega) (by omega)]
      generalize 2 ^ n = N at h32
      rw [wrap_int _ (by omega) (by omega)]
      omega
    obtain ⟨y, hy, _⟩ := pick_ev hB (q3 + 1) (by omega) _ hbd
    obtain ⟨z, hz, _⟩ := pick_ev hB (q3 + 1 + 1) (by omega) 24 (by omega)
    refine ⟨wrap64 (y - (wrap64 (Int.tdiv z 23))), Ev.step (fun k => by simp only [spec_DrawKernelIn.j0, Bool.false_eq_true, if_false, Int.natCast_nonneg, if_true]; rfl) ?_⟩
    exact Ev.bind hx (Ev.bind hy (Ev.bind hz (Ev.now _)))
  have high : ∀ q3 : Nat, q3 ≤ 1000 → 0 < r.length → ∃ x : Int, Ev (fun k => spec_DrawKernelIn.j0 k o (I r) true b (q3 : Int) (n : Int) l) ((n : Int), l, o, x) := by
    intro q3 hq3 hr0
    obtain ⟨x, hx, hx0, hx1⟩ := pick_ev hB q3 (by omega) ((I r).length : Int) (by rw [I_length]; omega)
    have hxl : x < ((I r).length : Int) := by rw [I_length] at hx1 ⊢; omega
    refine ⟨rd (I r) x, Ev.step (fun k => by simp only [spec_DrawKernelIn.j0, if_true]; rfl) ?_⟩
    refine Ev.bind hx ?_
    simp only [hx0, hxl, if_true]
    exact Ev.now _
  have fin : ∃ x : Int, Ev (fun k => spec_DrawKernelIn.f k code) ((n : Int), l, o, x) := by
    have pre : ∀ {x : Int}, Ev (fun k => if c = true then (if ((I r).length : Int) > 0 then ((spec_l6Rd_pick.f k b (q2 : Int) 3).bind fun bt539 => (spec_DrawKernelIn.j0 k o (I r) (decide (bt539.1 > 0)) b bt539.2 (n : Int) l)) else (spec_DrawKernelIn.j0 k o (I r) false b (q2 : Int) (n : Int) l)) else (spec_DrawKernelIn.j0 k o (I r) false b (q2 : Int) (n : Int) l)) ((n : Int), l, o, x) → Ev (fun k => spec_DrawKernelIn.f k code) ((n : Int), l, o, x) := by
      intro x hx
      unfold spec_DrawKernelIn.f
      simp only [hb, Option.bind_some]
      exact Ev.bind hg (Ev.bind hw (Ev.bind hs hx))
    cases c with
    | false =>
      obtain ⟨x, hx⟩ := low q2 (by omega)
      exact ⟨x, pre (by simp only [Bool.false_eq_true, if_false]; exact hx)⟩
    | true =>
      by_cases hr0 : ((I r).length : Int) > 0
      · obtain ⟨y, hy, _⟩ := pick_ev hB q2 (by omega) 3 (by omega)
        by_cases hy0 : y > 0
        · obtain ⟨x, hx⟩ := high (q2 + 1) (by omega) (by rw [I_length] at hr0; omega)
          refine ⟨x, pre ?_⟩
          simp only [if_true, hr0]
          refine Ev.bind hy ?_
          simp only [hy0, decide_true]
          exact hx
        · obtain ⟨x, hx⟩ := low (q2 + 1) (by omega)
          refine ⟨x, pre ?_⟩
          simp only [if_true, hr0]
          refine Ev.bind hy ?_
          simp only [hy0, decide_false]
          exact hx
      · obtain ⟨x, hx⟩ := low q2 (by omega)
        exact ⟨x, pre (by simp only [if_true, hr0, if_false]; exact hx)⟩
  obtain ⟨x, hx⟩ := fin
  exact ⟨(n : Int), l, o, x, hx, hd.inR, hd.wf⟩
/-! ### the law's loop -/
theorem kern_l0 (K : Nat) (S : Int) (ks : List Nat) (hl : ks.length ≤ 32) (hb : (Go.bits .andNot .i64 S (K : Int) == 0) = true) : ∀ (d i : Nat) (f : Bool), i + d = ks.length → (f = true ∨ K ∈ ks.drop i) → Ev (fun k => laws_FnKernel.l0 k (K : Int) S true (I ks) true f (i : Int)) true
  | 0, i, f, h, hf => by
    have : f = true := by
      rcases hf with h1 | h1
      · exact h1
      · rw [List.drop_of_length_le (by omega)] at h1; exact absurd h1 (by simp)
    subst this
    refine Ev.step (f := fun _ => some true) (fun k => ?_) (Ev.now _)
    simp only [laws_FnKernel.l0]
    rw [if_neg (by rw [I_length]; omega), hb]
    simp
  | d + 1, i, f, h, hf => by
    have hi : i < ks.length := by omega
    have e1 : wrap64 ((i : Int) + 1) = ((i + 1 : Nat) : Int) := wrap_add _ (by omega)
    have g1 : ks.getD i 0 = ks[i] := by rw [List.getD_eq_getElem?_getD, List.getElem?_eq_getElem hi]; rfl
    cases f with
    | true =>
      refine Ev.step (fun k => ?_) (kern_l0 K S ks hl hb d (i + 1) true (by omega) (.inl rfl))
      simp only [laws_FnKernel.l0]
      rw [if_pos (by rw [I_length]; omega), e1]
      simp
    | false =>
      have hm : K ∈ ks.drop i := by
        rcases hf with h | h
        · exact absurd h (by decide)
        · exact h
      rw [List.drop_eq_getElem_cons hi, List.mem_cons] at hm
      have hnext : (((ks[i] : Nat) : Int) == (K : Int)) = true ∨ K ∈ ks.drop (i + 1) := by
        rcases hm with h | h
        · left; rw [beq_iff_eq, h]
        · exact .inr h
      refine Ev.step (fun k => ?_) (kern_l0 K S ks hl hb d (i + 1) _ (by omega) hnext)
      simp only [laws_FnKernel.l0]
      rw [if_pos (by rw [I_length]; omega), e1, rd_nat, g1]
      simp
end Go.Proofs.Ytfhchpfelndejaa.Q
namespace Go.Proofs.Ytfhchpfelndejaa.Pure
open Go.RowKit Go.Proofs.Ytfhchpfelndejaa.G Go.Proofs.Ytfhchpfelndejaa.Q Go.Proofs.YtfhchpfelndejaaW.PrintWords Go.Proofs.YtfhchpfelndejaaW.PrintLast Go.Proofs.YtfhchpfelndejaaW.PrintMore
theorem FnKernel : laws_FnKernel.Pure := by
  intro code _ _ hcode
  refine Ev.rounds (g := fun k => laws_FnKernel.f k code) ?_
  obtain ⟨a, l, o, x, hD, ha, hl⟩ := DrawKernelIn_ev hcode
  unfold laws_FnKernel.f
  by_cases hc : (code.length : Int) > 1048576
  · simp only [hc, if_true]; exact Ev.now _
  · simp only [hc, if_false]
    refine Ev.bind hD ?_
    obtain ⟨r, hi, hs⟩ := KernelIn_both ha hl o x
    refine Ev.bind hi (Ev.bind hs ?_)
    simp only [bne_self_eq_false, Bool.false_eq_true, if_false]
    cases r with
    | false =>
      simp only [Bool.not_false]
      exact Ev.step (f := fun _ => some true) (fun k => by simp [laws_FnKernel.j0]) (Ev.now _)
    | true =>
      simp only [Bool.not_true]
      refine Ev.step (fun k => by simp only [laws_FnKernel.j0, Bool.false_eq_true, if_false]; rfl) ?_
      rcases way_split ha hl o with ⟨n, es, o', rfl, rfl, rfl, hv, ho⟩ | ⟨h1, h2⟩
      · have h32 := two_n hv.le
        have h0 : (0 : Int) ≤ (n : Int) := Int.natCast_nonneg n
        by_cases hx : 0 ≤ x ∧ x < ((2 ^ n : Nat) : Int)
        · obtain ⟨K, rfl⟩ := Int.eq_ofNat_of_zero_le hx.1
          have hK : K < 2 ^ n := by omega
          have hv' : Ev (fun k => impl_KernelIn.f k n (mkE es) o' K) (kernelB n es o' K) := by
            unfold impl_KernelIn.f
            refine Ev.bind (impl_WayIn_yes hv ho) ?_
            simp only [if_true, ge_iff_le, hx.1, h0, shl_n hv, hx.2]
            exact Ev.bind (impl_isKernel_ev' hv ho K hK) (Ev.now _)
          have hk : kernelB n es o' K = true := Ev.uniq hv' hi
          have hkl : (kers n es o').length ≤ 32 := by rw [kers, sel_len]; exact Nat.le_trans (cnt_le _ _ _) h32
          have hslt := sinkL_lt (s := nxt n (arcs es o')) n 0 0 (by omega) (by have := hv.le; omega)
          refine Ev.bind (impl_WaySinks_ev hv ho) (Ev.bind (impl_KernelAll_ev hv ho) ?_)
          refine kern_l0 K _ (kers n es o') hkl ?_ (kers n es o').length 0 false (by omega) (.inr (by simpa using (kers_mem hv).2 ⟨hK, hk⟩))
          rw [andNot_nat _ _ (lt62 hslt) (lt62 (by omega)), sinks_kernel hv hk]
          rfl
        · exfalso
          have hv' : Ev (fun k => impl_KernelIn.f k n (mkE es) o' x) false := by
            unfold impl_KernelIn.f
            refine Ev.bind (impl_WayIn_yes hv ho) ?_
            simp only [if_true, ge_iff_le, h0, shl_n hv]
            by_cases h1 : 0 ≤ x
            · have h2 : ¬ x < ((2 ^ n : Nat) : Int) := fun h2 => hx ⟨h1, h2⟩
              simp only [h1, h2, if_true, if_false]
              exact Ev.now _
            · simp only [h1, if_false]
              exact Ev.now _
          exact absurd (Ev.uniq hv' hi) (by decide)
      · exfalso
        have hv' : Ev (fun k => impl_KernelIn.f k a l o x) false := by
          unfold impl_KernelIn.f
          refine Ev.bind h1 ?_
          simp only [Bool.false_eq_true, if_false]
          exact Ev.now _
        exact absurd (Ev.uniq hv' hi) (by decide)
end Go.Proofs.Ytfhchpfelndejaa.Pure
