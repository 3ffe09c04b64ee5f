/- The law FnMend returns true. The elements of the code are bytes. -/
import Derived.Test.YtdgnnbbjehdogaaQPlain2
import Derived.Test.YtdgnnbbjehdogaaQPlainIn
import Derived.Test.YtdgnnbbjehdogaaQMend
import Derived.Test.YtdgnnbbjehdogaaQOne
import Derived.Test.YtdgnnbbjehdogaaG17
import Derived.Test.YtdgnnbbjehdogaaG18
namespace Go.Proofs.Ytdgnnbbjehdogaa.Q
open Go.RowKit Go.Proofs.Ytdgnnbbjehdogaa.G Go.Proofs.YtdgnnbbjehdogaaW.PrintWords Go.Proofs.YtdgnnbbjehdogaaW.PrintLast Go.Proofs.YtdgnnbbjehdogaaW.PrintMore
set_option linter.unusedVariables false
set_option linter.unusedSimpArgs false
theorem pop_two : ∀ m, m < 11 → ∀ z, z < 2 ^ m → pop z + pop (z ^^^ (2 ^ m - 1)) = m := by decide +kernel
theorem pop_zero_iff : ∀ z, z < 1024 → pop z = 0 → z = 0 := by decide +kernel
theorem mendL_le_c {n : Nat} {es : List (Nat × Nat)} {o : Nat} : ∀ d x c, mendL n es o x d c ≤ c
  | 0, x, c => Nat.le_refl _
  | d + 1, x, c => by
    simp only [mendL]
    refine Nat.le_trans (mendL_le_c d (x + 1) _) ?_
    split
    · exact Nat.min_le_left _ _
    · exact Nat.le_refl _
theorem mendL_le {n : Nat} {es : List (Nat × Nat)} {o : Nat} : ∀ d x c y, x ≤ y → y < x + d → plainB n (arcs es y) = true → mendL n es o x d c ≤ pop (o ^^^ y)
  | 0, x, c, y, h1, h2, _ => absurd h2 (by omega)
  | d + 1, x, c, y, h1, h2, hp => by
    simp only [mendL]
    by_cases e : y = x
    · subst e
      rw [if_pos hp]
      exact Nat.le_trans (mendL_le_c d (y + 1) _) (Nat.min_le_right _ _)
    · exact mendL_le d (x + 1) _ y (by omega) (by omega) hp
theorem mendL_ge {n : Nat} {es : List (Nat × Nat)} {o : Nat} (b : Nat) : ∀ d x c, b ≤ c → (∀ y, x ≤ y → y < x + d → plainB n (arcs es y) = true → b ≤ pop (o ^^^ y)) → b ≤ mendL n es o x d c
  | 0, x, c, hc, _ => hc
  | d + 1, x, c, hc, h => by
    simp only [mendL]
    refine mendL_ge b d (x + 1) _ ?_ fun y h1 h2 hp => h y (by omega) (by omega) hp
    split
    · rename_i hp
      exact Nat.le_min.2 ⟨hc, h x (Nat.le_refl _) (by omega) hp⟩
    · exact hc
section
variable {n : Nat} {es : List (Nat × Nat)} (hv : Val n es)
include hv
theorem xor_T {o : Nat} (ho : o < 2 ^ es.length) : 2 ^ es.length - 1 - o = o ^^^ (2 ^ es.length - 1) := (xor_all' es.length (by have := hv.len; omega) o ho).symm
theorem mend_turned1 {o : Nat} (ho : o < 2 ^ es.length) : mendN n es o ≤ mendN n es (2 ^ es.length - 1 - o) := by
  unfold mendN
  refine mendL_ge _ _ _ _ (mendL_le_c _ _ _) fun y _ hy hp => ?_
  have hy' : y < 2 ^ es.length := by omega
  rw [← plain_turned hv hy'] at hp
  have h := mendL_le (o := o) (2 ^ es.length) 0 es.length (2 ^ es.length - 1 - y) (by omega) (by omega) hp
  rw [xor_T hv hy', Nat.xor_comm y, ← Nat.xor_assoc, ← xor_T hv ho] at h
  exact h
theorem mend_turned {o : Nat} (ho : o < 2 ^ es.length) : mendN n es (2 ^ es.length - 1 - o) = mendN n es o := by
  have h1 := mend_turned1 hv ho
  have h2 := mend_turned1 hv (o := 2 ^ es.length - 1 - o) (by omega)
  rw [show 2 ^ es.length - 1 - (2 ^ es.length - 1 - o) = o by omega] at h2
  omega
theorem mend_half {o : Nat} (ho : o < 2 ^ es.length) : 2 * mendN n es o ≤ es.length := by
  have hp0 := Nat.two_pow_pos es.length
  have h1 := mendL_le (o := o) (2 ^ es.length) 0 es.length 0 (by omega) (by omega) (plain_zero hv)
  have h2 := mendL_le (o := o) (2 ^ es.length) 0 es.length (2 ^ es.length - 1 - 0) (by omega) (by omega) (by rw [plain_turned hv hp0]; exact plain_zero hv)
  have h3 := pop_two es.length (by have := hv.len; omega) o ho
  rw [Nat.xor_zero] at h1
  rw [Nat.sub_zero] at h2
  unfold mendN
  omega
theorem mend_zero {o : Nat} (ho : o < 2 ^ es.length) : mendN n es o = 0 ↔ plainB n (arcs es o) = true := by
  have h2 := hv.two
  constructor
  · intro h
    apply Classical.byContradiction
    intro hno
    have hm : 1 ≤ es.length := by
      apply Classical.byContradiction
      intro h0
      have h00 : es.length = 0 := by omega
      rw [h00] at ho
      have : o = 0 := by omega
      subst this
      exact hno (plain_zero hv)
    have := mendL_ge (n := n) (es := es) (o := o) 1 (2 ^ es.length) 0 es.length hm fun y _ hy hp => by
      apply Classical.byContradiction
      intro hlt
      have hx : o ^^^ y < 1024 := Nat.lt_of_lt_of_le (Nat.xor_lt_two_pow ho (by omega)) h2
      have hz := pop_zero_iff _ hx (by omega)
      have : o = y := by
        have h := congrArg (fun z => z ^^^ y) hz
        simp only [Nat.xor_assoc, Nat.xor_self, Nat.xor_zero, Nat.zero_xor] at h
        exact h
      subst this
      exact hno hp
    unfold mendN at h
    omega
  · intro hp
    have := mendL_le (o := o) (2 ^ es.length) 0 es.length o (by omega) (by omega) hp
    rw [Nat.xor_self] at this
    have hz : pop 0 = 0 := by decide
    unfold mendN; omega
end
end Go.Proofs.Ytdgnnbbjehdogaa.Q
namespace Go.Proofs.Ytdgnnbbjehdogaa.Pure
open Go.RowKit Go.Proofs.Ytdgnnbbjehdogaa.G Go.Proofs.Ytdgnnbbjehdogaa.Q Go.Proofs.YtdgnnbbjehdogaaW.PrintWords Go.Proofs.YtdgnnbbjehdogaaW.PrintLast Go.Proofs.YtdgnnbbjehdogaaW.PrintMore
theorem FnMend : laws_FnMend.Pure := by
  intro code _ _ hcode
  refine Ev.rounds (g := fun k => laws_FnMend.f k code) ?_
  obtain ⟨a, l, o, hg, ha, hl⟩ := l91One_ev hcode
  have hD : Ev (fun k => spec_DrawPathMend.f k code) (a, l, o) := by
    unfold spec_DrawPathMend.f
    exact Ev.bind hg (Ev.now _)
  unfold laws_FnMend.f
  by_cases hc : (code.length : Int) > 1048576
  · simp only [hc, if_true]; exact Ev.now _
  · simp only [hc, if_false]
    refine Ev.bind hD ?_
    rcases way_split ha hl o with ⟨n, es, o', rfl, rfl, rfl, hv, ho⟩ | ⟨h1, h2⟩
    · refine Ev.bind (impl_PathMend_ev hv ho) (Ev.bind (spec_PathMend_ev hv ho) ?_)
      simp only [bne_self_eq_false, Bool.false_eq_true, if_false, if_true, Bool.not_true]
      have hT : Ev (fun k => impl_WayTurned.f k n (mkE es) o') (((2 ^ es.length - 1 - o' : Nat) : Int), true) := by
        unfold impl_WayTurned.f
        refine Ev.bind (impl_WayIn_yes hv ho) ?_
        simp only [if_true, impl_turned_eq' hv ho, Option.bind_some]
        exact Ev.now _
      have hM := impl_PathMend_ev hv (o := 2 ^ es.length - 1 - o') (by omega)
      rw [mend_turned hv ho] at hM
      have hh := mend_half hv ho
      have hl10 := hv.len
      have c1 : wrap64 (2 * ((mendN n es o' : Nat) : Int)) ≤ ((mkE es).length : Int) := by
        rw [mkE_length]
        generalize mendN n es o' = q at hh
        unfold wrap64; omega
      refine Ev.step (fun k => by simp only [laws_FnMend.j0, Bool.false_eq_true, if_false]; rfl) ?_
      refine Ev.bind hT (Ev.bind hM ?_)
      simp only [if_true, c1]
      refine Ev.bind (impl_PlainIn_ev hv ho) (Ev.eq_ (Ev.now _) ?_)
      have hz := mend_zero hv ho
      rw [beq_iff_eq, Bool.eq_iff_iff, beq_iff_eq, ← hz]
      exact Int.ofNat_inj (n := 0)
    · refine Ev.bind (impl_PathMend_no h1) (Ev.bind (spec_PathMend_no h2) ?_)
      simp only [bne_self_eq_false, Bool.false_eq_true, if_false, if_true, Bool.not_false]
      exact Ev.step (f := fun _ => some true) (fun k => by simp [laws_FnMend.j0]) (Ev.now _)
end Go.Proofs.Ytdgnnbbjehdogaa.Pure
