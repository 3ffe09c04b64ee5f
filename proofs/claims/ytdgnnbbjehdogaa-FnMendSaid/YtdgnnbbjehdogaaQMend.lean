/- Both PathMend tell the least number of edges to turn. The numbers are of 64 bits. -/
import Derived.Test.YtdgnnbbjehdogaaQPlain
import Derived.Test.YtdgnnbbjehdogaaQSize
import Derived.Test.YtdgnnbbjehdogaaG8
namespace Go.Proofs.Ytdgnnbbjehdogaa.Q
open Go.RowKit Go.Proofs.Ytdgnnbbjehdogaa.G Go.Proofs.YtdgnnbbjehdogaaW.PrintWords Go.Proofs.YtdgnnbbjehdogaaW.PrintLast Go.Proofs.YtdgnnbbjehdogaaW.PrintMore
set_option linter.unusedVariables false
set_option linter.unusedSimpArgs false
def mendL (n : Nat) (es : List (Nat × Nat)) (o : Nat) : Nat → Nat → Nat → Nat
  | _, 0, c => c
  | x, d + 1, c => mendL n es o (x + 1) d (if plainB n (arcs es x) then min c (pop (o ^^^ x)) else c)
def mendN (n : Nat) (es : List (Nat × Nat)) (o : Nat) : Nat := mendL n es o 0 (2 ^ es.length) es.length
theorem mn_nat (a b : Nat) : mn (a : Int) (b : Int) = ((min a b : Nat) : Int) := by
  unfold mn
  split <;> omega
section
variable {n : Nat} {es : List (Nat × Nat)} (hv : Val n es)
include hv
theorem spec_l1All_eq' : spec_l1All.f n (mkE es) = some ((2 ^ es.length - 1 : Nat) : Int) := by
  have h2 := hv.two
  have hp := Nat.two_pow_pos es.length
  unfold spec_l1All.f
  rw [shl_len hv]
  generalize 2 ^ es.length = m at *
  have : wrap64 ((m : Int) - 1) = ((m - 1 : Nat) : Int) := by unfold wrap64; omega
  rw [this]
theorem impl_PathMend_loop {o : Nat} (ho : o < 2 ^ es.length) : ∀ (d x c : Nat), x + d = 2 ^ es.length → Ev (fun k => impl_PathMend.l0 k (o : Int) (c : Int) ((2 ^ es.length : Nat) : Int) (x : Int) n (mkE es)) (((mendL n es o x d c : Nat) : Int), true)
  | 0, x, c, h => by
    refine Ev.step (f := fun _ => some ((c : Int), true)) (fun k => ?_) (Ev.now _)
    simp only [impl_PathMend.l0]
    rw [if_neg (by omega)]
  | d + 1, x, c, h => by
    have h2 := hv.two
    have hx : x < 2 ^ es.length := by omega
    have e1 : wrap64 ((x : Int) + 1) = ((x + 1 : Nat) : Int) := wrap_add _ (by omega)
    have hxo : o ^^^ x < 1024 := Nat.lt_of_lt_of_le (Nat.xor_lt_two_pow ho hx) h2
    have ih := impl_PathMend_loop ho d (x + 1) (if plainB n (arcs es x) then min c (pop (o ^^^ x)) else c) (by omega)
    refine Ev.step (f := fun k => (impl_isPlain.f k n (mkE es) (x : Int)).bind fun t => if t = true then ((bits_OnesCount.f (IntKind.u64.wrap (Go.bits .xor .i64 (o : Int) (x : Int)))).bind fun u => impl_PathMend.l0 k (o : Int) (mn (c : Int) u) ((2 ^ es.length : Nat) : Int) ((x + 1 : Nat) : Int) n (mkE es)) else impl_PathMend.l0 k (o : Int) (c : Int) ((2 ^ es.length : Nat) : Int) ((x + 1 : Nat) : Int) n (mkE es)) (fun k => ?_) (Ev.bind (impl_isPlain_ev hv hx) ?_)
    · simp only [impl_PathMend.l0]
      rw [if_pos (Int.ofNat_lt.2 hx), e1]
    · rw [xor_nat o x (by omega) (by omega), ones_eq _ hxo]
      simp only [Option.bind_some, mn_nat]
      simp only [mendL]
      cases hp : plainB n (arcs es x) with
      | true => rw [hp] at ih; simp only [if_true] at ih ⊢; exact ih
      | false => rw [hp] at ih; simp only [Bool.false_eq_true, if_false] at ih ⊢; exact ih
theorem impl_PathMend_ev {o : Nat} (ho : o < 2 ^ es.length) : Ev (fun k => impl_PathMend.f k n (mkE es) o) (((mendN n es o : Nat) : Int), true) := by
  unfold impl_PathMend.f
  refine Ev.bind (impl_WayIn_yes hv ho) ?_
  simp only [if_true, shl_len hv]
  rw [mkE_length]
  exact impl_PathMend_loop hv ho (2 ^ es.length) 0 es.length (by omega)
theorem spec_PathMend_loop {o : Nat} (ho : o < 2 ^ es.length) : ∀ (d x c : Nat), x + d = 2 ^ es.length → Ev (fun k => spec_PathMend.l0 k (o : Int) (c : Int) (x : Int) n (mkE es)) (((mendL n es o x d c : Nat) : Int), true)
  | 0, x, c, h => by
    have hp := Nat.two_pow_pos es.length
    refine Ev.step (f := fun _ => some ((c : Int), true)) (fun k => ?_) (Ev.now _)
    simp only [spec_PathMend.l0, spec_l1All_eq' hv, Option.bind_some]
    rw [if_neg (by omega)]
  | d + 1, x, c, h => by
    have h2 := hv.two
    have hx : x < 2 ^ es.length := by omega
    have e1 : wrap64 ((x : Int) + 1) = ((x + 1 : Nat) : Int) := wrap_add _ (by omega)
    have hxo : o ^^^ x < 1024 := Nat.lt_of_lt_of_le (Nat.xor_lt_two_pow ho hx) h2
    have ih := spec_PathMend_loop ho d (x + 1) (if plainB n (arcs es x) then min c (pop (o ^^^ x)) else c) (by omega)
    refine Ev.step (f := fun k => (spec_l2Plain.f k n (mkE es) (x : Int)).bind fun t => if t = true then ((spec_l4Size.f k (Go.bits .xor .i64 (o : Int) (x : Int))).bind fun u => spec_PathMend.l0 k (o : Int) (mn (c : Int) u) ((x + 1 : Nat) : Int) n (mkE es)) else spec_PathMend.l0 k (o : Int) (c : Int) ((x + 1 : Nat) : Int) n (mkE es)) (fun k => ?_) (Ev.bind (spec_l2Plain_ev hv hx) ?_)
    · simp only [spec_PathMend.l0, spec_l1All_eq' hv, Option.bind_some]
      rw [if_pos (by omega), e1]
    · rw [xor_nat o x (by omega) (by omega)]
      simp only [mendL]
      cases hp : plainB n (arcs es x) with
      | true =>
        rw [hp] at ih; simp only [if_true] at ih ⊢
        refine Ev.bind (spec_l4Size_ev _ hxo) ?_
        simp only [mn_nat]
        exact ih
      | false => rw [hp] at ih; simp only [Bool.false_eq_true, if_false] at ih ⊢; exact ih
theorem spec_PathMend_ev {o : Nat} (ho : o < 2 ^ es.length) : Ev (fun k => spec_PathMend.f k n (mkE es) o) (((mendN n es o : Nat) : Int), true) := by
  unfold spec_PathMend.f
  refine Ev.bind (spec_WayIn_yes hv ho) ?_
  simp only [if_true]
  rw [mkE_length]
  exact spec_PathMend_loop hv ho (2 ^ es.length) 0 es.length (by omega)
end
theorem impl_PathMend_no {a : Int} {l : List E} {o : Int} (h : Ev (fun k => impl_WayIn.f k a l o) false) : Ev (fun k => impl_PathMend.f k a l o) (0, false) := by
  unfold impl_PathMend.f
  refine Ev.bind h ?_
  simp only [Bool.false_eq_true, if_false]
  exact Ev.now _
theorem spec_PathMend_no {a : Int} {l : List E} {o : Int} (h : Ev (fun k => spec_WayIn.f k a l o) false) : Ev (fun k => spec_PathMend.f k a l o) (0, false) := by
  unfold spec_PathMend.f
  refine Ev.bind h ?_
  simp only [Bool.false_eq_true, if_false]
  exact Ev.now _
theorem PathMend_both {a : Int} (ha : InR a) {l : List E} (hl : WfE l) (o : Int) : ∃ r, Ev (fun k => impl_PathMend.f k a l o) r ∧ Ev (fun k => spec_PathMend.f k a l o) r := by
  rcases way_split ha hl o with ⟨n, es, o', rfl, rfl, rfl, hv, ho⟩ | ⟨h1, h2⟩
  · exact ⟨_, impl_PathMend_ev hv ho, spec_PathMend_ev hv ho⟩
  · exact ⟨(0, false), impl_PathMend_no h1, spec_PathMend_no h2⟩
end Go.Proofs.Ytdgnnbbjehdogaa.Q
