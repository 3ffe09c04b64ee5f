/- The reference's set of nodes to which edges lead from a set. The graph is valid. -/
import Derived.Test.YtfhchpfelndejaaQSem
import Derived.Test.YtfhchpfelndejaaG32
namespace Go.Proofs.Ytfhchpfelndejaa.Q
open Go.RowKit Go.Proofs.Ytfhchpfelndejaa.G Go.Proofs.YtfhchpfelndejaaW.PrintWords Go.Proofs.YtfhchpfelndejaaW.PrintLast Go.Proofs.YtfhchpfelndejaaW.PrintMore
set_option linter.unusedVariables false
set_option linter.unusedSimpArgs false
def beatS (set : Nat) (m : Nat) (e : Nat × Nat) : Nat := if set.testBit e.1 then m ||| 2 ^ e.2 else m
theorem beatS_bit (set v : Nat) : ∀ (ar : List (Nat × Nat)) (m : Nat), (ar.foldl (beatS set) m).testBit v = (m.testBit v || ar.any fun e => set.testBit e.1 && e.2 == v)
  | [], m => by simp
  | e :: t, m => by
    rw [List.foldl_cons, beatS_bit set v t, List.any_cons]
    unfold beatS
    cases set.testBit e.1 with
    | true =>
      rw [if_pos rfl, Nat.testBit_or, Nat.testBit_two_pow]
      have : decide (e.2 = v) = (e.2 == v) := by rw [Bool.eq_iff_iff]; simp
      rw [this, Bool.true_and, Bool.or_assoc]
    | false => simp
def beat (es : List (Nat × Nat)) (o set : Nat) : Nat := (arcs es o).foldl (beatS set) 0
section
variable {n : Nat} {es : List (Nat × Nat)} (hv : Val n es)
include hv
theorem beat_one (o v : Nat) : beat es o (2 ^ v) = out n es o v := by
  apply Nat.eq_of_testBit_eq
  intro u
  rw [out_bit hv, beat, beatS_bit, Nat.zero_testBit, Bool.false_or]
  unfold adj
  congr 1
  funext e
  rw [Nat.testBit_two_pow]
  have : decide (v = e.1) = (e.1 == v) := by rw [Bool.eq_iff_iff]; simp; exact eq_comm
  rw [this]
theorem spec_l7Beaten_loop {o : Nat} (ho : o < 2 ^ es.length) (set : Nat) (hs : set < 32) : ∀ (d i m : Nat), i + d = es.length → m < 32 → Ev (fun k => spec_l7Beaten.l0 k o set (m : Int) (i : Int) n (mkE es)) (((((arcs es o).drop i).foldl (beatS set) m : Nat)) : Int)
  | 0, i, m, h, hm => by
    refine Ev.step (f := fun _ => some (m : Int)) (fun k => ?_) (Ev.eq_ (Ev.now _) ?_)
    · simp only [spec_l7Beaten.l0]
      rw [if_neg (by rw [mkE_length]; omega)]
    · rw [List.drop_of_length_le (by rw [arcs_length]; omega)]; rfl
  | d + 1, i, m, h, hm => by
    have hi : i < es.length := by omega
    have hl := hv.len
    have h5 := hv.le
    have e1 : wrap64 ((i : Int) + 1) = ((i + 1 : Nat) : Int) := by unfold wrap64; omega
    have hb := arcs_bd hv (o := o) i hi
    rw [List.drop_eq_getElem_cons (by rw [arcs_length]; exact hi), List.foldl_cons]
    generalize hx : (arcs es o)[i]'(by rw [arcs_length]; exact hi) = x at hb
    have h2 := two_lt_32 (v := x.2) (by omega)
    have ih := spec_l7Beaten_loop ho set hs d (i + 1) (beatS set m x) (by omega) (by unfold beatS; split <;> first | exact hm | exact or_lt_32 hm h2)
    refine Ev.step (fun k => ?_) ih
    simp only [spec_l7Beaten.l0]
    rw [if_pos (by rw [mkE_length]; omega), spec_ends_eq hv ho i hi, hx]
    simp only [Option.bind_some]
    rw [if_pos (by omega), bit_nat _ _ (by omega) (by omega), e1]
    unfold beatS
    cases set.testBit x.1 with
    | false => rw [if_neg (by simp)]; rfl
    | true =>
      rw [if_pos (by rfl), if_pos (by omega), shl_one _ (by omega), or_nat _ _ (by omega) (by omega)]
      rfl
theorem spec_l7Beaten_ev {o : Nat} (ho : o < 2 ^ es.length) (set : Nat) (hs : set < 32) : Ev (fun k => spec_l7Beaten.f k n (mkE es) o set) ((beat es o set : Nat) : Int) :=
  Ev.congr (fun k => rfl) (spec_l7Beaten_loop hv ho set hs es.length 0 0 (by omega) (by omega))
theorem spec_l7Beaten_one {o : Nat} (ho : o < 2 ^ es.length) (v : Nat) (h : v < 5) : Ev (fun k => spec_l7Beaten.f k n (mkE es) o ((2 ^ v : Nat) : Int)) ((out n es o v : Nat) : Int) :=
  Ev.eq_ (spec_l7Beaten_ev hv ho (2 ^ v) (two_lt_32 h)) (by rw [beat_one hv])
theorem beat_lt {o : Nat} (set : Nat) : beat es o set < 32 := by
  have key : ∀ (ar : List (Nat × Nat)) (m : Nat), m < 32 → (∀ e ∈ ar, e.2 < 5) → ar.foldl (beatS set) m < 32 := by
    intro ar
    induction ar with
    | nil => intro m h _; exact h
    | cons e t ih =>
      intro m h he
      rw [List.foldl_cons]
      refine ih _ ?_ fun x hx => he x (List.mem_cons_of_mem _ hx)
      unfold beatS
      split
      · exact or_lt_32 h (two_lt_32 (he e List.mem_cons_self))
      · exact h
  exact key _ 0 (by omega) fun e he => by have := (arcs_mem hv.lt e he).2.1; have := hv.le; omega
end
attribute [irreducible] beat
end Go.Proofs.Ytfhchpfelndejaa.Q
