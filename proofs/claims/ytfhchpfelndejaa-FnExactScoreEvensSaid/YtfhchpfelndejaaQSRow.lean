/- Rows of outdegrees as numbers, and held against each other; the turned direction. The graph is valid. -/
import Derived.Test.YtfhchpfelndejaaQOut
import Derived.Test.YtfhchpfelndejaaG39
import Derived.Test.YtfhchpfelndejaaG9
import Derived.Test.YtfhchpfelndejaaG16
namespace Go.Proofs.Ytfhchpfelndejaa.Q
open Go.RowKit Go.Proofs.Ytfhchpfelndejaa.G Go.Proofs.YtfhchpfelndejaaW.PrintWords Go.Proofs.YtfhchpfelndejaaW.PrintLast Go.Proofs.YtfhchpfelndejaaW.PrintMore
set_option linter.unusedVariables false
set_option linter.unusedSimpArgs false
theorem slices_Equal_loop {a b : List Nat} (h : a.length = b.length) (hl : a.length ≤ 1048576) : ∀ d i : Nat, i + d = a.length → Ev (fun k => slices_Equal_int_int.l0 k (I a) (I b) ((I a).length : Int) (i : Int)) (decide (a.drop i = b.drop i))
  | 0, i, hi => by
    refine Ev.step (f := fun _ => some true) (fun k => ?_) (Ev.eq_ (Ev.now _) ?_)
    · simp only [slices_Equal_int_int.l0]
      rw [if_neg (by rw [I_length]; omega)]
    · rw [List.drop_of_length_le (by omega), List.drop_of_length_le (by omega)]; rfl
  | d + 1, i, hi => by
    have h1 : i < a.length := by omega
    have h2 : i < b.length := by omega
    have e1 : wrap64 ((i : Int) + 1) = ((i + 1 : Nat) : Int) := wrap_add _ (by omega)
    have g1 : a.getD i 0 = a[i] := by rw [List.getD_eq_getElem?_getD, List.getElem?_eq_getElem h1]; rfl
    have g2 : b.getD i 0 = b[i] := by rw [List.getD_eq_getElem?_getD, List.getElem?_eq_getElem h2]; rfl
    by_cases hx : a[i] = b[i]
    · refine Ev.step (fun k => ?_) (Ev.eq_ (slices_Equal_loop h hl d (i + 1) (by omega)) ?_)
      · simp only [slices_Equal_int_int.l0]
        rw [if_pos (by rw [I_length]; omega), if_pos (Int.natCast_nonneg i), if_pos (by rw [I_length]; omega), if_pos (by rw [I_length]; omega), rd_nat, rd_nat, g1, g2, if_pos (by rw [hx]), e1]
      · rw [List.drop_eq_getElem_cons h1, List.drop_eq_getElem_cons h2, hx]
        simp only [List.cons.injEq, true_and]
    · refine Ev.step (f := fun _ => some false) (fun k => ?_) (Ev.eq_ (Ev.now _) ?_)
      · simp only [slices_Equal_int_int.l0]
        rw [if_pos (by rw [I_length]; omega), if_pos (Int.natCast_nonneg i), if_pos (by rw [I_length]; omega), if_pos (by rw [I_length]; omega), rd_nat, rd_nat, g1, g2, if_neg (show ¬ ((a[i] : Nat) : Int) = ((b[i] : Nat) : Int) from fun h => hx (Int.ofNat.inj h))]
      · rw [List.drop_eq_getElem_cons h1, List.drop_eq_getElem_cons h2]
        symm; rw [decide_eq_false_iff_not]
        intro h; exact hx (List.cons.inj h).1
theorem slices_Equal_ev {a b : List Nat} (h : a.length = b.length) (hl : a.length ≤ 1048576) : Ev (fun k => slices_Equal_int_int.f k (I a) (I b)) (decide (a = b)) := by
  refine Ev.congr (fun k => ?_) (slices_Equal_loop h hl a.length 0 (by omega))
  unfold slices_Equal_int_int.f
  rw [if_pos (by rw [I_length, I_length, h])]
  rfl
/-- A row as a number. -/
def rowN (x : Nat) (ds : List Nat) : Nat := ds.foldl (fun x d => 16 * x + d) x
theorem rowN_inj : ∀ (a b : List Nat) (x y : Nat), a.length = b.length → (∀ d ∈ a, d < 16) → (∀ d ∈ b, d < 16) → rowN x a = rowN y b → x = y ∧ a = b
  | [], [], x, y, _, _, _, h => ⟨h, rfl⟩
  | p :: a, q :: b, x, y, hl, ha, hb, h => by
    have h1 := rowN_inj a b (16 * x + p) (16 * y + q) (by simpa using hl) (fun d hd => ha d (List.mem_cons_of_mem _ hd)) (fun d hd => hb d (List.mem_cons_of_mem _ hd)) h
    have hp := ha p List.mem_cons_self
    have hq := hb q List.mem_cons_self
    have hx : x = y := by omega
    have hpq : p = q := by omega
    exact ⟨hx, by rw [hpq, h1.2]⟩
theorem spec_l4Row_loop {n : Nat} (h5 : n ≤ 5) {ds : List Nat} (hl : ds.length = n) (hd : ∀ d ∈ ds, d < 16) (es : List E) : ∀ (d i x : Nat), i + d = n → x < 16 ^ i → Ev (fun k => spec_l4Row.l0 k (x : Int) (I ds) (i : Int) (n : Int) es) ((rowN x (ds.drop i) : Nat) : Int)
  | 0, i, x, h, hx => by
    refine Ev.step (f := fun _ => some (x : Int)) (fun k => ?_) (Ev.eq_ (Ev.now _) ?_)
    · simp only [spec_l4Row.l0]
      rw [if_neg (by omega)]
    · rw [List.drop_of_length_le (by omega)]; rfl
  | d + 1, i, x, h, hx => by
    have hi : i < ds.length := by omega
    have g1 : ds.getD i 0 = ds[i] := by rw [List.getD_eq_getElem?_getD, List.getElem?_eq_getElem hi]; rfl
    have hdi := hd ds[i] (List.getElem_mem hi)
    have hx5 : x < 1048576 := Nat.lt_of_lt_of_le hx (Nat.le_trans (Nat.pow_le_pow_right (by decide) (show i ≤ 5 by omega)) (by decide))
    have e1 : wrap64 ((i : Int) + 1) = ((i + 1 : Nat) : Int) := wrap_add _ (lt62 (by omega))
    have ih := spec_l4Row_loop h5 hl hd es d (i + 1) (16 * x + ds[i]) (by omega) (by rw [Nat.pow_succ]; omega)
    refine Ev.step (fun k => ?_) (Ev.eq_ ih ?_)
    · simp only [spec_l4Row.l0]
      rw [if_pos (by omega), if_pos (Int.natCast_nonneg i), if_pos (by rw [I_length]; omega), rd_nat, g1, e1]
      have e2 : wrap64 (wrap64 (16 * (x : Int)) + ((ds[i] : Nat) : Int)) = ((16 * x + ds[i] : Nat) : Int) := by
        rw [wrap_int (16 * (x : Int)) (by omega) (by omega), wrap_int _ (by omega) (by omega)]; omega
      rw [e2]
    · rw [List.drop_eq_getElem_cons hi]; rfl
section
variable {n : Nat} {es : List (Nat × Nat)} (hv : Val n es)
include hv
theorem deg_lt (o : Nat) : ∀ d ∈ deg n (arcs es o), d < 16 := by
  rw [← deg_eq hv]
  intro d hd
  obtain ⟨x, _, rfl⟩ := List.mem_map.1 hd
  have := pop_le x; omega
theorem spec_l4Row_ev {o : Nat} (ho : o < 2 ^ es.length) : Ev (fun k => spec_l4Row.f k n (mkE es) o) ((rowN 0 (deg n (arcs es o)) : Nat) : Int) := by
  unfold spec_l4Row.f
  refine Ev.bind (spec_l1Out_ev hv ho) ?_
  exact spec_l4Row_loop hv.le (deg_len n _) (deg_lt hv o) (mkE es) n 0 0 (by omega) (by simp)
theorem row_iff (o p : Nat) : rowN 0 (deg n (arcs es o)) = rowN 0 (deg n (arcs es p)) ↔ deg n (arcs es o) = deg n (arcs es p) :=
  ⟨fun h => (rowN_inj _ _ 0 0 (by rw [deg_len, deg_len]) (deg_lt hv o) (deg_lt hv p) h).2, fun h => by rw [h]⟩
omit hv in
theorem xor_all : ∀ m, m < 11 → ∀ o, o < 2 ^ m → o ^^^ (2 ^ m - 1) = 2 ^ m - 1 - o := by decide +kernel
theorem impl_turned_eq {o : Nat} (ho : o < 2 ^ es.length) : impl_turned.f n (mkE es) o = some ((2 ^ es.length - 1 - o : Nat) : Int) := by
  have h2 := hv.two
  have hp := Nat.two_pow_pos es.length
  have hx := xor_all es.length (by have := hv.len; omega) o ho
  unfold impl_turned.f
  rw [shl_len hv]
  generalize 2 ^ es.length = m at *
  have : wrap64 ((m : Int) - 1) = ((m - 1 : Nat) : Int) := by unfold wrap64; omega
  rw [this, xor_nat _ _ (by omega) (by omega), hx]
theorem spec_l1All_eq_ : spec_l1All.f n (mkE es) = some ((2 ^ es.length - 1 : Nat) : Int) := by
  have h2 := hv.two
  have hp := Nat.two_pow_pos es.length
  unfold spec_l1All.f
  rw [shl_len hv]
  generalize 2 ^ es.length = m at *
  have : wrap64 ((m : Int) - 1) = ((m - 1 : Nat) : Int) := by unfold wrap64; omega
  rw [this]
end
end Go.Proofs.Ytfhchpfelndejaa.Q
