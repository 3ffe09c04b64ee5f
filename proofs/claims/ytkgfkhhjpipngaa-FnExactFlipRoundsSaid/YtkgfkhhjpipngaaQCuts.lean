/- Turned cuts: byCuts and l5Cuts list the same directions. The graph is valid. -/
import Derived.Test.YtkgfkhhjpipngaaQPut
import Derived.Test.YtkgfkhhjpipngaaQNext
import Derived.Test.YtkgfkhhjpipngaaG32
namespace Go.Proofs.Ytkgfkhhjpipngaa.Q
open Go.RowKit Go.Proofs.Ytkgfkhhjpipngaa.G Go.Proofs.YtkgfkhhjpipngaaW.PrintWords Go.Proofs.YtkgfkhhjpipngaaW.PrintLast Go.Proofs.YtkgfkhhjpipngaaW.PrintMore
set_option linter.unusedVariables false
set_option linter.unusedSimpArgs false
set_option linter.unusedSectionVars false
theorem bT : ((true.toNat : Nat) : Int) = 1 := rfl
theorem bF : ((false.toNat : Nat) : Int) = 0 := rfl
def cutR (es : List (Nat × Nat)) (o set : Nat) : Nat → Nat → Nat → Bool → Nat × Bool
  | 0, _, c, b => (c, b)
  | d + 1, i, c, b => let e := (arcs es o).getD i (0, 0); if set.testBit e.1 = set.testBit e.2 then cutR es o set d (i + 1) c b else if set.testBit e.1 then cutR es o set d (i + 1) (c ||| 2 ^ i) b else cutR es o set d (i + 1) c false
def cutOf (es : List (Nat × Nat)) (o set : Nat) : Nat × Bool := cutR es o set es.length 0 0 true
def cutsL (es : List (Nat × Nat)) (o : Nat) : Nat → Nat → List Int
  | 0, _ => []
  | d + 1, s => (if (cutOf es o s).2 = true ∧ (cutOf es o s).1 ≠ 0 then [((o ^^^ (cutOf es o s).1 : Nat) : Int)] else []) ++ cutsL es o d (s + 1)
theorem cutsL_len (es : List (Nat × Nat)) (o : Nat) : ∀ d s, (cutsL es o d s).length ≤ d
  | 0, _ => by simp [cutsL]
  | d + 1, s => by
    have h := cutsL_len es o d (s + 1)
    simp only [cutsL, List.length_append]
    split <;> simp <;> omega
theorem or_pow_lt {c i : Nat} (hc : c < 1024) (hi : i < 10) : c ||| 2 ^ i < 1024 := Nat.or_lt_two_pow (n := 10) hc (Nat.lt_of_lt_of_le (Nat.pow_lt_pow_right (by decide) hi) (by decide))
theorem cutR_lt (es : List (Nat × Nat)) (o set : Nat) : ∀ d i c b, i + d ≤ 10 → c < 1024 → (cutR es o set d i c b).1 < 1024
  | 0, _, c, b, _, hc => hc
  | d + 1, i, c, b, hi, hc => by
    simp only [cutR]
    split
    · exact cutR_lt es o set d (i + 1) c b (by omega) hc
    · split
      · exact cutR_lt es o set d (i + 1) _ b (by omega) (or_pow_lt hc (by omega))
      · exact cutR_lt es o set d (i + 1) c false (by omega) hc
section
variable {n : Nat} {es : List (Nat × Nat)} (hv : Val n es) {o : Nat} (ho : o < 2 ^ es.length)
include hv ho
theorem cutOf_lt (s : Nat) : (cutOf es o s).1 < 1024 := cutR_lt es o s _ _ _ _ (by have := hv.len; omega) (by decide)
theorem ends_getD (i : Nat) (hi : i < es.length) : impl_ends.f n (mkE es) o i = some ((((arcs es o).getD i (0, 0)).1 : Int), (((arcs es o).getD i (0, 0)).2 : Int)) ∧ ((arcs es o).getD i (0, 0)).1 < 5 ∧ ((arcs es o).getD i (0, 0)).2 < 5 := by
  have h := impl_ends_eq hv ho i hi
  have hb := arcs_bd hv (o := o) i hi
  have hl := hv.le
  have e : (arcs es o).getD i (0, 0) = (arcs es o)[i]'(by rw [arcs_length]; exact hi) := by rw [List.getD_eq_getElem?_getD, List.getElem?_eq_getElem (by rw [arcs_length]; exact hi)]; rfl
  rw [e]
  exact ⟨h, by omega, by omega⟩
theorem impl_cut_loop (out R : List Int) {s : Nat} (hs : s < 32) : ∀ d i c b, i + d = es.length → c < 1024 →
    Ev (fun k => impl_byCuts.l1 k o out s ((cutR es o s d i c b).1 : Nat) (cutR es o s d i c b).2 (es.length : Int) (es.length : Int) n (mkE es)) R →
    Ev (fun k => impl_byCuts.l1 k o out s (c : Nat) b (es.length : Int) (i : Int) n (mkE es)) R
  | 0, i, c, b, hi, hc, h => by
    have : i = es.length := by omega
    subst this
    exact h
  | d + 1, i, c, b, hi, hc, h => by
    have hil : i < es.length := by omega
    have hlen := hv.len
    obtain ⟨e, ea, eb⟩ := ends_getD hv ho i hil
    refine Ev.step (fun k => by simp only [impl_byCuts.l1, Int.ofNat_lt.2 hil, if_true]; rfl) ?_
    rw [e]
    simp only [cutR] at h
    obtain ⟨⟨a1, a2⟩, ha⟩ : ∃ p, p = (arcs es o).getD i (0, 0) := ⟨_, rfl⟩
    rw [← ha] at ea eb h ⊢
    simp only [Option.bind_some]
    have z1 : (0 : Int) ≤ (a1 : Int) := Int.natCast_nonneg _
    have z2 : (0 : Int) ≤ (a2 : Int) := Int.natCast_nonneg _
    have zi : (0 : Int) ≤ (i : Int) := Int.natCast_nonneg _
    simp only [z1, z2, zi, if_true, bit_nat s a1 (lt62 hs) (by omega), bit_nat s a2 (lt62 hs) (by omega), wrap_add i (lt62 (by omega)), shl_one i (by omega), or_nat c (2 ^ i) (Nat.lt_trans hc (by decide)) (Nat.lt_trans (Nat.pow_lt_pow_right (by decide) (show i < 20 by omega)) (by decide))]
    cases h1 : s.testBit a1 <;> cases h2 : s.testBit a2 <;> simp only [h1, h2, if_true, if_false, bT, bF, Bool.false_eq_true, Bool.true_eq_false, reduceCtorEq, Int.zero_ne_one, Int.one_ne_zero] at h ⊢
    · exact impl_cut_loop out R hs d (i + 1) c b (by omega) hc h
    · simpa using impl_cut_loop out R hs d (i + 1) c false (by omega) hc h
    · simpa using impl_cut_loop out R hs d (i + 1) (c ||| 2 ^ i) b (by omega) (or_pow_lt hc (by omega)) h
    · exact impl_cut_loop out R hs d (i + 1) c b (by omega) hc h
theorem spec_cut_loop (out R : List Int) {s : Nat} (hs : s < 32) : ∀ d i c b, i + d = es.length → c < 1024 →
    Ev (fun k => spec_l5Cuts.l1 k o out s ((cutR es o s d i c b).1 : Nat) (cutR es o s d i c b).2 (es.length : Int) n (mkE es)) R →
    Ev (fun k => spec_l5Cuts.l1 k o out s (c : Nat) b (i : Int) n (mkE es)) R
  | 0, i, c, b, hi, hc, h => by
    have : i = es.length := by omega
    subst this
    exact h
  | d + 1, i, c, b, hi, hc, h => by
    have hil : i < es.length := by omega
    have hil' : (i : Int) < ((mkE es).length : Int) := by rw [mkE_length]; omega
    have hlen := hv.len
    obtain ⟨e0, ea, eb⟩ := ends_getD hv ho i hil
    have e : spec_l1Ends.f n (mkE es) o i = _ := e0
    refine Ev.step (fun k => by simp only [spec_l5Cuts.l1, hil', if_true]; rfl) ?_
    rw [e]
    simp only [cutR] at h
    obtain ⟨⟨a1, a2⟩, ha⟩ : ∃ p, p = (arcs es o).getD i (0, 0) := ⟨_, rfl⟩
    rw [← ha] at ea eb h ⊢
    simp only [Option.bind_some]
    have z1 : (0 : Int) ≤ (a1 : Int) := Int.natCast_nonneg _
    have z2 : (0 : Int) ≤ (a2 : Int) := Int.natCast_nonneg _
    have zi : (0 : Int) ≤ (i : Int) := Int.natCast_nonneg _
    simp only [z1, z2, zi, if_true, bit_nat s a1 (lt62 hs) (by omega), bit_nat s a2 (lt62 hs) (by omega)]
    cases h1 : s.testBit a1 <;> cases h2 : s.testBit a2 <;> simp only [h1, h2, if_true, if_false, bT, bF, Bool.false_eq_true, Bool.true_eq_false, reduceCtorEq, Int.zero_ne_one, Int.one_ne_zero] at h ⊢ <;>
      refine Ev.step (fun k => by simp only [spec_l5Cuts.j2, z1, z2, zi, if_true, bit_nat s a1 (lt62 hs) (by omega), bit_nat s a2 (lt62 hs) (by omega), h1, h2, wrap_add i (lt62 (show i < 32 by omega)), shl_one i (by omega), or_nat c (2 ^ i) (Nat.lt_trans hc (by decide)) (Nat.lt_trans (Nat.pow_lt_pow_right (by decide) (show i < 20 by omega)) (by decide))]; rfl) ?_
    · simpa using spec_cut_loop out R hs d (i + 1) c b (by omega) hc h
    · simpa using spec_cut_loop out R hs d (i + 1) c false (by omega) hc h
    · simpa using spec_cut_loop out R hs d (i + 1) (c ||| 2 ^ i) b (by omega) (or_pow_lt hc (by omega)) h
    · simpa using spec_cut_loop out R hs d (i + 1) c b (by omega) hc h
theorem pow_n : wrap64 (shl .i64 1 (n : Int) - 1) = ((2 ^ n - 1 : Nat) : Int) := by
  have h := two_n hv.le
  have h1 : 1 ≤ 2 ^ n := Nat.one_le_two_pow
  rw [shl_n hv]
  unfold wrap64
  omega
theorem impl_byCuts_loop : ∀ d s out, s + d = 2 ^ n - 1 → out.length + d ≤ 100 → Ev (fun k => impl_byCuts.l0 k o out (s : Nat) n (mkE es)) (puts [] (out ++ cutsL es o d s))
  | 0, s, out, hs, hl => by
    have h0 : (0 : Int) ≤ (n : Int) := Int.natCast_nonneg n
    have hsn : s = 2 ^ n - 1 := by omega
    refine Ev.step (fun k => by simp only [impl_byCuts.l0, h0, if_true, pow_n hv ho, hsn, Int.lt_irrefl, if_false]; rfl) ?_
    simp only [distinct_eq _ out (by omega), Option.bind_some, cutsL, List.append_nil]
    exact Ev.now _
  | d + 1, s, out, hs, hl => by
    have h0 : (0 : Int) ≤ (n : Int) := Int.natCast_nonneg n
    have h2 := two_n hv.le
    have hsn : ((s : Nat) : Int) < ((2 ^ n - 1 : Nat) : Int) := by omega
    have hlen := hv.len
    refine Ev.step (fun k => by simp only [impl_byCuts.l0, h0, if_true, pow_n hv ho, hsn, mkE_length]; rfl) ?_
    refine impl_cut_loop hv ho out _ (by omega) es.length 0 0 true (by omega) (by decide) ?_
    have hc := cutOf_lt hv ho s
    show Ev (fun k => impl_byCuts.l1 k o out s ((cutOf es o s).1 : Nat) (cutOf es o s).2 _ _ n (mkE es)) _
    simp only [cutsL]
    have h2e := hv.two
    generalize cutOf es o s = p at hc ⊢
    obtain ⟨c, b⟩ := p
    have hol : out.length < 17592186044416 := by omega
    refine Ev.step (fun k => by simp only [impl_byCuts.l1, Int.lt_irrefl, if_false, xor_nat o c (Nat.lt_of_lt_of_le ho (Nat.le_trans h2e (by decide))) (Nat.lt_trans hc (by decide)), wrap_add s (lt62 (show s < 32 by omega)), hol, if_true]; rfl) ?_
    cases b with
    | false => simpa using impl_byCuts_loop d (s + 1) out (by omega) (by omega)
    | true =>
      by_cases hz : c = 0
      · subst hz; simpa using impl_byCuts_loop d (s + 1) out (by omega) (by omega)
      · have hz' : ¬ ((c : Int) = 0) := by omega
        simp only [hz', if_true, if_false, hz, ne_eq, not_false_eq_true, and_self]
        rw [← List.append_assoc]
        exact impl_byCuts_loop d (s + 1) _ (by omega) (by simp; omega)
theorem spec_l5Cuts_loop : ∀ d s out, s + d = 2 ^ n - 1 → Asc out → out.length + d ≤ 100 → Ev (fun k => spec_l5Cuts.l0 k o out (s : Nat) n (mkE es)) (puts out (cutsL es o d s))
  | 0, s, out, hs, ha, hl => by
    have h0 : (0 : Int) ≤ (n : Int) := Int.natCast_nonneg n
    have hsn : s = 2 ^ n - 1 := by omega
    refine Ev.step (fun k => by simp only [spec_l5Cuts.l0, h0, if_true, pow_n hv ho, hsn, Int.lt_irrefl, if_false]; rfl) ?_
    exact Ev.now _
  | d + 1, s, out, hs, ha, hl => by
    have h0 : (0 : Int) ≤ (n : Int) := Int.natCast_nonneg n
    have h2 := two_n hv.le
    have hsn : ((s : Nat) : Int) < ((2 ^ n - 1 : Nat) : Int) := by omega
    have hlen := hv.len
    refine Ev.step (fun k => by simp only [spec_l5Cuts.l0, h0, if_true, pow_n hv ho, hsn]; rfl) ?_
    refine spec_cut_loop hv ho out _ (by omega) es.length 0 0 true (by omega) (by decide) ?_
    have hc := cutOf_lt hv ho s
    show Ev (fun k => spec_l5Cuts.l1 k o out s ((cutOf es o s).1 : Nat) (cutOf es o s).2 _ n (mkE es)) _
    simp only [cutsL]
    have h2e := hv.two
    generalize cutOf es o s = p at hc ⊢
    obtain ⟨c, b⟩ := p
    refine Ev.step (fun k => by simp only [spec_l5Cuts.l1, mkE_length, Int.lt_irrefl, if_false, xor_nat o c (Nat.lt_of_lt_of_le ho (Nat.le_trans h2e (by decide))) (Nat.lt_trans hc (by decide)), wrap_add s (lt62 (show s < 32 by omega))]; rfl) ?_
    cases b with
    | false => simpa using spec_l5Cuts_loop d (s + 1) out (by omega) ha (by omega)
    | true =>
      by_cases hz : c = 0
      · subst hz; simpa using spec_l5Cuts_loop d (s + 1) out (by omega) ha (by omega)
      · have hz' : ((c : Int) > 0) = True := eq_true (by omega)
        simp only [hz', if_true, hz, ne_eq, not_false_eq_true, and_self]
        refine Ev.bind (l5Put_ev ha (by omega) _) ?_
        exact spec_l5Cuts_loop d (s + 1) _ (by omega) (ha.put _) (by have := put_len out ((o ^^^ c : Nat) : Int); omega)
/-- All directions with one cut turned. -/
def cuts (n : Nat) (es : List (Nat × Nat)) (o : Nat) : List Int := puts [] (cutsL es o (2 ^ n - 2) 1)
theorem impl_byCuts_ev (h2 : 2 ≤ 2 ^ n) : Ev (fun k => impl_byCuts.f k n (mkE es) o) (cuts n es o) := by
  have h := two_n hv.le
  exact impl_byCuts_loop hv ho (2 ^ n - 2) 1 [] (by omega) (by simp; omega)
theorem spec_l5Cuts_ev (h2 : 2 ≤ 2 ^ n) : Ev (fun k => spec_l5Cuts.f k n (mkE es) o) (cuts n es o) := by
  have h := two_n hv.le
  exact spec_l5Cuts_loop hv ho (2 ^ n - 2) 1 [] (by omega) (by simp [Asc]) (by simp; omega)
end
theorem cuts_len (n : Nat) (es : List (Nat × Nat)) (o : Nat) (h : n ≤ 5) : (cuts n es o).length ≤ 32 := by
  have h2 := two_n h
  have h1 := puts_len (cutsL es o (2 ^ n - 2) 1) []
  have h3 := cutsL_len es o (2 ^ n - 2) 1
  unfold cuts
  simp only [List.length_nil] at h1
  omega
end Go.Proofs.Ytkgfkhhjpipngaa.Q
