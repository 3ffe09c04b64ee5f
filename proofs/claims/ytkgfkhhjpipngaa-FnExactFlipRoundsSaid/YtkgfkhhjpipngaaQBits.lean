/- Plain facts on the bits and shifts of small whole numbers, as the printed functions spell them. No condition. -/
import Derived.RowKit
import Derived.Laws.BitsLemmas
import Derived.Test.YtkgfkhhjpipngaaWWords
import Derived.Test.YtkgfkhhjpipngaaWMore
namespace Go.Proofs.Ytkgfkhhjpipngaa.Q
open Go.RowKit Go.Proofs.YtkgfkhhjpipngaaW.PrintWords Go.Proofs.YtkgfkhhjpipngaaW.PrintLast Go.Proofs.YtkgfkhhjpipngaaW.PrintMore

theorem wraps_i64 (n : Int) (h0 : 0 ≤ n) (h1 : n < 2 ^ 62) : IntKind.i64.wrap n = n := by
  rw [IntKind.wrap_i64]; omega
theorem and_nat (a b : Nat) (ha : a < 2 ^ 62) (hb : b < 2 ^ 62) : Go.bits .and .i64 (a : Int) (b : Int) = ((a &&& b : Nat) : Int) :=
  (bits_nat .i64 62 (by decide) wraps_i64 a b ha hb).1
theorem or_nat (a b : Nat) (ha : a < 2 ^ 62) (hb : b < 2 ^ 62) : Go.bits .or .i64 (a : Int) (b : Int) = ((a ||| b : Nat) : Int) :=
  (bits_nat .i64 62 (by decide) wraps_i64 a b ha hb).2
theorem xor_nat' (k : IntKind) (j : Nat) (hj : j ≤ k.bits) (hk : ∀ n : Int, 0 ≤ n → n < 2 ^ j → k.wrap n = n) (a b : Nat) (ha : a < 2 ^ j) (hb : b < 2 ^ j) :
    Go.bits .xor k a b = ((a ^^^ b : Nat) : Int) := by
  have hp : 2 ^ j ≤ 2 ^ k.bits := Nat.pow_le_pow_right (by decide) hj
  have ha' : a % 2 ^ k.bits = a := Nat.mod_eq_of_lt (Nat.lt_of_lt_of_le ha hp)
  have hb' : b % 2 ^ k.bits = b := Nat.mod_eq_of_lt (Nat.lt_of_lt_of_le hb hp)
  have cast : ∀ n : Nat, n < 2 ^ j → ((n : Nat) : Int) < 2 ^ j := fun n h => by exact_mod_cast h
  simp only [Go.bits, BitVec.ofInt_natCast, BitVec.toNat_xor, BitVec.toNat_ofNat, ha', hb']
  exact hk _ (Int.natCast_nonneg _) (cast _ (Nat.xor_lt_two_pow ha hb))
theorem xor_nat (a b : Nat) (ha : a < 2 ^ 62) (hb : b < 2 ^ 62) : Go.bits .xor .i64 (a : Int) (b : Int) = ((a ^^^ b : Nat) : Int) :=
  xor_nat' .i64 62 (by decide) wraps_i64 a b ha hb
/-- a &^ b. -/
theorem andNot_nat' (k : IntKind) (j : Nat) (hj : j ≤ k.bits) (hk : ∀ n : Int, 0 ≤ n → n < 2 ^ j → k.wrap n = n) (a b : Nat) (ha : a < 2 ^ j) (hb : b < 2 ^ j) :
    Go.bits .andNot k a b = ((a &&& (a ^^^ b) : Nat) : Int) := by
  have hp : 2 ^ j ≤ 2 ^ k.bits := Nat.pow_le_pow_right (by decide) hj
  have ha' : a % 2 ^ k.bits = a := Nat.mod_eq_of_lt (Nat.lt_of_lt_of_le ha hp)
  have hb' : b % 2 ^ k.bits = b := Nat.mod_eq_of_lt (Nat.lt_of_lt_of_le hb hp)
  have e : (BitVec.ofNat k.bits a &&& ~~~BitVec.ofNat k.bits b) = (BitVec.ofNat k.bits a &&& (BitVec.ofNat k.bits a ^^^ BitVec.ofNat k.bits b)) := by
    apply BitVec.eq_of_getLsbD_eq
    intro i hi
    simp only [BitVec.getLsbD_and, BitVec.getLsbD_not, BitVec.getLsbD_xor, hi, decide_true, Bool.true_and]
    cases (BitVec.ofNat k.bits a).getLsbD i <;> cases (BitVec.ofNat k.bits b).getLsbD i <;> rfl
  simp only [Go.bits, BitVec.ofInt_natCast]
  rw [e]
  simp only [BitVec.toNat_and, BitVec.toNat_xor, BitVec.toNat_ofNat, ha', hb']
  exact hk _ (Int.natCast_nonneg _) (by exact_mod_cast (Nat.and_lt_two_pow _ (Nat.xor_lt_two_pow ha hb)))
theorem andNot_nat (a b : Nat) (ha : a < 2 ^ 62) (hb : b < 2 ^ 62) : Go.bits .andNot .i64 (a : Int) (b : Int) = ((a &&& (a ^^^ b) : Nat) : Int) :=
  andNot_nat' .i64 62 (by decide) wraps_i64 a b ha hb
theorem testBit_shift (a n : Nat) : (a >>> n) &&& 1 = (a.testBit n).toNat := by
  rw [Nat.and_one_is_mod, Nat.shiftRight_eq_div_pow, Nat.testBit_eq_decide_div_mod_eq]
  rcases Nat.mod_two_eq_zero_or_one (a / 2 ^ n) with h | h <;> simp [h]
theorem shr_nat (a n : Nat) (hn : n ≤ 64) : shr .i64 (a : Int) (n : Int) = ((a >>> n : Nat) : Int) := by
  unfold shr
  have : min (n : Int).toNat IntKind.i64.bits = n := by simp [IntKind.bits]; omega
  rw [this, Nat.shiftRight_eq_div_pow]
  simp
theorem shl_nat (a n : Nat) (hn : n ≤ 60) (h : a * 2 ^ n < 2 ^ 62) : shl .i64 (a : Int) (n : Int) = ((a <<< n : Nat) : Int) := by
  unfold shl
  have : min (n : Int).toNat IntKind.i64.bits = n := by simp [IntKind.bits]; omega
  rw [this, Nat.shiftLeft_eq]
  have e : ((a : Int) * 2 ^ n) = ((a * 2 ^ n : Nat) : Int) := by simp
  rw [e]
  exact wraps_i64 _ (Int.natCast_nonneg _) (by exact_mod_cast h)
theorem shl_one (n : Nat) (hn : n ≤ 60) : shl .i64 1 (n : Int) = ((2 ^ n : Nat) : Int) := by
  have h : (1 : Nat) * 2 ^ n < 2 ^ 62 := by
    have := Nat.pow_le_pow_right (n := 2) (by decide) hn
    omega
  have := shl_nat 1 n hn h
  rw [Nat.shiftLeft_eq, Nat.one_mul] at this
  exact this
/-- A bit of a set, as the program asks for it. -/
theorem bit_nat (a n : Nat) (ha : a < 2 ^ 62) (hn : n ≤ 64) : Go.bits .and .i64 (shr .i64 (a : Int) (n : Int)) 1 = (((a.testBit n).toNat : Nat) : Int) := by
  rw [shr_nat a n hn, ← testBit_shift]
  exact and_nat (a >>> n) 1 (Nat.lt_of_le_of_lt (Nat.shiftRight_le a n) ha) (by decide)
theorem toNat_one (b : Bool) : (((b.toNat : Nat) : Int) = 1) = (b = true) := by cases b <;> simp
theorem toNat_zero (b : Bool) : (((b.toNat : Nat) : Int) = 0) = (b = false) := by cases b <;> simp
theorem toNat_beq0 (b : Bool) : (((b.toNat : Nat) : Int) == 0) = !b := by cases b <;> rfl
theorem toNat_beq1 (b : Bool) : (((b.toNat : Nat) : Int) == 1) = b := by cases b <;> rfl
theorem wrap_add (a : Nat) (h : a < 2 ^ 62) : wrap64 ((a : Int) + 1) = ((a + 1 : Nat) : Int) := by unfold wrap64; omega
theorem wrap_nat (a : Nat) (h : a < 2 ^ 62) : wrap64 (a : Int) = (a : Int) := by unfold wrap64; omega
theorem wrap_int (a : Int) (h : -2 ^ 62 ≤ a) (h1 : a < 2 ^ 62) : wrap64 a = a := by unfold wrap64; omega
theorem rd_nat (xs : List Nat) (i : Nat) : rd (xs.map (fun x : Nat => (x : Int))) (i : Int) = ((xs.getD i 0 : Nat) : Int) := by
  unfold rd
  simp [List.getD_eq_getElem?_getD, List.getElem?_map]
  cases xs[i]? <;> rfl
theorem set_nat (xs : List Nat) (i x : Nat) : (xs.map (fun x : Nat => (x : Int))).set ((i : Int)).toNat (x : Int) = (xs.set i x).map (fun x : Nat => (x : Int)) := by
  rw [Int.toNat_natCast, List.map_set]

theorem lt62 {a : Nat} (h : a < 32) : a < 2 ^ 62 := Nat.lt_trans h (by decide)
/-- Downwards to a state: what holds at the end and goes one step back holds from everywhere. -/
theorem down {P : Nat → Prop} (n : Nat) (hn : P n) (hs : ∀ i, i < n → P (i + 1) → P i) : ∀ i, i ≤ n → P i := by
  have key : ∀ d i, i + d = n → P i := by
    intro d
    induction d with
    | zero => intro i h; have : i = n := by omega
              subst this; exact hn
    | succ d ih => intro i h; exact hs i (by omega) (ih (i + 1) (by omega))
  intro i hi
  exact key (n - i) i (by omega)
theorem Ev.some_ {α : Type} {g : Nat → Option α} {r : α} (h : ∀ k, g k = some r) : Ev g r := ⟨0, fun k _ => h k⟩
theorem Ev.eq_ {α : Type} {g : Nat → Option α} {r r' : α} (h : Ev g r) (e : r = r') : Ev g r' := e ▸ h
theorem Ev.uniq {α : Type} {g : Nat → Option α} {r r' : α} (h : Ev g r) (h' : Ev g r') : r = r' := by
  obtain ⟨K, h⟩ := h
  obtain ⟨K', h'⟩ := h'
  have a := h (max K K') (by omega)
  have b := h' (max K K') (by omega)
  rw [a] at b
  exact Option.some.inj b
end Go.Proofs.Ytkgfkhhjpipngaa.Q
