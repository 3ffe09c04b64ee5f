/- For each Go function named below: a plain Lean function of the same name, and the proof that a call of the Go function returns just what the plain function tells, where it tells something. Written by a program of this session with the printer of the kit. -/
import Derived.Test.YtapdleaemdlgnaaGreatDoorVG0
import Derived.Test.YtapdleaemdlgnaaGreatDoorVG4
import Derived.Test.YtapdleaemdlgnaaGreatDoorVG10
namespace Go.Proofs.YtapdleaemdlgnaaGreatDoor.G
open Go.RowKit Go.Proofs.YtapdleaemdlgnaaGreatDoorW.PrintWords Go.Proofs.YtapdleaemdlgnaaGreatDoorW.PrintLast Go.Proofs.YtapdleaemdlgnaaGreatDoorW.PrintMore
attribute [local go_sem] max2_int min2_int max_two min_two max_three min_three max_four min_four   -- for this text's walks alone
set_option linter.unusedVariables false
set_option linter.unusedSimpArgs false

/-! ### strings_Cut: function 49 -/
-- behind strconv_Itoa.calls (its layings)
/-- The contract of strings.Cut at a separator of one byte. -/
def strings_Cut.f (s sep : ByteArray) : Option (ByteArray × ByteArray × Bool) := if s.size < 4294967281 ∧ sep.size = 1 then some (⟨(Go.Lib.cut s.data.toList sep.data.toList).1.toArray⟩, ⟨(Go.Lib.cut s.data.toList sep.data.toList).2.1.toArray⟩, (Go.Lib.cut s.data.toList sep.data.toList).2.2) else none
set_option maxHeartbeats 2000000 in
set_option maxRecDepth 100000 in
theorem strings_Cut.inner (s : ByteArray) (c : UInt8) (w : World) (hs : s.size < 4294967281) :
  Calls Tryz.prog 77 #[.string s, .string ⟨#[c]⟩] w fun e w' => e = .returned (.tuple #[.string ⟨(Go.Lib.cut s.data.toList [c]).1.toArray⟩, .string ⟨(Go.Lib.cut s.data.toList [c]).2.1.toArray⟩, .bool (Go.Lib.cut s.data.toList [c]).2.2]) ∧ Below w.heap.size w w' := by
 have hidx : ∀ w : World, Calls Tryz.prog 137 #[.string s, .string ⟨#[c]⟩] w fun e w' => e = .returned (.int .i64 (Go.Lib.indexB s ⟨#[c]⟩)) ∧ w' = w := fun w => by
  refine (Any.stringslite_Index_one { laysCut with } s c w).mono fun e w' ⟨he, hw⟩ => ⟨?_, hw⟩
  rw [he]
  show _ = Ending.returned (Value.int .i64 (Go.Lib.index s.data.toList [c]))
  rw [Go.Lib.index_one]
 have h1 : (⟨#[c]⟩ : ByteArray).size = 1 := rfl
 rcases Go.Lib.indexB_cases s ⟨#[c]⟩ with hix | ⟨i, hix, hroom⟩
 ·obtain ⟨e1, e2, e3⟩ := Go.Lib.cutB_miss s ⟨#[c]⟩ hix
  rw [hix] at hidx
  show Calls _ _ _ w fun e w' => e = .returned (.tuple #[.string ⟨(Go.Lib.cut s.data.toList (⟨#[c]⟩ : ByteArray).data.toList).1.toArray⟩, .string ⟨(Go.Lib.cut s.data.toList (⟨#[c]⟩ : ByteArray).data.toList).2.1.toArray⟩, .bool (Go.Lib.cut s.data.toList (⟨#[c]⟩ : ByteArray).data.toList).2.2]) ∧ _
  rw [e1, e2, e3]
  go_enter Tryz.func77, Tryz.ntmps77
  go_wp2_with (go_at_call 137; refine (hidx _).mono ?_; rintro e w' ⟨rfl, rfl⟩)
  go_ret3
  exact ⟨rfl, Below.refl _ _⟩
 ·obtain ⟨e1, e2, e3⟩ := Go.Lib.cutB_hit s ⟨#[c]⟩ i hix
  rw [hix] at hidx
  rw [h1] at hroom
  show Calls _ _ _ w fun e w' => e = .returned (.tuple #[.string ⟨(Go.Lib.cut s.data.toList (⟨#[c]⟩ : ByteArray).data.toList).1.toArray⟩, .string ⟨(Go.Lib.cut s.data.toList (⟨#[c]⟩ : ByteArray).data.toList).2.1.toArray⟩, .bool (Go.Lib.cut s.data.toList (⟨#[c]⟩ : ByteArray).data.toList).2.2]) ∧ _
  rw [e1, e2, e3]
  have c1 : (0 : Int) ≤ ↑i := by omega
  have c2 : (↑i : Int) ≤ ↑s.size := by omega
  have c3 : (0 : Int) ≤ ↑i + ↑(⟨#[c]⟩ : ByteArray).size := by omega
  have c4 : (↑i + ↑(⟨#[c]⟩ : ByteArray).size : Int) ≤ ↑s.size := by rw [h1]; omega
  go_enter Tryz.func77, Tryz.ntmps77
  go_wp2_with (go_at_call 137; refine (hidx _).mono ?_; rintro e w' ⟨rfl, rfl⟩)
  have mixed := laysCut.mixed
  go_region_o
  go_wp2
  go_ret3
  exact ⟨rfl, pw_below_drewN (Below.refl _ _) 1⟩
set_option maxRecDepth 100000 in
theorem strings_Cut.calls (s sep : ByteArray) (r1 r2 : ByteArray) (r3 : Bool) (w : World) (h : strings_Cut.f s sep = some (r1, r2, r3)) :
  Calls Tryz.prog 49 #[.string s, .string sep] w fun e w' => e = .returned (.tuple #[.string r1, .string r2, .bool r3]) ∧ Below w.heap.size w w' := by
 unfold strings_Cut.f at h
 by_cases hc : s.size < 4294967281 ∧ sep.size = 1
 ·rw [if_pos hc] at h
  have h := Option.some.inj h
  simp only [Prod.mk.injEq] at h
  obtain ⟨rfl, rfl, rfl⟩ := h; obtain ⟨hs, h1⟩ := hc; obtain ⟨c, rfl⟩ := Go.Lib.one_byte sep h1; have HI := Aside0.mk (strings_Cut.inner s c w hs)
  go_enter Tryz.func49, Tryz.ntmps49
  go_wp2_with (go_at_call 77; refine HI.out.mono ?_; rintro e w' ⟨rfl, hb⟩; have HB := Aside0.mk hb; clear hb)
  go_ret3
  exact ⟨rfl, HB.out⟩
 ·rw [if_neg hc] at h; cases h

/-! ### impl_count: function 35 -/
def impl_count.l0 : Nat → (Nat → Int → Option Bool) → Int → Int → Int → Option Int
 | 0, _, _, _, _ => none
 | k + 1, p, x5, x8, b => if x8 < b then ((p k x8).bind fun t => if t = true then impl_count.l0 k p (x5 + 1) (x8 + 1) b else impl_count.l0 k p x5 (x8 + 1) b) else some x5
def impl_count.f (k : Nat) (p : Nat → Int → Option Bool) (b : Int) : Option Int := if b ≤ 4294967296 then impl_count.l0 k p 0 0 b else none
set_option maxHeartbeats 8000000 in
set_option maxRecDepth 100000 in
theorem impl_count.calls (k : Nat) (p : Nat → Int → Option Bool) (F : FuncId) (fn : Func) (caps : Array Value) (b r : Int) (w : World)
  (hf : Tryz.prog.funcs[F]? = some fn) (hname : (fn.name == "runtime.NumGoroutine") = false) (hb : fn.body.isSome = true)
  (hp : ∀ (j : Nat) (x : Int) (t : Bool) (W : World), p j x = some t → 0 ≤ x → Below w.heap.size w W → Calls Tryz.prog F (#[.int .i64 x] ++ caps) W fun e w' => e = .returned (.bool t) ∧ Below W.heap.size W w')
  (h : impl_count.f k p b = some r) :
  Calls Tryz.prog 35 #[.int .i64 b, .func (.func F) #[] caps] w fun e w' => e = .returned (.int .i64 r) ∧ Below w.heap.size w w' := by
 unfold impl_count.f at h
 by_cases hbb : b ≤ 4294967296
 ·rw [if_pos hbb] at h
  have H' := Aside0.mk h; have HP := Aside0.mk hp; have HF := Aside0.mk hf; have HN := Aside0.mk hname; have HBD := Aside0.mk hb; clear h hp hf hname hb
  go_enter Tryz.func35, Tryz.ntmps35
  go_wp2
  go_loopg [5, 8] k (fun kq v5 v8 w' => ∃ (x5 : Int) (x8 : Int), v5 = .int .i64 x5 ∧ v8 = .int .i64 x8 ∧ 0 ≤ x5 ∧ x5 ≤ x8 ∧ x8 ≤ 4294967296 ∧ Aside0 (impl_count.l0 kq p x5 x8 b = some r) ∧ Aside0 (kq ≤ k) ∧ Aside0 (Below w.heap.size w w'))
  case atStart => exact ⟨0, 0, rfl, rfl, by omega, by omega, by omega, H', ⟨Nat.le_refl _⟩, ⟨Below.refl _ _⟩⟩
  case round =>
   clear H'; obtain ⟨x5, x8, rfl, rfl, hx0, hx1, hx2, HA, HK1, HB⟩ := hrel
   cases gk with
   | zero => exact absurd HA.out (by simp [impl_count.l0])
   | succ k1 =>
    have H := HA.out; clear HA
    simp only [impl_count.l0] at H
    by_cases c1 : x8 < b
    ·rw [if_pos c1] at H
     replace H := Option.bind_eq_some_iff.mp H; obtain ⟨t, A1, H⟩ := H; have A1' := Aside0.mk A1; clear A1
     cases t with
     | true =>
      have H1 : impl_count.l0 k1 p (x5 + 1) (x8 + 1) b = some r := by simpa using H
      have H' := Aside0.mk H1; clear H H1
      go_wp2_with fail
      rw [enters_ HF.out HN.out HBD.out, Oper.upon_enter]
      refine (HP.out k1 x8 true _ A1'.out (by omega) HB.out).mono ?_
      rintro e w1 ⟨rfl, hb1⟩
      have HB1 := Aside0.mk (below_step HB.out hb1); clear HB hb1
      go_wp2_with fail
      go_roundg k1
      case measure => have := HK1.out; omega
      case rel => exact ⟨x5 + 1, x8 + 1, rfl, rfl, by omega, by omega, by omega, H', ⟨by have := HK1.out; omega⟩, HB1⟩
     | false =>
      have H1 : impl_count.l0 k1 p x5 (x8 + 1) b = some r := by simpa using H
      have H' := Aside0.mk H1; clear H H1
      go_wp2_with fail
      rw [enters_ HF.out HN.out HBD.out, Oper.upon_enter]
      refine (HP.out k1 x8 false _ A1'.out (by omega) HB.out).mono ?_
      rintro e w1 ⟨rfl, hb1⟩
      have HB1 := Aside0.mk (below_step HB.out hb1); clear HB hb1
      go_wp2_with fail
      go_roundg k1
      case measure => have := HK1.out; omega
      case rel => exact ⟨x5, x8 + 1, rfl, rfl, by omega, by omega, by omega, H', ⟨by have := HK1.out; omega⟩, HB1⟩
    ·rw [if_neg c1] at H
     obtain rfl := Option.some.inj H; clear H
     go_wp2
     go_ret
     exact ⟨rfl, HB.out⟩
 ·rw [if_neg hbb] at h
  exact absurd h (by simp)

end Go.Proofs.YtapdleaemdlgnaaGreatDoor.G
