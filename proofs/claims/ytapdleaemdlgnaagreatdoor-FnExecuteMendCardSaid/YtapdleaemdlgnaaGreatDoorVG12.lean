/- For each Go function named below: a plain Lean function of the same name, and the proof that a call of the Go function returns just what the plain function tells, where it tells something. Written by a program of this session with the printer of the kit. -/
import Derived.Test.YtapdleaemdlgnaaGreatDoorVG0
namespace Go.Proofs.YtapdleaemdlgnaaGreatDoor.G
open Go.RowKit Go.Proofs.YtapdleaemdlgnaaGreatDoorW.PrintWords Go.Proofs.YtapdleaemdlgnaaGreatDoorW.PrintLast Go.Proofs.YtapdleaemdlgnaaGreatDoorW.PrintMore
attribute [local go_sem] max2_int min2_int max_two min_two max_three min_three max_four min_four   -- for this text's walks alone
set_option linter.unusedVariables false
set_option linter.unusedSimpArgs false

/-! ### strings_Join: function 139 -/
/-- The contract of strings.Join, of one text alone. -/
def strings_Join.f (xs : List ByteArray) (sep : ByteArray) : Option ByteArray := match xs with | [x] => some x | _ => none
theorem strings_Join.calls (A0 : Option Addr) (c0 : Nat) (l0 : List ByteArray) (a1 : ByteArray) (r : ByteArray) (w : World) (hr0 : Kd.C Kd.string w A0 l0.length l0) (hc0 : l0.length ≤ c0) (h : strings_Join.f l0 a1 = some r) :
  Calls Tryz.prog 139 #[.slice A0 l0.length c0, .string a1] w fun e w' => e = .returned (.string r) ∧ Below w.heap.size w w' := by
 unfold strings_Join.f at h
 split at h
 ·rename_i x
  obtain rfl := Option.some.inj h; have hR := Kd.reads_of_C (d := ByteArray.empty) (h1 := fun _ => rfl) hr0; obtain ⟨ad, rfl, hcell⟩ := hR.2.2 (by simp); have h0 : w.cell? ad = some (.string x) := by simpa [Addr.add] using hcell 0 (by simp)
  show Calls _ _ #[.slice (some ad) 1 c0, .string a1] w _
  clear hcell hR hr0 hc0
  go_enter Tryz.func139, Tryz.ntmps139
  go_wp2
  go_ret
  exact ⟨rfl, Below.refl _ _⟩
 ·cases h

end Go.Proofs.YtapdleaemdlgnaaGreatDoor.G
