/- For each Go function named below: a plain Lean function of the same name, and the proof that a call of the Go function returns just what the plain function tells, where it tells something. Written by a program of this session with the printer of the kit. -/
import Derived.Test.YtapdleaemdlgnaaGreatDoorVG0
namespace Go.Proofs.YtapdleaemdlgnaaGreatDoor.G
open Go.RowKit Go.Proofs.YtapdleaemdlgnaaGreatDoorW.PrintWords Go.Proofs.YtapdleaemdlgnaaGreatDoorW.PrintLast Go.Proofs.YtapdleaemdlgnaaGreatDoorW.PrintMore
attribute [local go_sem] max2_int min2_int max_two min_two max_three min_three max_four min_four   -- for this text's walks alone
set_option linter.unusedVariables false
set_option linter.unusedSimpArgs false

/-! ### strings_Split: function 26 -/
def laysCut_ren : Go.Shelf.Ren := ⟨fun | 145 => 49 | 220 => 77 | 219 => 137 | 217 => 181 | 225 => 182 | 224 => 183 | 267 => 184 | 266 => 208 | 314 => 209 | n => n, fun | 9 => 9 | 4 => 4 | 59 => 71 | 3 => 3 | 5 => 5 | 46 => 65 | 146 => 140 | 51 => 95 | n => n, fun | 1 => 0 | n => n⟩
theorem laysCut : Go.Proofs.Lays.n145 Tryz.prog laysCut_ren where
 mixed := by kernel_rfl
 f145 := Tryz.func49.trans (congrArg some (by kernel_rfl))
 f217 := Tryz.func181.trans (congrArg some (by kernel_rfl))
 f219 := Tryz.func137.trans (congrArg some (by kernel_rfl))
 f220 := Tryz.func77.trans (congrArg some (by kernel_rfl))
 f224 := Tryz.func183.trans (congrArg some (by kernel_rfl))
 f225 := Tryz.func182.trans (congrArg some (by kernel_rfl))
 f266 := Tryz.func208.trans (congrArg some (by kernel_rfl))
 f267 := Tryz.func184.trans (congrArg some (by kernel_rfl))
 f314 := Tryz.func209.trans (congrArg some (by kernel_rfl))
 t3 := Tryz.underlying3
 a3 := Tryz.isAgg3
 z3 := Tryz.sizeOf3
 v3 := Tryz.zeroValue3
 t4 := Tryz.underlying4
 a4 := Tryz.isAgg4
 z4 := Tryz.sizeOf4
 v4 := Tryz.zeroValue4
 t5 := Tryz.underlying5
 a5 := Tryz.isAgg5
 z5 := Tryz.sizeOf5
 v5 := Tryz.zeroValue5
 t9 := Tryz.underlying9
 a9 := Tryz.isAgg9
 z9 := Tryz.sizeOf9
 v9 := Tryz.zeroValue9
 t46 := Tryz.underlying65
 a46 := Tryz.isAgg65
 z46 := Tryz.sizeOf65
 v46 := Tryz.zeroValue65
 t51 := Tryz.underlying95
 a51 := Tryz.isAgg95
 z51 := Tryz.sizeOf95
 v51 := Tryz.zeroValue95
 t59 := Tryz.underlying71
 a59 := Tryz.isAgg71
 z59 := Tryz.sizeOf71
 v59 := Tryz.zeroValue71
 t146 := Tryz.underlying140
 a146 := Tryz.isAgg140
 z146 := Tryz.sizeOf140
 v146 := Tryz.zeroValue140
 g1 := by kernel_rfl
def laysSplit_ren : Go.Shelf.Ren := ⟨fun | 146 => 26 | 221 => 47 | 268 => 73 | 138 => 74 | 143 => 75 | 195 => 134 | 197 => 135 | 218 => 136 | 219 => 137 | 260 => 180 | 217 => 181 | 225 => 182 | 224 => 183 | 267 => 184 | 266 => 208 | 314 => 209 | n => n, fun | 9 => 9 | 31 => 50 | 3 => 3 | 4 => 4 | 0 => 0 | 105 => 114 | 21 => 21 | 5 => 5 | 46 => 65 | 119 => 136 | 139 => 139 | 138 => 138 | 146 => 140 | 51 => 95 | n => n, fun | 1 => 0 | 3 => 2 | 4 => 3 | n => n⟩
theorem laysSplit : Go.Proofs.Lays.n146 Tryz.prog laysSplit_ren where
 mixed := by kernel_rfl
 f138 := Tryz.func74.trans (congrArg some (by kernel_rfl))
 f143 := Tryz.func75.trans (congrArg some (by kernel_rfl))
 f146 := Tryz.func26.trans (congrArg some (by kernel_rfl))
 f195 := Tryz.func134.trans (congrArg some (by kernel_rfl))
 f197 := Tryz.func135.trans (congrArg some (by kernel_rfl))
 f217 := Tryz.func181.trans (congrArg some (by kernel_rfl))
 f218 := Tryz.func136.trans (congrArg some (by kernel_rfl))
 f219 := Tryz.func137.trans (congrArg some (by kernel_rfl))
 f221 := Tryz.func47.trans (congrArg some (by kernel_rfl))
 f224 := Tryz.func183.trans (congrArg some (by kernel_rfl))
 f225 := Tryz.func182.trans (congrArg some (by kernel_rfl))
 f260 := Tryz.func180.trans (congrArg some (by kernel_rfl))
 f266 := Tryz.func208.trans (congrArg some (by kernel_rfl))
 f267 := Tryz.func184.trans (congrArg some (by kernel_rfl))
 f268 := Tryz.func73.trans (congrArg some (by kernel_rfl))
 f314 := Tryz.func209.trans (congrArg some (by kernel_rfl))
 t0 := Tryz.underlying0
 a0 := Tryz.isAgg0
 z0 := Tryz.sizeOf0
 v0 := Tryz.zeroValue0
 t3 := Tryz.underlying3
 a3 := Tryz.isAgg3
 z3 := Tryz.sizeOf3
 v3 := Tryz.zeroValue3
 t4 := Tryz.underlying4
 a4 := Tryz.isAgg4
 z4 := Tryz.sizeOf4
 v4 := Tryz.zeroValue4
 t5 := Tryz.underlying5
 a5 := Tryz.isAgg5
 z5 := Tryz.sizeOf5
 v5 := Tryz.zeroValue5
 t9 := Tryz.underlying9
 a9 := Tryz.isAgg9
 z9 := Tryz.sizeOf9
 v9 := Tryz.zeroValue9
 t21 := Tryz.underlying21
 a21 := Tryz.isAgg21
 z21 := Tryz.sizeOf21
 v21 := Tryz.zeroValue21
 t31 := Tryz.underlying50
 a31 := Tryz.isAgg50
 z31 := Tryz.sizeOf50
 v31 := Tryz.zeroValue50
 t46 := Tryz.underlying65
 a46 := Tryz.isAgg65
 z46 := Tryz.sizeOf65
 v46 := Tryz.zeroValue65
 t51 := Tryz.underlying95
 a51 := Tryz.isAgg95
 z51 := Tryz.sizeOf95
 v51 := Tryz.zeroValue95
 t105 := Tryz.underlying114
 a105 := Tryz.isAgg114
 z105 := Tryz.sizeOf114
 v105 := Tryz.zeroValue114
 t119 := Tryz.underlying136
 a119 := Tryz.isAgg136
 z119 := Tryz.sizeOf136
 t138 := Tryz.underlying138
 a138 := Tryz.isAgg138
 z138 := Tryz.sizeOf138
 v138 := Tryz.zeroValue138
 t139 := Tryz.underlying139
 a139 := Tryz.isAgg139
 z139 := Tryz.sizeOf139
 v139 := Tryz.zeroValue139
 t146 := Tryz.underlying140
 a146 := Tryz.isAgg140
 z146 := Tryz.sizeOf140
 v146 := Tryz.zeroValue140
 g1 := by kernel_rfl
 g3 := by kernel_rfl
 g4 := by kernel_rfl
def laysItoa_ren : Go.Shelf.Ren := ⟨fun | 171 => 29 | 243 => 59 | 246 => 113 | 283 => 154 | 284 => 155 | 285 => 156 | 286 => 157 | 129 => 194 | 317 => 193 | 318 => 195 | 319 => 196 | 320 => 197 | 337 => 215 | 338 => 216 | n => n, fun | 3 => 3 | 9 => 9 | 2 => 2 | 4 => 4 | 171 => 121 | 0 => 0 | 53 => 97 | 37 => 22 | 5 => 5 | 173 => 123 | 212 => 134 | 51 => 95 | 20 => 20 | 213 => 135 | 46 => 65 | 232 => 148 | 233 => 149 | n => n, fun | 17 => 1 | 18 => 4 | 19 => 5 | n => n⟩
theorem laysItoa : Go.Proofs.LaysM.n171 Tryz.prog laysItoa_ren where
 mixed := by kernel_rfl
 f129 := Tryz.func194.trans (congrArg some (by kernel_rfl))
 f171 := Tryz.func29.trans (congrArg some (by kernel_rfl))
 f243 := Tryz.func59.trans (congrArg some (by kernel_rfl))
 f246 := Tryz.func113.trans (congrArg some (by kernel_rfl))
 f283 := Tryz.func154.trans (congrArg some (by kernel_rfl))
 f284 := Tryz.func155.trans (congrArg some (by kernel_rfl))
 f285 := Tryz.func156.trans (congrArg some (by kernel_rfl))
 f286 := Tryz.func157.trans (congrArg some (by kernel_rfl))
 f317 := Tryz.func193.trans (congrArg some (by kernel_rfl))
 f318 := Tryz.func195.trans (congrArg some (by kernel_rfl))
 f319 := Tryz.func196.trans (congrArg some (by kernel_rfl))
 f320 := Tryz.func197.trans (congrArg some (by kernel_rfl))
 f337 := Tryz.func215.trans (congrArg some (by kernel_rfl))
 f338 := Tryz.func216.trans (congrArg some (by kernel_rfl))
 t0 := Tryz.underlying0
 a0 := Tryz.isAgg0
 z0 := Tryz.sizeOf0
 v0 := Tryz.zeroValue0
 t2 := Tryz.underlying2
 a2 := Tryz.isAgg2
 z2 := Tryz.sizeOf2
 v2 := Tryz.zeroValue2
 t3 := Tryz.underlying3
 a3 := Tryz.isAgg3
 z3 := Tryz.sizeOf3
 v3 := Tryz.zeroValue3
 t4 := Tryz.underlying4
 a4 := Tryz.isAgg4
 z4 := Tryz.sizeOf4
 v4 := Tryz.zeroValue4
 t5 := Tryz.underlying5
 a5 := Tryz.isAgg5
 z5 := Tryz.sizeOf5
 v5 := Tryz.zeroValue5
 t9 := Tryz.underlying9
 a9 := Tryz.isAgg9
 z9 := Tryz.sizeOf9
 v9 := Tryz.zeroValue9
 t20 := Tryz.underlying20
 a20 := Tryz.isAgg20
 z20 := Tryz.sizeOf20
 v20 := Tryz.zeroValue20
 t37 := Tryz.underlying22
 a37 := Tryz.isAgg22
 z37 := Tryz.sizeOf22
 v37 := Tryz.zeroValue22
 t46 := Tryz.underlying65
 a46 := Tryz.isAgg65
 z46 := Tryz.sizeOf65
 v46 := Tryz.zeroValue65
 t51 := Tryz.underlying95
 a51 := Tryz.isAgg95
 z51 := Tryz.sizeOf95
 v51 := Tryz.zeroValue95
 t53 := Tryz.underlying97
 a53 := Tryz.isAgg97
 z53 := Tryz.sizeOf97
 v53 := Tryz.zeroValue97
 t171 := Tryz.underlying121
 a171 := Tryz.isAgg121
 z171 := Tryz.sizeOf121
 v171 := Tryz.zeroValue121
 t173 := Tryz.underlying123
 a173 := Tryz.isAgg123
 z173 := Tryz.sizeOf123
 v173 := Tryz.zeroValue123
 t212 := Tryz.underlying134
 a212 := Tryz.isAgg134
 z212 := Tryz.sizeOf134
 v212 := Tryz.zeroValue134
 t213 := Tryz.underlying135
 a213 := Tryz.isAgg135
 z213 := Tryz.sizeOf135
 t232 := Tryz.underlying148
 a232 := Tryz.isAgg148
 z232 := Tryz.sizeOf148
 v232 := Tryz.zeroValue148
 t233 := Tryz.underlying149
 a233 := Tryz.isAgg149
 z233 := Tryz.sizeOf149
 v233 := Tryz.zeroValue149
 g17 := by kernel_rfl
 g18 := by kernel_rfl
 g19 := by kernel_rfl
 i0 := by kernel_rfl
 i2 := by kernel_rfl
 i3 := by kernel_rfl
 i4 := by kernel_rfl
 i5 := by kernel_rfl
 i9 := by kernel_rfl
 i20 := by kernel_rfl
 i37 := by kernel_rfl
 i46 := by kernel_rfl
 i51 := by kernel_rfl
 i53 := by kernel_rfl
 i171 := by kernel_rfl
 i173 := by kernel_rfl
 i212 := by kernel_rfl
 i232 := by kernel_rfl
 i233 := by kernel_rfl
 m17 := by kernel_rfl
 m18 := by kernel_rfl
 m19 := by kernel_rfl
def laysWrite_ren : Go.Shelf.Ren := ⟨fun | 145 => 49 | 220 => 77 | 219 => 137 | 217 => 181 | 225 => 182 | 224 => 183 | 267 => 184 | 266 => 208 | 314 => 209 | 146 => 26 | 221 => 47 | 268 => 73 | 138 => 74 | 143 => 75 | 195 => 134 | 197 => 135 | 218 => 136 | 260 => 180 | 171 => 29 | 243 => 59 | 246 => 113 | 283 => 154 | 284 => 155 | 285 => 156 | 286 => 157 | 129 => 194 | 317 => 193 | 318 => 195 | 319 => 196 | 320 => 197 | 337 => 215 | 338 => 216 | 169 => 30 | 166 => 27 | 240 => 48 | 276 => 76 | n => n, fun | 9 => 9 | 4 => 4 | 59 => 71 | 3 => 3 | 5 => 5 | 46 => 65 | 146 => 140 | 51 => 95 | 31 => 50 | 0 => 0 | 105 => 114 | 21 => 21 | 119 => 136 | 139 => 139 | 138 => 138 | 2 => 2 | 171 => 121 | 53 => 97 | 37 => 22 | 173 => 123 | 212 => 134 | 20 => 20 | 213 => 135 | 232 => 148 | 233 => 149 | 70 => 47 | 72 => 49 | 127 => 79 | 75 => 53 | 80 => 56 | 164 => 100 | 76 => 54 | n => n, fun  n => n⟩
theorem laysWrite : Go.Proofs.Lays.n166 Tryz.prog laysWrite_ren where
 mixed := by kernel_rfl
 f166 := Tryz.func27.trans (congrArg some (by kernel_rfl))
 f240 := Tryz.func48.trans (congrArg some (by kernel_rfl))
 f276 := Tryz.func76.trans (congrArg some (by kernel_rfl))
 t0 := Tryz.underlying0
 a0 := Tryz.isAgg0
 z0 := Tryz.sizeOf0
 v0 := Tryz.zeroValue0
 t3 := Tryz.underlying3
 a3 := Tryz.isAgg3
 z3 := Tryz.sizeOf3
 v3 := Tryz.zeroValue3
 t4 := Tryz.underlying4
 a4 := Tryz.isAgg4
 z4 := Tryz.sizeOf4
 v4 := Tryz.zeroValue4
 t9 := Tryz.underlying9
 a9 := Tryz.isAgg9
 z9 := Tryz.sizeOf9
 v9 := Tryz.zeroValue9
 t20 := Tryz.underlying20
 a20 := Tryz.isAgg20
 z20 := Tryz.sizeOf20
 v20 := Tryz.zeroValue20
 t37 := Tryz.underlying22
 a37 := Tryz.isAgg22
 z37 := Tryz.sizeOf22
 v37 := Tryz.zeroValue22
 t70 := Tryz.underlying47
 a70 := Tryz.isAgg47
 z70 := Tryz.sizeOf47
 v70 := Tryz.zeroValue47
 t72 := Tryz.underlying49
 a72 := Tryz.isAgg49
 z72 := Tryz.sizeOf49
 v72 := Tryz.zeroValue49
 t75 := Tryz.underlying53
 a75 := Tryz.isAgg53
 z75 := Tryz.sizeOf53
 v75 := Tryz.zeroValue53
 t164 := Tryz.underlying100
 a164 := Tryz.isAgg100
 z164 := Tryz.sizeOf100
 v164 := Tryz.zeroValue100
def laysString_ren : Go.Shelf.Ren := ⟨fun | 169 => 30 | n => n, fun | 70 => 47 | 9 => 9 | 0 => 0 | 72 => 49 | 37 => 22 | 127 => 79 | 3 => 3 | 5 => 5 | n => n, fun  n => n⟩
theorem laysString : Go.Proofs.Lays.n169 Tryz.prog laysString_ren where
 mixed := by kernel_rfl
 f169 := Tryz.func30.trans (congrArg some (by kernel_rfl))
 t0 := Tryz.underlying0
 a0 := Tryz.isAgg0
 z0 := Tryz.sizeOf0
 v0 := Tryz.zeroValue0
 t3 := Tryz.underlying3
 a3 := Tryz.isAgg3
 z3 := Tryz.sizeOf3
 v3 := Tryz.zeroValue3
 t9 := Tryz.underlying9
 a9 := Tryz.isAgg9
 z9 := Tryz.sizeOf9
 v9 := Tryz.zeroValue9
 t37 := Tryz.underlying22
 a37 := Tryz.isAgg22
 z37 := Tryz.sizeOf22
 v37 := Tryz.zeroValue22
 t70 := Tryz.underlying47
 a70 := Tryz.isAgg47
 z70 := Tryz.sizeOf47
 v70 := Tryz.zeroValue47
 t72 := Tryz.underlying49
 a72 := Tryz.isAgg49
 z72 := Tryz.sizeOf49
 v72 := Tryz.zeroValue49
 t127 := Tryz.underlying79
 a127 := Tryz.isAgg79
 z127 := Tryz.sizeOf79
 v127 := Tryz.zeroValue79

/-- The contract of strings.Split at a separator of one byte. -/
def strings_Split.f (s sep : ByteArray) : Option (List ByteArray) := if s.size < 4294967281 ∧ sep.size = 1 then some (Go.Lib.splitB sep 0 (Go.Lib.countB s sep) s) else none
theorem strings_Split.calls (s sep : ByteArray) (r : List ByteArray) (w : World) (h : strings_Split.f s sep = some r) :
  Calls Tryz.prog 26 #[.string s, .string sep] w fun e w' => ∃ v0_ : Value, e = .returned (v0_) ∧ Kd.R Kd.string 9 w' w.heap.size (fun _ => True) v0_ r ∧ Below w.heap.size w w' := by
 unfold strings_Split.f at h
 by_cases hc : s.size < 4294967281 ∧ sep.size = 1
 ·rw [if_pos hc] at h
  obtain rfl := Option.some.inj h; obtain ⟨hs, h1⟩ := hc; obtain ⟨c, rfl⟩ := Go.Lib.one_byte sep h1; have hi9 : (Tryz.prog.info? (laysSplit_ren.t 9)).map (fun i => (i.zero, i.size, i.bytes)) = some (some (.string ByteArray.empty), 1, 16) := by kernel_rfl
  have hle := Go.Lib.countB_le (⟨#[c]⟩ : ByteArray) (Nat.le_refl _) s.size s (Nat.le_refl _); have hlen := Go.Lib.splitB_all (⟨#[c]⟩ : ByteArray) (Nat.le_refl _) 0 _ s rfl
  have hcount : ∀ (x : ByteArray) (w : World), Calls Tryz.prog (laysSplit_ren.f 138) #[.string x, .string ⟨#[c]⟩] w fun e w' => e = .returned (.int .i64 (Go.Lib.countB x ⟨#[c]⟩)) ∧ w' = w := fun x w => by
   refine (Any.strings_Count_one { laysSplit with } x c w).mono fun e w' ⟨he, hw⟩ => ⟨?_, hw⟩
   rw [he]
   show _ = Ending.returned (Value.int .i64 ((Go.Lib.count x.data.toList [c] : Nat) : Int))
   rw [Go.Lib.count_one]
   rfl
  have hindex : ∀ (x : ByteArray) (w : World), Calls Tryz.prog (laysSplit_ren.f 143) #[.string x, .string ⟨#[c]⟩] w fun e w' => e = .returned (.int .i64 (Go.Lib.indexB x ⟨#[c]⟩)) ∧ w' = w := fun x w => by
   refine (Any.strings_Index_one { laysSplit with } x c w).mono fun e w' ⟨he, hw⟩ => ⟨?_, hw⟩
   rw [he]
   show _ = Ending.returned (Value.int .i64 (Go.Lib.index x.data.toList [c]))
   rw [Go.Lib.index_one]
  have cg := Any.strings_genSplit_core { laysSplit with } hi9 s ⟨#[c]⟩ 0 (-1) (Go.Lib.countB s ⟨#[c]⟩ + 1) w hs (Nat.le_refl _) (Nat.zero_le _) (fun x _ _ => hindex x _) (hcount s w) (by decide) (by decide) (by rw [if_pos (by decide)]; omega)
  rw [Nat.add_sub_cancel, hlen] at cg
  have e2 : Go.Lib.cellsOf (Go.Lib.splitB ⟨#[c]⟩ 0 (Go.Lib.countB s ⟨#[c]⟩) s) (Go.Lib.countB s ⟨#[c]⟩ + 1) = ((Go.Lib.splitB ⟨#[c]⟩ 0 (Go.Lib.countB s ⟨#[c]⟩) s).map Value.string).toArray := by rw [← hlen]; exact Go.Lib.cellsOf_full _
  rw [e2] at cg
  generalize Go.Lib.splitB ⟨#[c]⟩ 0 (Go.Lib.countB s ⟨#[c]⟩) s = r at *
  rw [← hlen] at cg
  have CG := Aside0.mk cg; have HLE := Aside0.mk hle; have HLEN := Aside0.mk hlen; clear cg hle hlen hcount hindex hi9 e2
  go_enter Tryz.func26, Tryz.ntmps26
  go_wp2_with fail
  refine CG.out.mono ?_
  rintro e w' ⟨rfl, rfl⟩
  go_wp2
  go_ret
  refine ⟨_, rfl, Kd.R_of_own (enc := Value.string) (h1 := fun _ => rfl) ⟨by simp [encs], .inr ⟨w.heap.size, _, _, rfl, Nat.le_refl _, heap_alloc_new w _, Nat.le_refl _, by have := HLE.out; have := HLEN.out; unfold maxLen; omega, by simp, by have ht : List.take r.length (List.map Value.string r) = List.map Value.string r := List.take_of_length_le (by simp); simpa [encs] using ht⟩⟩ (fun _ _ => trivial), (Below.refl _ _).alloc (Nat.le_refl _) _⟩
 ·rw [if_neg hc] at h; cases h

end Go.Proofs.YtapdleaemdlgnaaGreatDoor.G
