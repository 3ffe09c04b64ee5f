/- For each Go function named below: a plain Lean function of the same name, and the proof that a call of the Go function returns just what the plain function tells, where it tells something. Written by a program of this session with the printer of the kit. -/
import Derived.Test.YtkgfkhhjpipngaaG0
namespace Go.Proofs.Ytkgfkhhjpipngaa.G
open Go.RowKit Go.Proofs.YtkgfkhhjpipngaaW.PrintWords Go.Proofs.YtkgfkhhjpipngaaW.PrintLast Go.Proofs.YtkgfkhhjpipngaaW.PrintMore
attribute [local go_sem] max2_int min2_int max_two min_two max_three min_three max_four min_four   -- for this text's walks alone
set_option linter.unusedVariables false
set_option linter.unusedSimpArgs false

/-! ### impl_distinct: function 119 -/
def laysSort_ren : Go.Shelf.Ren := ⟨fun | 189 => 128 | 125 => 132 | 257 => 131 | 128 => 142 | 129 => 143 | 294 => 133 | 295 => 134 | 296 => 135 | 297 => 136 | 298 => 137 | 299 => 138 | 216 => 139 | 300 => 140 | 301 => 141 | 328 => 144 | 329 => 145 | 330 => 146 | 331 => 147 | 332 => 148 | 215 => 149 | 343 => 150 | n => n, fun | 28 => 31 | 3 => 3 | 46 => 91 | 0 => 0 | 51 => 106 | 53 => 108 | 4 => 4 | 183 => 113 | 182 => 112 | 131 => 28 | 5 => 5 | 9 => 9 | 218 => 119 | 222 => 123 | 228 => 125 | 229 => 92 | n => n, fun n => n⟩
theorem laysSort : Go.Proofs.Lays.n189 Try.prog laysSort_ren where
 mixed := by kernel_rfl
 f125 := Try.func132.trans (congrArg some (by kernel_rfl))
 f128 := Try.func142.trans (congrArg some (by kernel_rfl))
 f129 := Try.func143.trans (congrArg some (by kernel_rfl))
 f189 := Try.func128.trans (congrArg some (by kernel_rfl))
 f215 := Try.func149.trans (congrArg some (by kernel_rfl))
 f216 := Try.func139.trans (congrArg some (by kernel_rfl))
 f257 := Try.func131.trans (congrArg some (by kernel_rfl))
 f294 := Try.func133.trans (congrArg some (by kernel_rfl))
 f295 := Try.func134.trans (congrArg some (by kernel_rfl))
 f296 := Try.func135.trans (congrArg some (by kernel_rfl))
 f297 := Try.func136.trans (congrArg some (by kernel_rfl))
 f298 := Try.func137.trans (congrArg some (by kernel_rfl))
 f299 := Try.func138.trans (congrArg some (by kernel_rfl))
 f300 := Try.func140.trans (congrArg some (by kernel_rfl))
 f301 := Try.func141.trans (congrArg some (by kernel_rfl))
 f328 := Try.func144.trans (congrArg some (by kernel_rfl))
 f329 := Try.func145.trans (congrArg some (by kernel_rfl))
 f330 := Try.func146.trans (congrArg some (by kernel_rfl))
 f331 := Try.func147.trans (congrArg some (by kernel_rfl))
 f332 := Try.func148.trans (congrArg some (by kernel_rfl))
 f343 := Try.func150.trans (congrArg some (by kernel_rfl))
 t0 := Try.underlying0
 a0 := Try.isAgg0
 z0 := Try.sizeOf0
 v0 := Try.zeroValue0
 t3 := Try.underlying3
 a3 := Try.isAgg3
 z3 := Try.sizeOf3
 v3 := Try.zeroValue3
 t4 := Try.underlying4
 a4 := Try.isAgg4
 z4 := Try.sizeOf4
 v4 := Try.zeroValue4
 t5 := Try.underlying5
 a5 := Try.isAgg5
 z5 := Try.sizeOf5
 v5 := Try.zeroValue5
 t9 := Try.underlying9
 a9 := Try.isAgg9
 z9 := Try.sizeOf9
 v9 := Try.zeroValue9
 t28 := Try.underlying31
 a28 := Try.isAgg31
 z28 := Try.sizeOf31
 v28 := Try.zeroValue31
 t46 := Try.underlying91
 a46 := Try.isAgg91
 z46 := Try.sizeOf91
 v46 := Try.zeroValue91
 t51 := Try.underlying106
 a51 := Try.isAgg106
 z51 := Try.sizeOf106
 v51 := Try.zeroValue106
 t53 := Try.underlying108
 a53 := Try.isAgg108
 z53 := Try.sizeOf108
 v53 := Try.zeroValue108
 t131 := Try.underlying28
 a131 := Try.isAgg28
 z131 := Try.sizeOf28
 v131 := Try.zeroValue28
 t182 := Try.underlying112
 a182 := Try.isAgg112
 z182 := Try.sizeOf112
 v182 := Try.zeroValue112
 t183 := Try.underlying113
 a183 := Try.isAgg113
 z183 := Try.sizeOf113
 v183 := Try.zeroValue113
 t218 := Try.underlying119
 a218 := Try.isAgg119
 z218 := Try.sizeOf119
 v218 := Try.zeroValue119
 t222 := Try.underlying123
 a222 := Try.isAgg123
 z222 := Try.sizeOf123
 v222 := Try.zeroValue123
 t228 := Try.underlying125
 a228 := Try.isAgg125
 z228 := Try.sizeOf125
 v228 := Try.zeroValue125
 t229 := Try.underlying92
 a229 := Try.isAgg92
 z229 := Try.sizeOf92
 v229 := Try.zeroValue92
def laysCompact_ren : Go.Shelf.Ren := ⟨fun | 20 => 130 | n => n, fun | 22 => 31 | 3 => 3 | 4 => 4 | 0 => 0 | n => n, fun n => n⟩
theorem laysCompact : Go.Proofs.Lays2.n20 Try.prog laysCompact_ren where
 mixed := by kernel_rfl
 f20 := Try.func130.trans (congrArg some (by kernel_rfl))
 t0 := Try.underlying0
 a0 := Try.isAgg0
 z0 := Try.sizeOf0
 v0 := Try.zeroValue0
 t3 := Try.underlying3
 a3 := Try.isAgg3
 z3 := Try.sizeOf3
 v3 := Try.zeroValue3
 t4 := Try.underlying4
 a4 := Try.isAgg4
 z4 := Try.sizeOf4
 v4 := Try.zeroValue4
 t22 := Try.underlying31
 a22 := Try.isAgg31
 z22 := Try.sizeOf31
 v22 := Try.zeroValue31
 i3 := by kernel_rfl
def impl_distinct.f (_k : Nat) (l : List Int) : Option (List Int) := if l.length < 17592186044416 then some (Go.Lib.compact (l.mergeSort fun x y => decide (x ≤ y))) else none
theorem impl_distinct.mono : ∀ a0 k, LeO (impl_distinct.f k a0) (impl_distinct.f (k + 1) a0) := fun _ _ => LeO.refl _
theorem clip_calls (ad : Option Addr) (m c : Nat) (w : World) (hc : m ≤ c) : Calls Try.prog 129 #[.slice ad m c] w fun e w' => e = .returned (.slice ad m m) ∧ w' = w := by
 have hu := Try.underlying31
 go_enter Try.func129, Try.ntmps129
 go_wp2
 go_ret
 exact ⟨rfl, rfl⟩
set_option maxHeartbeats 1000000 in
theorem impl_distinct.calls (k : Nat) (P0_ : Nat → Prop) (u9000_ : Value) (l0 : List Int) (r : List Int) (w0 w : World) (hB : Below w0.heap.size w0 w) (ho0 : Kd.R (Kd.int .i64) 3 w w0.heap.size P0_ u9000_ l0) (h : impl_distinct.f k l0 = some r) :
  Calls Try.prog 119 #[u9000_] w fun e w' => ∃ v0_ : Value, e = .returned v0_ ∧ Kd.R (Kd.int .i64) 3 w' w0.heap.size (fun k_ => (P0_ k_ ∨ w.heap.size ≤ k_)) v0_ r ∧ Below w0.heap.size w0 w' ∧ Kept w w' (fun k_ => P0_ k_) := by
 unfold impl_distinct.f at h
 by_cases hl : l0.length < 17592186044416
 case neg => rw [if_neg hl] at h; exact absurd h (by simp)
 rw [if_pos hl] at h
 have hr := Option.some.inj h; clear h; have hP := ho0.1; have hown := Kd.own_of_R (enc := Value.int .i64) (h1 := fun _ => rfl) ho0; obtain ⟨hlen, hcase⟩ := hown
 rcases hcase with ⟨hv, hn⟩ | ⟨g, cap, cur, hv, hbg, hg, hnc, hcm, hcs, ht⟩
 ·have h0 : l0 = [] := List.eq_nil_of_length_eq_zero hn
  subst h0; subst hv; have hr0 : r = [] := by rw [← hr]; simp [Go.Lib.compact, Go.Lib.compactUpTo]
  subst hr0; have HS := Aside0.mk (Any.slices_Sort_int_none laysSort none 0 w); have HC := Aside0.mk (Any.slices_Compact_int_empty laysCompact none 0 w); have HP := Aside0.mk (clip_calls none 0 0 w (Nat.le_refl _)); clear hr hlen hl
  go_enter Try.func119, Try.ntmps119
  go_wp2_with (first
   | (go_at_call 128; refine HS.out.mono ?_; rintro e w' ⟨rfl, rfl⟩)
   | (go_at_call 130; refine HC.out.mono ?_; rintro e w' ⟨rfl, rfl⟩)
   | (go_at_call 129; refine HP.out.mono ?_; rintro e w' ⟨rfl, rfl⟩))
  go_ret
  exact ⟨_, rfl, Kd.R_nil _ _ _ _ _, hB, Kept.refl _ _⟩
 ·obtain ⟨s, hs⟩ : ∃ s, s = l0.mergeSort fun x y => decide (x ≤ y) := ⟨_, rfl⟩
  rw [← hs] at hr
  have hsl : s.length = l0.length := by rw [hs, List.length_mergeSort]
  have ht' : cur.toList.take l0.length = l0.map (Value.int .i64) := by rw [Nat.mul_one] at ht; exact ht
  have hcz : l0.length ≤ cur.size := by omega
  have hblk : g < w.heap.size := blk_lt hg; have hH := holds_of_blockI hg ht'; have HS := Aside0.mk (calls_of_every_depth fun D => AnyS.slices_Sort_int_in laysSort D g 0 cap l0 w hH hblk (by omega))
  rw [← hs] at HS
  subst hv; have hPg := hP g (by simp [Value.ownBlock])
  have HT := Aside0.mk (show ∀ n os, ∃ q m cap', r.length = m ∧ m ≤ cap ∧ Calls Try.prog 130 #[.slice (some ⟨g, 0, none⟩) l0.length cap] (Go.Sort.grow (Go.Sort.putRow (Value.int .i64) (Go.Sort.ahead w n) g 0 s.toArray) os) fun e w' => e = .returned (.slice (some ⟨g, 0, none⟩) m cap) ∧ w.grownBy w' (some g) ∧ ∃ c', w'.heap[g]? = some (.cells c' 3 (0, 0)) ∧ c'.size = cur.size ∧ c'.toList.take m = r.map (Value.int .i64) from fun n os => by
   have h1 := heap_sortedI (n := n) (os := os) (w := w) s.toArray hg; have h2 := grownBy_sortedI (n := n) (os := os) (w := w) (g := g) s.toArray; have h3 := take_putCellsI cur s (by omega); obtain ⟨w1, hw1⟩ : ∃ w1, w1 = Go.Sort.grow (Go.Sort.putRow (Value.int .i64) (Go.Sort.ahead w n) g 0 s.toArray) os := ⟨_, rfl⟩
   rw [← hw1] at h1 h2 ⊢
   have hH1 := holds_of_blockI h1 h3
   have hcl : (Go.Lib.compact s).length ≤ s.length := by
    unfold Go.Lib.compact Go.Lib.compactUpTo
    rw [List.length_map]
    exact Nat.le_trans (List.length_filter_le _ _) (by simp)
   have hcall := Any.slices_Compact_int laysCompact g 0 cap s w1 hH1 (by omega) (by omega)
   rw [hsl, hr] at hcall
   have hrl : r.length ≤ l0.length := by rw [← hr]; omega
   refine ⟨0, r.length, 0, rfl, by omega, hcall.mono ?_⟩
   rintro e w2 ⟨he, q, hw2⟩
   have hz : (r ++ List.replicate (l0.length - r.length) (0 : Int)).length = l0.length := by simp; omega
   have hsz1 : (Go.Sort.putCells (Value.int .i64) 0 s.toArray cur).size = cur.size := by simp [Go.Sort.putCells]
   have h4 := heap_sortedI (n := q) (os := #[]) (w := w1) (r ++ List.replicate (l0.length - r.length) (0 : Int)).toArray h1; have h5 := grownBy_sortedI (n := q) (os := #[]) (w := w1) (g := g) (r ++ List.replicate (l0.length - r.length) (0 : Int)).toArray; have h6 := take_putCellsI (Go.Sort.putCells (Value.int .i64) 0 s.toArray cur) (r ++ List.replicate (l0.length - r.length) (0 : Int)) (by rw [hsz1]; omega); have hg0 : Go.Sort.grow (Go.Sort.putRow (Value.int .i64) (Go.Sort.ahead w1 q) g 0 (r ++ List.replicate (l0.length - r.length) (0 : Int)).toArray) #[] = w2 := by rw [hw2]; unfold Go.Sort.grow; rw [Array.append_empty]
   rw [hg0] at h4 h5
   refine ⟨he, h2.trans h5, _, h4, by simp [Go.Sort.putCells], ?_⟩
   have h7 := congrArg (List.take r.length) h6
   rw [List.take_take, hz, Nat.min_eq_left hrl, List.map_append, List.take_left' (by simp)] at h7
   exact h7)
  have HP := Aside0.mk (fun (m : Nat) (hm : m ≤ cap) (w : World) => clip_calls (some ⟨g, 0, none⟩) m cap w hm)
  have HF := Aside0.mk (show ∀ w2 : World, w.grownBy w2 (some g) → (∃ c', w2.heap[g]? = some (.cells c' 3 (0, 0)) ∧ c'.size = cur.size ∧ c'.toList.take r.length = r.map (Value.int .i64)) → r.length ≤ cap → Kd.R (Kd.int .i64) 3 w2 w0.heap.size (fun k_ => (P0_ k_ ∨ w.heap.size ≤ k_)) (.slice (some ⟨g, 0, none⟩) r.length r.length) r ∧ Below w0.heap.size w0 w2 ∧ Kept w w2 (fun k_ => P0_ k_) from by
   rintro w2 hg2 ⟨c', hc1, hc2, hc3⟩ hrc
   refine ⟨Kd.R_of_own (enc := Value.int .i64) (h1 := fun _ => rfl) ⟨by simp [encs], .inr ⟨g, r.length, c', rfl, hbg, hc1, Nat.le_refl _, Nat.le_trans hrc hcm, by omega, by rw [Nat.mul_one]; exact hc3⟩⟩ ?_, hB.grown hg2 hB.size ?_, Kept.of_grown (S := fun k_ => P0_ k_) hg2 (Kept.refl _ _) ?_⟩
   ·intro k hk
    have : g = k := by simpa [Value.ownBlock] using hk
    subst this
    exact .inl hPg
   ·intro k hk
    injection hk with hk
    omega
   ·intro k hk
    injection hk with hk
    subst hk
    exact .inl hPg)
  clear hr hs hsl ht ht' hcz hH hlen hP hnc hcm hcs hg hbg hblk hPg hl ho0 hB
  go_enter Try.func119, Try.ntmps119
  go_wp2_with (first
   | (go_at_call 128; refine HS.out.mono ?_; rintro e w' ⟨rfl, n, os, rfl⟩)
   | (go_at_call 130; obtain ⟨_, m, _, hm, hmc, hcall⟩ := HT.out n os; refine hcall.mono ?_; rintro e w2 ⟨rfl, hg2, hc2⟩; subst hm; have HG2 := Aside0.mk hg2; have HC2 := Aside0.mk hc2; have HM2 := Aside0.mk hmc; clear hg2 hc2 hmc hcall)
   | (go_at_call 129; refine (HP.out _ HM2.out _).mono ?_; rintro e w' ⟨rfl, rfl⟩))
  go_ret
  obtain ⟨f1, f2, f3⟩ := HF.out _ HG2.out HC2.out HM2.out
  exact ⟨_, rfl, f1, f2, f3⟩


end Go.Proofs.Ytkgfkhhjpipngaa.G
