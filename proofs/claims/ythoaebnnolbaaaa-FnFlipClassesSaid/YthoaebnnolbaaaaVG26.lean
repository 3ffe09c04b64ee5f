/- A part of this claim; what it does not use is left out. -/
import Derived.Test.YthoaebnnolbaaaaVG0
namespace Go.Proofs.Ythoaebnnolbaaaa.G
open Go.RowKit Go.Proofs.YthoaebnnolbaaaaW.PrintWords Go.Proofs.YthoaebnnolbaaaaW.PrintLast Go.Proofs.YthoaebnnolbaaaaW.PrintMore
set_option linter.unusedVariables false
set_option linter.unusedSimpArgs false
def laysSort_ren : Go.Shelf.Ren := ⟨fun | 189 => 112 | 125 => 116 | 257 => 115 | 128 => 126 | 129 => 127 | 294 => 117 | 295 => 118 | 296 => 119 | 297 => 120 | 298 => 121 | 299 => 122 | 216 => 123 | 300 => 124 | 301 => 125 | 328 => 128 | 329 => 129 | 330 => 130 | 331 => 131 | 332 => 132 | 215 => 133 | 343 => 134 | n => n, fun | 28 => 30 | 3 => 3 | 46 => 87 | 0 => 0 | 51 => 103 | 53 => 105 | 4 => 4 | 183 => 110 | 182 => 109 | 131 => 27 | 5 => 5 | 9 => 9 | 218 => 116 | 222 => 120 | 228 => 122 | 229 => 88 | n => n, fun n => n⟩
theorem laysSort : Go.Proofs.Lays.n189 Try.prog laysSort_ren where
 mixed := by kernel_rfl
 f125 := Try.func116.trans (congrArg some (by kernel_rfl))
 f128 := Try.func126.trans (congrArg some (by kernel_rfl))
 f129 := Try.func127.trans (congrArg some (by kernel_rfl))
 f189 := Try.func112.trans (congrArg some (by kernel_rfl))
 f215 := Try.func133.trans (congrArg some (by kernel_rfl))
 f216 := Try.func123.trans (congrArg some (by kernel_rfl))
 f257 := Try.func115.trans (congrArg some (by kernel_rfl))
 f294 := Try.func117.trans (congrArg some (by kernel_rfl))
 f295 := Try.func118.trans (congrArg some (by kernel_rfl))
 f296 := Try.func119.trans (congrArg some (by kernel_rfl))
 f297 := Try.func120.trans (congrArg some (by kernel_rfl))
 f298 := Try.func121.trans (congrArg some (by kernel_rfl))
 f299 := Try.func122.trans (congrArg some (by kernel_rfl))
 f300 := Try.func124.trans (congrArg some (by kernel_rfl))
 f301 := Try.func125.trans (congrArg some (by kernel_rfl))
 f328 := Try.func128.trans (congrArg some (by kernel_rfl))
 f329 := Try.func129.trans (congrArg some (by kernel_rfl))
 f330 := Try.func130.trans (congrArg some (by kernel_rfl))
 f331 := Try.func131.trans (congrArg some (by kernel_rfl))
 f332 := Try.func132.trans (congrArg some (by kernel_rfl))
 f343 := Try.func134.trans (congrArg some (by kernel_rfl))
 t0 := Try.underlying0
 a0 := Try.isAgg0
 z0 := Try.sizeOf0
 v0 := Try.zeroValue0
 t3 := Try.underlying3
 a3 := Try.isAgg3
 z3 := Try.sizeOf3
 v3 := Try.zeroValue3
 t4 := Try.underlying4
 a4 := Try.isAgg4
 z4 := Try.sizeOf4
 v4 := Try.zeroValue4
 t5 := Try.underlying5
 a5 := Try.isAgg5
 z5 := Try.sizeOf5
 v5 := Try.zeroValue5
 t9 := Try.underlying9
 a9 := Try.isAgg9
 z9 := Try.sizeOf9
 v9 := Try.zeroValue9
 t28 := Try.underlying30
 a28 := Try.isAgg30
 z28 := Try.sizeOf30
 v28 := Try.zeroValue30
 t46 := Try.underlying87
 a46 := Try.isAgg87
 z46 := Try.sizeOf87
 v46 := Try.zeroValue87
 t51 := Try.underlying103
 a51 := Try.isAgg103
 z51 := Try.sizeOf103
 v51 := Try.zeroValue103
 t53 := Try.underlying105
 a53 := Try.isAgg105
 z53 := Try.sizeOf105
 v53 := Try.zeroValue105
 t131 := Try.underlying27
 a131 := Try.isAgg27
 z131 := Try.sizeOf27
 v131 := Try.zeroValue27
 t182 := Try.underlying109
 a182 := Try.isAgg109
 z182 := Try.sizeOf109
 v182 := Try.zeroValue109
 t183 := Try.underlying110
 a183 := Try.isAgg110
 z183 := Try.sizeOf110
 v183 := Try.zeroValue110
 t218 := Try.underlying116
 a218 := Try.isAgg116
 z218 := Try.sizeOf116
 v218 := Try.zeroValue116
 t222 := Try.underlying120
 a222 := Try.isAgg120
 z222 := Try.sizeOf120
 v222 := Try.zeroValue120
 t228 := Try.underlying122
 a228 := Try.isAgg122
 z228 := Try.sizeOf122
 v228 := Try.zeroValue122
 t229 := Try.underlying88
 a229 := Try.isAgg88
 z229 := Try.sizeOf88
 v229 := Try.zeroValue88
def laysCompact_ren : Go.Shelf.Ren := ⟨fun | 20 => 114 | n => n, fun | 22 => 30 | 3 => 3 | 4 => 4 | 0 => 0 | n => n, fun n => n⟩
theorem laysCompact : Go.Proofs.Lays2.n20 Try.prog laysCompact_ren where
 mixed := by kernel_rfl
 f20 := Try.func114.trans (congrArg some (by kernel_rfl))
 t0 := Try.underlying0
 a0 := Try.isAgg0
 z0 := Try.sizeOf0
 v0 := Try.zeroValue0
 t3 := Try.underlying3
 a3 := Try.isAgg3
 z3 := Try.sizeOf3
 v3 := Try.zeroValue3
 t4 := Try.underlying4
 a4 := Try.isAgg4
 z4 := Try.sizeOf4
 v4 := Try.zeroValue4
 t22 := Try.underlying30
 a22 := Try.isAgg30
 z22 := Try.sizeOf30
 v22 := Try.zeroValue30
 i3 := by kernel_rfl
def impl_distinct.f (_k : Nat) (l : List Int) : Option (List Int) := if l.length < 17592186044416 then some (Go.Lib.compact (l.mergeSort fun x y => decide (x ≤ y))) else none
theorem clip_calls (ad : Option Addr) (m c : Nat) (w : World) (hc : m ≤ c) : Calls Try.prog 113 #[.slice ad m c] w fun e w' => e = .returned (.slice ad m m) ∧ w' = w := by
 have hu := Try.underlying30
 go_enter Try.func113, Try.ntmps113
 go_wp2
 go_ret
 exact ⟨rfl, rfl⟩
set_option maxHeartbeats 1000000 in
theorem impl_distinct.calls (k : Nat) (P0_ : Nat → Prop) (u9000_ : Value) (l0 : List Int) (r : List Int) (w0 w : World) (hB : Below w0.heap.size w0 w) (ho0 : Kd.R (Kd.int .i64) 3 w w0.heap.size P0_ u9000_ l0) (h : impl_distinct.f k l0 = some r) :
  Calls Try.prog 100 #[u9000_] w fun e w' => ∃ v0_ : Value, e = .returned v0_ ∧ Kd.R (Kd.int .i64) 3 w' w0.heap.size (fun k_ => (P0_ k_ ∨ w.heap.size ≤ k_)) v0_ r ∧ Below w0.heap.size w0 w' ∧ Kept w w' (fun k_ => P0_ k_) := by
 unfold impl_distinct.f at h
 by_cases hl : l0.length < 17592186044416
 case neg => rw [if_neg hl] at h; exact absurd h (by simp)
 rw [if_pos hl] at h
 have hr := Option.some.inj h; clear h; have hP := ho0.1; have hown := Kd.own_of_R (enc := Value.int .i64) (h1 := fun _ => rfl) ho0; obtain ⟨hlen, hcase⟩ := hown
 rcases hcase with ⟨hv, hn⟩ | ⟨g, cap, cur, hv, hbg, hg, hnc, hcm, hcs, ht⟩
 ·have h0 : l0 = [] := List.eq_nil_of_length_eq_zero hn
  subst h0; subst hv; have hr0 : r = [] := by rw [← hr]; simp [Go.Lib.compact, Go.Lib.compactUpTo]
  subst hr0; have HS := aK (Any.slices_Sort_int_none laysSort none 0 w); have HC := aK (Any.slices_Compact_int_empty laysCompact none 0 w); have HP := aK (clip_calls none 0 0 w (Nat.le_refl _)); clear hr hlen hl
  go_enter Try.func100, Try.ntmps100
  go_wp2_with (first
   | (go_at_call 112; refine HS.out.mono ?_; rintro e w' ⟨rfl, rfl⟩)
   | (go_at_call 114; refine HC.out.mono ?_; rintro e w' ⟨rfl, rfl⟩)
   | (go_at_call 113; refine HP.out.mono ?_; rintro e w' ⟨rfl, rfl⟩))
  go_ret
  exact ⟨_, rfl, Kd.R_nil _ _ _ _ _, hB, Kept.refl _ _⟩
 ·obtain ⟨s, hs⟩ : ∃ s, s = l0.mergeSort fun x y => decide (x ≤ y) := ⟨_, rfl⟩
  rw [← hs] at hr
  have hsl : s.length = l0.length := by rw [hs, List.length_mergeSort]
  have ht' : cur.toList.take l0.length = l0.map (Value.int .i64) := by rw [Nat.mul_one] at ht; exact ht
  have hcz : l0.length ≤ cur.size := by omega
  have hblk : g < w.heap.size := blk_lt hg; have hH := holds_of_blockI hg ht'; have HS := aK (calls_of_every_depth fun D => AnyS.slices_Sort_int_in laysSort D g 0 cap l0 w hH hblk (by omega))
  rw [← hs] at HS
  subst hv; have hPg := hP g (by simp [Value.ownBlock])
  have HT := aK (show ∀ n os, ∃ q m cap', r.length = m ∧ m ≤ cap ∧ Calls Try.prog 114 #[.slice (some ⟨g, 0, none⟩) l0.length cap] (Go.Sort.grow (Go.Sort.putRow (Value.int .i64) (Go.Sort.ahead w n) g 0 s.toArray) os) fun e w' => e = .returned (.slice (some ⟨g, 0, none⟩) m cap) ∧ w.grownBy w' (some g) ∧ ∃ c', w'.heap[g]? = some (.cells c' 3 (0, 0)) ∧ c'.size = cur.size ∧ c'.toList.take m = r.map (Value.int .i64) from fun n os => by
   have h1 := heap_sortedI (n := n) (os := os) (w := w) s.toArray hg; have h2 := grownBy_sortedI (n := n) (os := os) (w := w) (g := g) s.toArray; have h3 := take_putCellsI cur s (by omega); obtain ⟨w1, hw1⟩ : ∃ w1, w1 = Go.Sort.grow (Go.Sort.putRow (Value.int .i64) (Go.Sort.ahead w n) g 0 s.toArray) os := ⟨_, rfl⟩
   rw [← hw1] at h1 h2 ⊢
   have hH1 := holds_of_blockI h1 h3
   have hcl : (Go.Lib.compact s).length ≤ s.length := by
    unfold Go.Lib.compact Go.Lib.compactUpTo
    rw [List.length_map]
    exact Nat.le_trans (List.length_filter_le _ _) (by simp)
   have hcall := Any.slices_Compact_int laysCompact g 0 cap s w1 hH1 (by omega) (by omega)
   rw [hsl, hr] at hcall
   have hrl : r.length ≤ l0.length := by rw [← hr]; omega
   refine ⟨0, r.length, 0, rfl, by omega, hcall.mono ?_⟩
   rintro e w2 ⟨he, q, hw2⟩
   have hz : (r ++ List.replicate (l0.length - r.length) (0 : Int)).length = l0.length := by simp; omega
   have hsz1 : (Go.Sort.putCells (Value.int .i64) 0 s.toArray cur).size = cur.size := by simp [Go.Sort.putCells]
   have h4 := heap_sortedI (n := q) (os := #[]) (w := w1) (r ++ List.replicate (l0.length - r.length) (0 : Int)).toArray h1; have h5 := grownBy_sortedI (n := q) (os := #[]) (w := w1) (g := g) (r ++ List.replicate (l0.length - r.length) (0 : Int)).toArray; have h6 := take_putCellsI (Go.Sort.putCells (Value.int .i64) 0 s.toArray cur) (r ++ List.replicate (l0.length - r.length) (0 : Int)) (by rw [hsz1]; omega); have hg0 : Go.Sort.grow (Go.Sort.putRow (Value.int .i64) (Go.Sort.ahead w1 q) g 0 (r ++ List.replicate (l0.length - r.length) (0 : Int)).toArray) #[] = w2 := by rw [hw2]; unfold Go.Sort.grow; rw [Array.append_empty]
   rw [hg0] at h4 h5
   refine ⟨he, h2.trans h5, _, h4, by simp [Go.Sort.putCells], ?_⟩
   have h7 := congrArg (List.take r.length) h6
   rw [List.take_take, hz, Nat.min_eq_left hrl, List.map_append, List.take_left' (by simp)] at h7
   exact h7)
  have HP := aK (fun (m : Nat) (hm : m ≤ cap) (w : World) => clip_calls (some ⟨g, 0, none⟩) m cap w hm)
  have HF := aK (show ∀ w2 : World, w.grownBy w2 (some g) → (∃ c', w2.heap[g]? = some (.cells c' 3 (0, 0)) ∧ c'.size = cur.size ∧ c'.toList.take r.length = r.map (Value.int .i64)) → r.length ≤ cap → Kd.R (Kd.int .i64) 3 w2 w0.heap.size (fun k_ => (P0_ k_ ∨ w.heap.size ≤ k_)) (.slice (some ⟨g, 0, none⟩) r.length r.length) r ∧ Below w0.heap.size w0 w2 ∧ Kept w w2 (fun k_ => P0_ k_) from by
   rintro w2 hg2 ⟨c', hc1, hc2, hc3⟩ hrc
   refine ⟨Kd.R_of_own (enc := Value.int .i64) (h1 := fun _ => rfl) ⟨by simp [encs], .inr ⟨g, r.length, c', rfl, hbg, hc1, Nat.le_refl _, Nat.le_trans hrc hcm, by omega, by rw [Nat.mul_one]; exact hc3⟩⟩ ?_, hB.grown hg2 hB.size ?_, Kept.of_grown (S := fun k_ => P0_ k_) hg2 (Kept.refl _ _) ?_⟩
   ·intro k hk
    have : g = k := by simpa [Value.ownBlock] using hk
    subst this
    exact .inl hPg
   ·intro k hk
    injection hk with hk
    omega
   ·intro k hk
    injection hk with hk
    subst hk
    exact .inl hPg)
  clear hr hs hsl ht ht' hcz hH hlen hP hnc hcm hcs hg hbg hblk hPg hl ho0 hB
  go_enter Try.func100, Try.ntmps100
  go_wp2_with (first
   | (go_at_call 112; refine HS.out.mono ?_; rintro e w' ⟨rfl, n, os, rfl⟩)
   | (go_at_call 114; obtain ⟨_, m, _, hm, hmc, hcall⟩ := HT.out n os; refine hcall.mono ?_; rintro e w2 ⟨rfl, hg2, hc2⟩; subst hm; have HG2 := aK hg2; have HC2 := aK hc2; have HM2 := aK hmc; clear hg2 hc2 hmc hcall)
   | (go_at_call 113; refine (HP.out _ HM2.out _).mono ?_; rintro e w' ⟨rfl, rfl⟩))
  go_ret
  obtain ⟨f1, f2, f3⟩ := HF.out _ HG2.out HC2.out HM2.out
  exact ⟨_, rfl, f1, f2, f3⟩
end Go.Proofs.Ythoaebnnolbaaaa.G
