/-
  The walk of the law FnExactIsSum.
-/
import Derived.Test.YtaeeipojnfooeaaSumA
import Derived.Test.YtaeeipojnfooeaaUSum
import Derived.Test.YtaeeipojnfooeaaUMark
import Derived.Deep.RegionHeld2
namespace Go.Proofs.Ytaeeipojnfooeaa
open Go.RowKit
set_option linter.unusedVariables false
theorem U_spec_IsSum {w : World} {p0 : Sm} {vs0 : List Value} (g0 : GivL w [.int, .sl .item] (sumC p0) vs0) : Calls Try.prog 23 #[.agg vs0.toArray] w fun e w' => e = .returned (.bool (sumOk p0)) ∧ Below w.heap.size w w' := by
  refine (con_one (con_IsSumS p0 (Nat.le_trans g0.2.2.1 (by omega))) (rpd_cons (rpd_ag g0.2.2.2) (rpd_nil _))).mono ?_
  rintro e w' ⟨u, rfl, hf, hb⟩
  obtain rfl := fresh_bool hf
  exact ⟨rfl, hb⟩
theorem U_impl_IsSum {w : World} {p0 : Sm} {vs0 : List Value} (g0 : GivL w [.int, .sl .item] (sumC p0) vs0) : Calls Try.prog 24 #[.agg vs0.toArray] w fun e w' => e = .returned (.bool (sumOk p0)) ∧ Below w.heap.size w w' := by
  refine (con_one (con_IsSumI p0 (Nat.le_trans g0.2.2.1 (by omega))) (rpd_cons (rpd_ag g0.2.2.2) (rpd_nil _))).mono ?_
  rintro e w' ⟨u, rfl, hf, hb⟩
  obtain rfl := fresh_bool hf
  exact ⟨rfl, hb⟩
set_option maxRecDepth 100000 in
set_option maxHeartbeats 8000000 in
theorem top_FnExactIsSum (w : World) (cs0 : Array Value) (h0 : ArgS w [.int, .sl .item] cs0) : Calls Try.prog 5 #[.agg cs0] w fun e w' => e = .returned (.bool true) ∧ Below w.heap.size w w' := by
  obtain ⟨ds0, hc0, hr0, hs0⟩ := h0
  obtain ⟨p0, rfl⟩ := sum_of hc0
  obtain ⟨vs0, rfl⟩ : ∃ vs : List Value, cs0 = vs.toArray := ⟨cs0.toList, by simp⟩
  replace hr0 : RepVs w w.heap.size (sumC p0) vs0 := hr0
  obtain ⟨i0_p0, a1_p0, n1_p0, c1_p0, rfl⟩ := shape_Sum hc0 hr0
  have hB := Below.refl w.heap.size w
  have ha1 := (Below.refl w.heap.size w).alloc (Nat.le_refl _) (.cells #[.int .i64 i0_p0, .slice a1_p0 n1_p0 c1_p0] 24)
  have hsa1 : w.heap.size + 1 ≤ (w.alloc (.cells #[.int .i64 i0_p0, .slice a1_p0 n1_p0 c1_p0] 24)).heap.size := by simp
  replace hB := hB.trans (ha1.mono hB.size)
  have hXA0 := Blk.new w 24 #[.int .i64 i0_p0, .slice a1_p0 n1_p0 c1_p0]
  have hXcA0 := hXA0.cell
  go_enter Try.func5, Try.ntmps5
  go_wp2_with fail
  refine (U_szSum hc0 hs0 (hr0.later hB hB.size) (by omega) (by omega)).mono ?_
  rintro e w1 ⟨rfl, hb⟩
  have hs1z := hb.size
  simp only [World.size_alloc] at hs1z
  replace hB := hB.trans (hb.mono hB.size)
  replace hXA0 := hXA0.step hb
  replace hXcA0 := hXA0.cell
  by_cases hfit0 : ((szL (sumC p0) : Nat) : Int) ≤ 1048576
  case neg =>
    have HE := Lib.hid (szR_out (1048576) (szL (sumC p0)) (by omega))
    rw [HE.out]
    go_wp2
    go_ret
    exact ⟨rfl, hB⟩
  have HE0 := Lib.hid (szR_in (1048576) (szL (sumC p0)) hfit0)
  have hnn0 : ¬ 1048576 - ((szL (sumC p0) : Nat) : Int) < 0 := by omega
  have hz0 : szL (sumC p0) ≤ 1048576 := by omega
  rw [HE0.out]
  clear hb
  go_wp2_with fail
  refine (U_toSum ⟨hc0, hs0, hz0, hr0.later hB hB.size⟩).mono ?_
  rintro e w2 ⟨us, rfl, hf, hb⟩
  have hs2z := hb.size
  replace hB := hB.trans (hb.mono hB.size)
  replace hXA0 := hXA0.step hb
  replace hXcA0 := hXA0.cell
  obtain ⟨i0_t0w0, a1_t0w0, n1_t0w0, c1_t0w0, rfl⟩ := shape_Sum hc0 hf.rep
  have hot0w0 := hf.ownR
  clear hf hb
  go_wp2_with fail
  refine (U_spec_IsSum ⟨hc0, hs0, hz0, hot0w0.repw⟩).mono ?_
  rintro e w3 ⟨rfl, hb⟩
  have hs3z := hb.size
  replace hB := hB.trans (hb.mono hB.size)
  replace hXA0 := hXA0.step hb
  replace hXcA0 := hXA0.cell
  replace hot0w0 := hot0w0.step hb
  clear hb
  clear hot0w0
  go_wp2_with fail
  refine (U_toSum ⟨hc0, hs0, hz0, hr0.later hB hB.size⟩).mono ?_
  rintro e w4 ⟨us, rfl, hf, hb⟩
  have hs4z := hb.size
  replace hB := hB.trans (hb.mono hB.size)
  replace hXA0 := hXA0.step hb
  replace hXcA0 := hXA0.cell
  obtain ⟨i0_x0, a1_x0, n1_x0, c1_x0, rfl⟩ := shape_Sum hc0 hf.rep
  have hox0 := hf.ownR
  clear hf hb
  have ha2 := (Below.refl w4.heap.size w4).alloc (Nat.le_refl _) (.cells #[.int .i64 i0_x0, .slice a1_x0 n1_x0 c1_x0] 29)
  have hsa2 : w4.heap.size + 1 ≤ (w4.alloc (.cells #[.int .i64 i0_x0, .slice a1_x0 n1_x0 c1_x0] 29)).heap.size := by simp
  replace hB := hB.trans (ha2.mono hB.size)
  replace hXA0 := hXA0.step ha2
  replace hXcA0 := hXA0.cell
  replace hox0 := hox0.step ha2
  have hXx0 := Blk.new w4 29 #[.int .i64 i0_x0, .slice a1_x0 n1_x0 c1_x0]
  have hXcx0 := hXx0.cell
  go_wp2_with fail
  refine (U_impl_IsSum ⟨hc0, hs0, hz0, hox0.repw⟩).mono ?_
  rintro e w5 ⟨rfl, hb⟩
  have hs5z := hb.size
  simp only [World.size_alloc] at hs5z
  replace hB := hB.trans (hb.mono hB.size)
  replace hXA0 := hXA0.step hb
  replace hXcA0 := hXA0.cell
  replace hXx0 := hXx0.step hb
  replace hXcx0 := hXx0.cell
  replace hox0 := hox0.step hb
  clear hb
  go_wp2_with fail
  go_region_held2 (fun W => (∀ i, W.cell? ⟨w.heap.size, i, none⟩ = (#[.int .i64 i0_p0, .slice a1_p0 n1_p0 c1_p0] : Array Value)[i]?) ∧ (∀ i, W.cell? ⟨w4.heap.size, i, none⟩ = (#[.int .i64 i0_x0, .slice a1_x0 n1_x0 c1_x0] : Array Value)[i]?))
    (first | exact ⟨hXA0_2.cell, hXx0_2.cell⟩ | exact ⟨hXA0_1.cell, hXx0_1.cell⟩ | exact ⟨hXA0.drew.cell, hXx0.drew.cell⟩)
    (first
      | (go_at_call 16; refine (U_toSum (ds := (sumC p0)) ?_).mono ?_; exact ⟨hc0, hs0, hz0, hr0.later hB.drew hB.drew.size⟩
         rintro e w6 ⟨us, rfl, hf1, hb1⟩
         have hXA0_1 := hXA0.drew.step hb1
         have hXx0_1 := hXx0.drew.step hb1
         have hB_1 := hB.drew.trans (hb1.mono hB.drew.size)
         have hox0_1 := hox0.drew.step hb1
         have hs6z : w5.heap.size ≤ w6.heap.size := hb1.size
         obtain ⟨i0_ux0, a1_ux0, n1_ux0, c1_ux0, rfl⟩ := shape_Sum hc0 hf1.rep)
      | (go_at_call 18; refine (U_eqsSum hc0 ?_ ?_).mono ?_; exact hox0_1.repw; exact hf1.rep
         rintro e w7 ⟨rfl, hb2⟩
         have hXA0_2 := hXA0_1.step hb2
         have hXx0_2 := hXx0_1.step hb2
         have hB_2 := hB_1.trans (hb2.mono hB_1.size)
         have hox0_2 := hox0_1.step hb2
         have hs7z : w6.heap.size ≤ w7.heap.size := hb2.size))
  replace hB := hB_2
  replace hXA0 := hXA0_2
  replace hXcA0 := hXA0.cell
  replace hXx0 := hXx0_2
  replace hXcx0 := hXx0.cell
  replace hox0 := hox0_2
  clear hB_1 hB_2 hb1 hb2 hf1 hXA0_1 hXA0_2 hXx0_1 hXx0_2 hox0_1 hox0_2
  go_wp2
  go_ret
  exact ⟨rfl, hB⟩
end Go.Proofs.Ytaeeipojnfooeaa
