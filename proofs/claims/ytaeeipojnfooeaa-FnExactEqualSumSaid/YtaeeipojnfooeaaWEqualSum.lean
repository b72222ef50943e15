/-
  The walk of the law FnExactEqualSum.
-/
import Derived.Test.YtaeeipojnfooeaaEqS
import Derived.Test.YtaeeipojnfooeaaUSum
import Derived.Test.YtaeeipojnfooeaaUMark
import Derived.Deep.RegionHeld2
namespace Go.Proofs.Ytaeeipojnfooeaa
open Go.RowKit
set_option linter.unusedVariables false
theorem U_spec_EqualSum {w : World} {p0 : Sm} {vs0 : List Value} (g0 : GivL w [.int, .sl .item] (sumC p0) vs0) {p1 : Sm} {vs1 : List Value} (g1 : GivL w [.int, .sl .item] (sumC p1) vs1) : Calls Try.prog 15 #[.agg vs0.toArray, .agg vs1.toArray] w fun e w' => e = .returned (.bool (eqSm p0 p1)) ∧ Below w.heap.size w w' := by
  refine (con_one (con_EqSumS p0 p1 (Nat.le_trans g0.2.2.1 (by omega))) (rpd_cons (rpd_ag g0.2.2.2) (rpd_cons (rpd_ag g1.2.2.2) (rpd_nil _)))).mono ?_
  rintro e w' ⟨u, rfl, hf, hb⟩
  obtain rfl := fresh_bool hf
  exact ⟨rfl, hb⟩
theorem U_impl_EqualSum {w : World} {p0 : Sm} {vs0 : List Value} (g0 : GivL w [.int, .sl .item] (sumC p0) vs0) {p1 : Sm} {vs1 : List Value} (g1 : GivL w [.int, .sl .item] (sumC p1) vs1) : Calls Try.prog 17 #[.agg vs0.toArray, .agg vs1.toArray] w fun e w' => e = .returned (.bool (eqSm p0 p1)) ∧ Below w.heap.size w w' := by
  refine (con_one (con_EqSumI p0 p1 (Nat.le_trans g0.2.2.1 (by omega))) (rpd_cons (rpd_ag g0.2.2.2) (rpd_cons (rpd_ag g1.2.2.2) (rpd_nil _)))).mono ?_
  rintro e w' ⟨u, rfl, hf, hb⟩
  obtain rfl := fresh_bool hf
  exact ⟨rfl, hb⟩
set_option maxRecDepth 100000 in
set_option maxHeartbeats 8000000 in
theorem top_FnExactEqualSum (w : World) (cs0 : Array Value) (h0 : ArgS w [.int, .sl .item] cs0) (cs1 : Array Value) (h1 : ArgS w [.int, .sl .item] cs1) : Calls Try.prog 3 #[.agg cs0, .agg cs1] w fun e w' => e = .returned (.bool true) ∧ Below w.heap.size w w' := by
  obtain ⟨ds0, hc0, hr0, hs0⟩ := h0
  obtain ⟨p0, rfl⟩ := sum_of hc0
  obtain ⟨vs0, rfl⟩ : ∃ vs : List Value, cs0 = vs.toArray := ⟨cs0.toList, by simp⟩
  replace hr0 : RepVs w w.heap.size (sumC p0) vs0 := hr0
  obtain ⟨i0_p0, a1_p0, n1_p0, c1_p0, rfl⟩ := shape_Sum hc0 hr0
  obtain ⟨ds1, hc1, hr1, hs1⟩ := h1
  obtain ⟨p1, rfl⟩ := sum_of hc1
  obtain ⟨vs1, rfl⟩ : ∃ vs : List Value, cs1 = vs.toArray := ⟨cs1.toList, by simp⟩
  replace hr1 : RepVs w w.heap.size (sumC p1) vs1 := hr1
  obtain ⟨i0_p1, a1_p1, n1_p1, c1_p1, rfl⟩ := shape_Sum hc1 hr1
  have hB := Below.refl w.heap.size w
  have ha1 := (Below.refl w.heap.size w).alloc (Nat.le_refl _) (.cells #[.int .i64 i0_p0, .slice a1_p0 n1_p0 c1_p0] 24)
  have hsa1 : w.heap.size + 1 ≤ (w.alloc (.cells #[.int .i64 i0_p0, .slice a1_p0 n1_p0 c1_p0] 24)).heap.size := by simp
  replace hB := hB.trans (ha1.mono hB.size)
  have hXA0 := Blk.new w 24 #[.int .i64 i0_p0, .slice a1_p0 n1_p0 c1_p0]
  have hXcA0 := hXA0.cell
  have ha2 := (Below.refl (w.alloc (.cells #[.int .i64 i0_p0, .slice a1_p0 n1_p0 c1_p0] 24)).heap.size (w.alloc (.cells #[.int .i64 i0_p0, .slice a1_p0 n1_p0 c1_p0] 24))).alloc (Nat.le_refl _) (.cells #[.int .i64 i0_p1, .slice a1_p1 n1_p1 c1_p1] 24)
  have hsa2 : (w.alloc (.cells #[.int .i64 i0_p0, .slice a1_p0 n1_p0 c1_p0] 24)).heap.size + 1 ≤ ((w.alloc (.cells #[.int .i64 i0_p0, .slice a1_p0 n1_p0 c1_p0] 24)).alloc (.cells #[.int .i64 i0_p1, .slice a1_p1 n1_p1 c1_p1] 24)).heap.size := by simp
  replace hB := hB.trans (ha2.mono hB.size)
  replace hXA0 := hXA0.step ha2
  replace hXcA0 := hXA0.cell
  have hXA1 := Blk.new (w.alloc (.cells #[.int .i64 i0_p0, .slice a1_p0 n1_p0 c1_p0] 24)) 24 #[.int .i64 i0_p1, .slice a1_p1 n1_p1 c1_p1]
  simp only [World.size_alloc] at hXA1
  have hXcA1 := hXA1.cell
  go_enter Try.func3, Try.ntmps3
  go_wp2_with fail
  refine (U_szSum hc0 hs0 (hr0.later hB hB.size) (by omega) (by omega)).mono ?_
  rintro e w1 ⟨rfl, hb⟩
  have hs1z := hb.size
  simp only [World.size_alloc] at hs1z
  replace hB := hB.trans (hb.mono hB.size)
  replace hXA0 := hXA0.step hb
  replace hXcA0 := hXA0.cell
  replace hXA1 := hXA1.step hb
  replace hXcA1 := hXA1.cell
  by_cases hfit0 : ((szL (sumC p0) : Nat) : Int) ≤ 1048576
  case neg =>
    have HE := Lib.hid (szR_out (1048576) (szL (sumC p0)) (by omega))
    rw [HE.out]
    go_wp2
    go_ret
    exact ⟨rfl, hB⟩
  have HE0 := Lib.hid (szR_in (1048576) (szL (sumC p0)) hfit0)
  have hnn0 : ¬ 1048576 - ((szL (sumC p0) : Nat) : Int) < 0 := by omega
  have hz0 : szL (sumC p0) ≤ 1048576 := by omega
  rw [HE0.out]
  clear hb
  go_wp2_with fail
  refine (U_szSum hc1 hs1 (hr1.later hB hB.size) (by omega) (by omega)).mono ?_
  rintro e w2 ⟨rfl, hb⟩
  have hs2z := hb.size
  replace hB := hB.trans (hb.mono hB.size)
  replace hXA0 := hXA0.step hb
  replace hXcA0 := hXA0.cell
  replace hXA1 := hXA1.step hb
  replace hXcA1 := hXA1.cell
  by_cases hfit1 : ((szL (sumC p1) : Nat) : Int) ≤ 1048576 - ((szL (sumC p0) : Nat) : Int)
  case neg =>
    have HE := Lib.hid (szR_out (1048576 - ((szL (sumC p0) : Nat) : Int)) (szL (sumC p1)) (by omega))
    rw [HE.out]
    go_wp2
    go_ret
    exact ⟨rfl, hB⟩
  have HE1 := Lib.hid (szR_in (1048576 - ((szL (sumC p0) : Nat) : Int)) (szL (sumC p1)) hfit1)
  have hnn1 : ¬ 1048576 - ((szL (sumC p0) : Nat) : Int) - ((szL (sumC p1) : Nat) : Int) < 0 := by omega
  have hz1 : szL (sumC p1) ≤ 1048576 := by omega
  rw [HE1.out]
  clear hb
  go_wp2_with fail
  go_region_held2 (fun W => (∀ i, W.cell? ⟨w.heap.size, i, none⟩ = (#[.int .i64 i0_p0, .slice a1_p0 n1_p0 c1_p0] : Array Value)[i]?) ∧ (∀ i, W.cell? ⟨w.heap.size + 1, i, none⟩ = (#[.int .i64 i0_p1, .slice a1_p1 n1_p1 c1_p1] : Array Value)[i]?))
    (first | with_reducible exact ⟨hXA0_3.cell, hXA1_3.cell⟩ | with_reducible exact ⟨hXA0_2.cell, hXA1_2.cell⟩ | with_reducible exact ⟨hXA0_1.cell, hXA1_1.cell⟩ | with_reducible exact ⟨hXA0.drew.cell, hXA1.drew.cell⟩)
    (first
      | (go_at_call_of 16 (Value.slice a1_p0 n1_p0 c1_p0); refine (U_toSum (ds := (sumC p0)) ?_).mono ?_; exact ⟨hc0, hs0, hz0, hr0.later hB.drew hB.drew.size⟩
         rintro e w3 ⟨us, rfl, hf1, hb1⟩
         have hXA0_1 := hXA0.drew.step hb1
         have hXA1_1 := hXA1.drew.step hb1
         have hB_1 := hB.drew.trans (hb1.mono hB.drew.size)
         have hq1_1 := hf1.ownR
         have hs3z : w2.heap.size ≤ w3.heap.size := hb1.size
         obtain ⟨i0_d0w0, a1_d0w0, n1_d0w0, c1_d0w0, rfl⟩ := shape_Sum hc0 hf1.rep)
      | (go_at_call_of 16 (Value.slice a1_p1 n1_p1 c1_p1); refine (U_toSum (ds := (sumC p1)) ?_).mono ?_; exact ⟨hc1, hs1, hz1, hr1.later hB_1 hB_1.size⟩
         rintro e w4 ⟨us, rfl, hf2, hb2⟩
         have hXA0_2 := hXA0_1.step hb2
         have hXA1_2 := hXA1_1.step hb2
         have hB_2 := hB_1.trans (hb2.mono hB_1.size)
         have hq1_2 := hq1_1.step hb2
         have hq2_2 := hf2.ownR
         have hs4z : w3.heap.size ≤ w4.heap.size := hb2.size
         obtain ⟨i0_d1w0, a1_d1w0, n1_d1w0, c1_d1w0, rfl⟩ := shape_Sum hc1 hf2.rep)
      | (go_at_call 15; refine (U_spec_EqualSum ⟨hc0, hs0, hz0, hq1_2.repw⟩ ⟨hc1, hs1, hz1, hq2_2.repw⟩).mono ?_
         rintro e w5 ⟨rfl, hb3⟩
         have hXA0_3 := hXA0_2.step hb3
         have hXA1_3 := hXA1_2.step hb3
         have hB_3 := hB_2.trans (hb3.mono hB_2.size)
         have hs5z : w4.heap.size ≤ w5.heap.size := hb3.size))
  replace hB := hB_3
  replace hXA0 := hXA0_3
  replace hXcA0 := hXA0.cell
  replace hXA1 := hXA1_3
  replace hXcA1 := hXA1.cell
  go_wp2_with fail
  refine (U_toSum ⟨hc0, hs0, hz0, hr0.later hB hB.size⟩).mono ?_
  rintro e w6 ⟨us, rfl, hf, hb⟩
  have hs6z := hb.size
  replace hB := hB.trans (hb.mono hB.size)
  replace hXA0 := hXA0.step hb
  replace hXcA0 := hXA0.cell
  replace hXA1 := hXA1.step hb
  replace hXcA1 := hXA1.cell
  obtain ⟨i0_x0, a1_x0, n1_x0, c1_x0, rfl⟩ := shape_Sum hc0 hf.rep
  have hox0 := hf.ownR
  clear hf hb
  have ha3 := (Below.refl w6.heap.size w6).alloc (Nat.le_refl _) (.cells #[.int .i64 i0_x0, .slice a1_x0 n1_x0 c1_x0] 29)
  have hsa3 : w6.heap.size + 1 ≤ (w6.alloc (.cells #[.int .i64 i0_x0, .slice a1_x0 n1_x0 c1_x0] 29)).heap.size := by simp
  replace hB := hB.trans (ha3.mono hB.size)
  replace hXA0 := hXA0.step ha3
  replace hXcA0 := hXA0.cell
  replace hXA1 := hXA1.step ha3
  replace hXcA1 := hXA1.cell
  replace hox0 := hox0.step ha3
  have hXx0 := Blk.new w6 29 #[.int .i64 i0_x0, .slice a1_x0 n1_x0 c1_x0]
  have hXcx0 := hXx0.cell
  go_wp2_with fail
  refine (U_toSum ⟨hc1, hs1, hz1, hr1.later hB hB.size⟩).mono ?_
  rintro e w7 ⟨us, rfl, hf, hb⟩
  have hs7z := hb.size
  simp only [World.size_alloc] at hs7z
  replace hB := hB.trans (hb.mono hB.size)
  replace hXA0 := hXA0.step hb
  replace hXcA0 := hXA0.cell
  replace hXA1 := hXA1.step hb
  replace hXcA1 := hXA1.cell
  replace hXx0 := hXx0.step hb
  replace hXcx0 := hXx0.cell
  replace hox0 := hox0.step hb
  obtain ⟨i0_x1, a1_x1, n1_x1, c1_x1, rfl⟩ := shape_Sum hc1 hf.rep
  have hox1 := hf.ownR
  have hlx1 : (w6.alloc (.cells #[.int .i64 i0_x0, .slice a1_x0 n1_x0 c1_x0] 29)).heap.size ≤ w7.heap.size := hb.size
  simp only [World.size_alloc] at hlx1 hox1
  clear hf hb
  have ha4 := (Below.refl w7.heap.size w7).alloc (Nat.le_refl _) (.cells #[.int .i64 i0_x1, .slice a1_x1 n1_x1 c1_x1] 29)
  have hsa4 : w7.heap.size + 1 ≤ (w7.alloc (.cells #[.int .i64 i0_x1, .slice a1_x1 n1_x1 c1_x1] 29)).heap.size := by simp
  replace hB := hB.trans (ha4.mono hB.size)
  replace hXA0 := hXA0.step ha4
  replace hXcA0 := hXA0.cell
  replace hXA1 := hXA1.step ha4
  replace hXcA1 := hXA1.cell
  replace hXx0 := hXx0.step ha4
  replace hXcx0 := hXx0.cell
  replace hox0 := hox0.step ha4
  replace hox1 := hox1.step ha4
  have hXx1 := Blk.new w7 29 #[.int .i64 i0_x1, .slice a1_x1 n1_x1 c1_x1]
  have hXcx1 := hXx1.cell
  go_wp2_with fail
  refine (U_impl_EqualSum ⟨hc0, hs0, hz0, hox0.repw⟩ ⟨hc1, hs1, hz1, hox1.repw⟩).mono ?_
  rintro e w8 ⟨rfl, hb⟩
  have hs8z := hb.size
  simp only [World.size_alloc] at hs8z
  replace hB := hB.trans (hb.mono hB.size)
  replace hXA0 := hXA0.step hb
  replace hXcA0 := hXA0.cell
  replace hXA1 := hXA1.step hb
  replace hXcA1 := hXA1.cell
  replace hXx0 := hXx0.step hb
  replace hXcx0 := hXx0.cell
  replace hXx1 := hXx1.step hb
  replace hXcx1 := hXx1.cell
  replace hox0 := hox0.step hb
  replace hox1 := hox1.step hb
  clear hb
  go_wp2_with fail
  go_region_held2 (fun W => (∀ i, W.cell? ⟨w.heap.size, i, none⟩ = (#[.int .i64 i0_p0, .slice a1_p0 n1_p0 c1_p0] : Array Value)[i]?) ∧ (∀ i, W.cell? ⟨w6.heap.size, i, none⟩ = (#[.int .i64 i0_x0, .slice a1_x0 n1_x0 c1_x0] : Array Value)[i]?))
    (first | exact ⟨hXA0_2.cell, hXx0_2.cell⟩ | exact ⟨hXA0_1.cell, hXx0_1.cell⟩ | exact ⟨hXA0.drew.cell, hXx0.drew.cell⟩)
    (first
      | (go_at_call 16; refine (U_toSum (ds := (sumC p0)) ?_).mono ?_; exact ⟨hc0, hs0, hz0, hr0.later hB.drew hB.drew.size⟩
         rintro e w9 ⟨us, rfl, hf1, hb1⟩
         have hXA0_1 := hXA0.drew.step hb1
         have hXA1_1 := hXA1.drew.step hb1
         have hXx0_1 := hXx0.drew.step hb1
         have hXx1_1 := hXx1.drew.step hb1
         have hB_1 := hB.drew.trans (hb1.mono hB.drew.size)
         have hox0_1 := hox0.drew.step hb1
         have hox1_1 := hox1.drew.step hb1
         have hs9z : w8.heap.size ≤ w9.heap.size := hb1.size
         obtain ⟨i0_ux0, a1_ux0, n1_ux0, c1_ux0, rfl⟩ := shape_Sum hc0 hf1.rep)
      | (go_at_call 18; refine (U_eqsSum hc0 ?_ ?_).mono ?_; exact hox0_1.repw; exact hf1.rep
         rintro e w10 ⟨rfl, hb2⟩
         have hXA0_2 := hXA0_1.step hb2
         have hXA1_2 := hXA1_1.step hb2
         have hXx0_2 := hXx0_1.step hb2
         have hXx1_2 := hXx1_1.step hb2
         have hB_2 := hB_1.trans (hb2.mono hB_1.size)
         have hox0_2 := hox0_1.step hb2
         have hox1_2 := hox1_1.step hb2
         have hs10z : w9.heap.size ≤ w10.heap.size := hb2.size))
  replace hB := hB_2
  replace hXA0 := hXA0_2
  replace hXcA0 := hXA0.cell
  replace hXA1 := hXA1_2
  replace hXcA1 := hXA1.cell
  replace hXx0 := hXx0_2
  replace hXcx0 := hXx0.cell
  replace hXx1 := hXx1_2
  replace hXcx1 := hXx1.cell
  replace hox0 := hox0_2
  replace hox1 := hox1_2
  clear hB_1 hB_2 hb1 hb2 hf1 hXA0_1 hXA0_2 hXA1_1 hXA1_2 hXx0_1 hXx0_2 hXx1_1 hXx1_2 hox0_1 hox0_2 hox1_1 hox1_2
  go_wp2_with fail
  go_region_held2 (fun W => (∀ i, W.cell? ⟨w.heap.size + 1, i, none⟩ = (#[.int .i64 i0_p1, .slice a1_p1 n1_p1 c1_p1] : Array Value)[i]?) ∧ (∀ i, W.cell? ⟨w7.heap.size, i, none⟩ = (#[.int .i64 i0_x1, .slice a1_x1 n1_x1 c1_x1] : Array Value)[i]?))
    (first | exact ⟨hXA1_2.cell, hXx1_2.cell⟩ | exact ⟨hXA1_1.cell, hXx1_1.cell⟩ | exact ⟨hXA1.drew.cell, hXx1.drew.cell⟩)
    (first
      | (go_at_call 16; refine (U_toSum (ds := (sumC p1)) ?_).mono ?_; exact ⟨hc1, hs1, hz1, hr1.later hB.drew hB.drew.size⟩
         rintro e w11 ⟨us, rfl, hf1, hb1⟩
         have hXA0_1 := hXA0.drew.step hb1
         have hXA1_1 := hXA1.drew.step hb1
         have hXx0_1 := hXx0.drew.step hb1
         have hXx1_1 := hXx1.drew.step hb1
         have hB_1 := hB.drew.trans (hb1.mono hB.drew.size)
         have hox0_1 := hox0.drew.step hb1
         have hox1_1 := hox1.drew.step hb1
         have hs11z : w10.heap.size ≤ w11.heap.size := hb1.size
         obtain ⟨i0_ux1, a1_ux1, n1_ux1, c1_ux1, rfl⟩ := shape_Sum hc1 hf1.rep)
      | (go_at_call 18; refine (U_eqsSum hc1 ?_ ?_).mono ?_; exact hox1_1.repw; exact hf1.rep
         rintro e w12 ⟨rfl, hb2⟩
         have hXA0_2 := hXA0_1.step hb2
         have hXA1_2 := hXA1_1.step hb2
         have hXx0_2 := hXx0_1.step hb2
         have hXx1_2 := hXx1_1.step hb2
         have hB_2 := hB_1.trans (hb2.mono hB_1.size)
         have hox0_2 := hox0_1.step hb2
         have hox1_2 := hox1_1.step hb2
         have hs12z : w11.heap.size ≤ w12.heap.size := hb2.size))
  replace hB := hB_2
  replace hXA0 := hXA0_2
  replace hXcA0 := hXA0.cell
  replace hXA1 := hXA1_2
  replace hXcA1 := hXA1.cell
  replace hXx0 := hXx0_2
  replace hXcx0 := hXx0.cell
  replace hXx1 := hXx1_2
  replace hXcx1 := hXx1.cell
  replace hox0 := hox0_2
  replace hox1 := hox1_2
  clear hB_1 hB_2 hb1 hb2 hf1 hXA0_1 hXA0_2 hXA1_1 hXA1_2 hXx0_1 hXx0_2 hXx1_1 hXx1_2 hox0_1 hox0_2 hox1_1 hox1_2
  go_wp2
  go_ret
  exact ⟨rfl, hB⟩
end Go.Proofs.Ytaeeipojnfooeaa
