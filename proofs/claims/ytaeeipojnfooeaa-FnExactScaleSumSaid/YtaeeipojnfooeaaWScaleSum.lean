/-
  The walk of the law FnExactScaleSum.
-/
import Derived.Test.YtaeeipojnfooeaaSumB
import Derived.Test.YtaeeipojnfooeaaUSum
import Derived.Test.YtaeeipojnfooeaaUMSum
import Derived.Test.YtaeeipojnfooeaaCon2
import Derived.Test.YtaeeipojnfooeaaUMark
import Derived.Deep.RegionHeld2
namespace Go.Proofs.Ytaeeipojnfooeaa
open Go.RowKit
set_option linter.unusedVariables false
theorem U_spec_ScaleSum {w : World} {p0 : Sm} {vs0 : List Value} (g0 : GivL w [.int, .sl .item] (sumC p0) vs0) (p1 : Int) (g1 : (Lit.int .i64 p1).wf = true) : Calls Try.prog 25 #[.agg vs0.toArray, .int .i64 p1] w fun e w' => ∃ us, e = .returned (.tuple #[.agg us.toArray, .bool (sumOk p0)]) ∧ FreshL w' w.heap.size (sumC (scR p0 p1)) us ∧ Below w.heap.size w w' := by
  refine (con_ao (con_ScaleS p0 p1 (Nat.le_trans g0.2.2.1 (by omega))) (rpd_cons (rpd_ag g0.2.2.2) (rpd_cons (rpd_int _) (rpd_nil _)))).mono ?_
  rintro e w' ⟨us, u, rfl, hf, hg, hb⟩
  obtain rfl := fresh_bool hg
  exact ⟨us, rfl, hf, hb⟩
theorem U_impl_ScaleSum {w : World} {p0 : Sm} {vs0 : List Value} (g0 : GivL w [.int, .sl .item] (sumC p0) vs0) (p1 : Int) (g1 : (Lit.int .i64 p1).wf = true) : Calls Try.prog 26 #[.agg vs0.toArray, .int .i64 p1] w fun e w' => ∃ us, e = .returned (.tuple #[.agg us.toArray, .bool (sumOk p0)]) ∧ FreshL w' w.heap.size (sumC (scR p0 p1)) us ∧ Below w.heap.size w w' := by
  refine (con_ao (con_ScaleI p0 p1 (Nat.le_trans g0.2.2.1 (by omega))) (rpd_cons (rpd_ag g0.2.2.2) (rpd_cons (rpd_int _) (rpd_nil _)))).mono ?_
  rintro e w' ⟨us, u, rfl, hf, hg, hb⟩
  obtain rfl := fresh_bool hg
  exact ⟨us, rfl, hf, hb⟩
set_option maxRecDepth 100000 in
set_option maxHeartbeats 8000000 in
theorem top_FnExactScaleSum (w : World) (cs0 : Array Value) (h0 : ArgS w [.int, .sl .item] cs0) (p1 : Int) (wf1 : (Lit.int .i64 p1).wf = true) : Calls Try.prog 6 #[.agg cs0, .int .i64 p1] w fun e w' => e = .returned (.bool true) ∧ Below w.heap.size w w' := by
  obtain ⟨ds0, hc0, hr0, hs0⟩ := h0
  obtain ⟨p0, rfl⟩ := sum_of hc0
  obtain ⟨vs0, rfl⟩ : ∃ vs : List Value, cs0 = vs.toArray := ⟨cs0.toList, by simp⟩
  replace hr0 : RepVs w w.heap.size (sumC p0) vs0 := hr0
  obtain ⟨i0_p0, a1_p0, n1_p0, c1_p0, rfl⟩ := shape_Sum hc0 hr0
  have hB := Below.refl w.heap.size w
  have ha1 := (Below.refl w.heap.size w).alloc (Nat.le_refl _) (.cells #[.int .i64 i0_p0, .slice a1_p0 n1_p0 c1_p0] 24)
  have hsa1 : w.heap.size + 1 ≤ (w.alloc (.cells #[.int .i64 i0_p0, .slice a1_p0 n1_p0 c1_p0] 24)).heap.size := by simp
  replace hB := hB.trans (ha1.mono hB.size)
  have hXA0 := Blk.new w 24 #[.int .i64 i0_p0, .slice a1_p0 n1_p0 c1_p0]
  have hXcA0 := hXA0.cell
  go_enter Try.func6, Try.ntmps6
  go_wp2_with fail
  refine (U_szSum hc0 hs0 (hr0.later hB hB.size) (by omega) (by omega)).mono ?_
  rintro e w1 ⟨rfl, hb⟩
  have hs1z := hb.size
  simp only [World.size_alloc] at hs1z
  replace hB := hB.trans (hb.mono hB.size)
  replace hXA0 := hXA0.step hb
  replace hXcA0 := hXA0.cell
  by_cases hfit0 : ((szL (sumC p0) : Nat) : Int) ≤ 1048576
  case neg =>
    have HE := Lib.hid (szR_out (1048576) (szL (sumC p0)) (by omega))
    rw [HE.out]
    go_wp2
    go_ret
    exact ⟨rfl, hB⟩
  have HE0 := Lib.hid (szR_in (1048576) (szL (sumC p0)) hfit0)
  have hnn0 : ¬ 1048576 - ((szL (sumC p0) : Nat) : Int) < 0 := by omega
  have hz0 : szL (sumC p0) ≤ 1048576 := by omega
  rw [HE0.out]
  clear hb
  go_wp2_with fail
  refine (U_toSum ⟨hc0, hs0, hz0, hr0.later hB hB.size⟩).mono ?_
  rintro e w2 ⟨us, rfl, hf, hb⟩
  have hs2z := hb.size
  replace hB := hB.trans (hb.mono hB.size)
  replace hXA0 := hXA0.step hb
  replace hXcA0 := hXA0.cell
  obtain ⟨i0_t0w0, a1_t0w0, n1_t0w0, c1_t0w0, rfl⟩ := shape_Sum hc0 hf.rep
  have hot0w0 := hf.ownR
  clear hf hb
  go_wp2_with fail
  refine (U_spec_ScaleSum ⟨hc0, hs0, hz0, hot0w0.repw⟩ p1 wf1).mono ?_
  rintro e w3 ⟨us_w0, rfl, hf_w0, hb⟩
  have hs3z := hb.size
  replace hB := hB.trans (hb.mono hB.size)
  replace hXA0 := hXA0.step hb
  replace hXcA0 := hXA0.cell
  replace hot0w0 := hot0w0.step hb
  have hcr_w0 := (scR_fit p0 p1).1
  obtain ⟨i0_w0, a1_w0, n1_w0, c1_w0, rfl⟩ := shape_Sum hcr_w0 hf_w0.rep
  have how0 := hf_w0.ownR
  clear hf_w0
  clear hb
  have ha2 := (Below.refl w3.heap.size w3).alloc (Nat.le_refl _) (.cells #[.int .i64 i0_w0, .slice a1_w0 n1_w0 c1_w0] 29)
  have hsa2 : w3.heap.size + 1 ≤ (w3.alloc (.cells #[.int .i64 i0_w0, .slice a1_w0 n1_w0 c1_w0] 29)).heap.size := by simp
  replace hB := hB.trans (ha2.mono hB.size)
  replace hXA0 := hXA0.step ha2
  replace hXcA0 := hXA0.cell
  replace hot0w0 := hot0w0.step ha2
  replace how0 := how0.step ha2
  have hXw0 := Blk.new w3 29 #[.int .i64 i0_w0, .slice a1_w0 n1_w0 c1_w0]
  have hXcw0 := hXw0.cell
  clear hot0w0
  go_wp2_with fail
  refine (U_toSum ⟨hc0, hs0, hz0, hr0.later hB hB.size⟩).mono ?_
  rintro e w4 ⟨us, rfl, hf, hb⟩
  have hs4z := hb.size
  simp only [World.size_alloc] at hs4z
  replace hB := hB.trans (hb.mono hB.size)
  replace hXA0 := hXA0.step hb
  replace hXcA0 := hXA0.cell
  replace hXw0 := hXw0.step hb
  replace hXcw0 := hXw0.cell
  replace how0 := how0.step hb
  obtain ⟨i0_x0, a1_x0, n1_x0, c1_x0, rfl⟩ := shape_Sum hc0 hf.rep
  have hox0 := hf.ownR
  have hlx0 : (w3.alloc (.cells #[.int .i64 i0_w0, .slice a1_w0 n1_w0 c1_w0] 29)).heap.size ≤ w4.heap.size := hb.size
  simp only [World.size_alloc] at hlx0 hox0
  clear hf hb
  have ha3 := (Below.refl w4.heap.size w4).alloc (Nat.le_refl _) (.cells #[.int .i64 i0_x0, .slice a1_x0 n1_x0 c1_x0] 29)
  have hsa3 : w4.heap.size + 1 ≤ (w4.alloc (.cells #[.int .i64 i0_x0, .slice a1_x0 n1_x0 c1_x0] 29)).heap.size := by simp
  replace hB := hB.trans (ha3.mono hB.size)
  replace hXA0 := hXA0.step ha3
  replace hXcA0 := hXA0.cell
  replace hXw0 := hXw0.step ha3
  replace hXcw0 := hXw0.cell
  replace how0 := how0.step ha3
  replace hox0 := hox0.step ha3
  have hXx0 := Blk.new w4 29 #[.int .i64 i0_x0, .slice a1_x0 n1_x0 c1_x0]
  have hXcx0 := hXx0.cell
  go_wp2_with fail
  refine (U_impl_ScaleSum ⟨hc0, hs0, hz0, hox0.repw⟩ p1 wf1).mono ?_
  rintro e w5 ⟨us_g0, rfl, hf_g0, hb⟩
  have hs5z := hb.size
  simp only [World.size_alloc] at hs5z
  replace hB := hB.trans (hb.mono hB.size)
  replace hXA0 := hXA0.step hb
  replace hXcA0 := hXA0.cell
  replace hXw0 := hXw0.step hb
  replace hXcw0 := hXw0.cell
  replace hXx0 := hXx0.step hb
  replace hXcx0 := hXx0.cell
  replace how0 := how0.step hb
  replace hox0 := hox0.step hb
  have hcr_g0 := (scR_fit p0 p1).1
  obtain ⟨i0_g0, a1_g0, n1_g0, c1_g0, rfl⟩ := shape_Sum hcr_g0 hf_g0.rep
  have hog0 := hf_g0.ownR
  simp only [World.size_alloc] at hog0
  clear hf_g0
  clear hb
  have ha4 := (Below.refl w5.heap.size w5).alloc (Nat.le_refl _) (.cells #[.int .i64 i0_g0, .slice a1_g0 n1_g0 c1_g0] 29)
  have hsa4 : w5.heap.size + 1 ≤ (w5.alloc (.cells #[.int .i64 i0_g0, .slice a1_g0 n1_g0 c1_g0] 29)).heap.size := by simp
  replace hB := hB.trans (ha4.mono hB.size)
  replace hXA0 := hXA0.step ha4
  replace hXcA0 := hXA0.cell
  replace hXw0 := hXw0.step ha4
  replace hXcw0 := hXw0.cell
  replace hXx0 := hXx0.step ha4
  replace hXcx0 := hXx0.cell
  replace how0 := how0.step ha4
  replace hox0 := hox0.step ha4
  replace hog0 := hog0.step ha4
  have hXg0 := Blk.new w5 29 #[.int .i64 i0_g0, .slice a1_g0 n1_g0 c1_g0]
  have hXcg0 := hXg0.cell
  go_wp2_with fail
  refine (U_eqsSum hcr_g0 hog0.repw how0.repw).mono ?_
  rintro e w6 ⟨rfl, hb⟩
  have hs6z := hb.size
  simp only [World.size_alloc] at hs6z
  replace hB := hB.trans (hb.mono hB.size)
  replace hXA0 := hXA0.step hb
  replace hXcA0 := hXA0.cell
  replace hXw0 := hXw0.step hb
  replace hXcw0 := hXw0.cell
  replace hXx0 := hXx0.step hb
  replace hXcx0 := hXx0.cell
  replace hXg0 := hXg0.step hb
  replace hXcg0 := hXg0.cell
  replace how0 := how0.step hb
  replace hox0 := hox0.step hb
  replace hog0 := hog0.step hb
  clear hb
  go_wp2_with fail
  go_region_held2 (fun W => (∀ i, W.cell? ⟨w.heap.size, i, none⟩ = (#[.int .i64 i0_p0, .slice a1_p0 n1_p0 c1_p0] : Array Value)[i]?) ∧ (∀ i, W.cell? ⟨w4.heap.size, i, none⟩ = (#[.int .i64 i0_x0, .slice a1_x0 n1_x0 c1_x0] : Array Value)[i]?))
    (first | exact ⟨hXA0_2.cell, hXx0_2.cell⟩ | exact ⟨hXA0_1.cell, hXx0_1.cell⟩ | exact ⟨hXA0.drew.cell, hXx0.drew.cell⟩)
    (first
      | (go_at_call 16; refine (U_toSum (ds := (sumC p0)) ?_).mono ?_; exact ⟨hc0, hs0, hz0, hr0.later hB.drew hB.drew.size⟩
         rintro e w7 ⟨us, rfl, hf1, hb1⟩
         have hXA0_1 := hXA0.drew.step hb1
         have hXw0_1 := hXw0.drew.step hb1
         have hXx0_1 := hXx0.drew.step hb1
         have hXg0_1 := hXg0.drew.step hb1
         have hB_1 := hB.drew.trans (hb1.mono hB.drew.size)
         have how0_1 := how0.drew.step hb1
         have hox0_1 := hox0.drew.step hb1
         have hog0_1 := hog0.drew.step hb1
         have hs7z : w6.heap.size ≤ w7.heap.size := hb1.size
         obtain ⟨i0_ux0, a1_ux0, n1_ux0, c1_ux0, rfl⟩ := shape_Sum hc0 hf1.rep)
      | (go_at_call 18; refine (U_eqsSum hc0 ?_ ?_).mono ?_; exact hox0_1.repw; exact hf1.rep
         rintro e w8 ⟨rfl, hb2⟩
         have hXA0_2 := hXA0_1.step hb2
         have hXw0_2 := hXw0_1.step hb2
         have hXx0_2 := hXx0_1.step hb2
         have hXg0_2 := hXg0_1.step hb2
         have hB_2 := hB_1.trans (hb2.mono hB_1.size)
         have how0_2 := how0_1.step hb2
         have hox0_2 := hox0_1.step hb2
         have hog0_2 := hog0_1.step hb2
         have hs8z : w7.heap.size ≤ w8.heap.size := hb2.size))
  replace hB := hB_2
  replace hXA0 := hXA0_2
  replace hXcA0 := hXA0.cell
  replace hXw0 := hXw0_2
  replace hXcw0 := hXw0.cell
  replace hXx0 := hXx0_2
  replace hXcx0 := hXx0.cell
  replace hXg0 := hXg0_2
  replace hXcg0 := hXg0.cell
  replace how0 := how0_2
  replace hox0 := hox0_2
  replace hog0 := hog0_2
  clear hB_1 hB_2 hb1 hb2 hf1 hXA0_1 hXA0_2 hXw0_1 hXw0_2 hXx0_1 hXx0_2 hXg0_1 hXg0_2 how0_1 how0_2 hox0_1 hox0_2 hog0_1 hog0_2
  have hbdx0 : cntS (sumC p0) ≤ 20971520 := by have := cntS_bd hc0; omega
  go_wp2_with fail
  refine (UR_markSum hc0 hox0 (by omega) (by omega)).mono ?_
  rintro e w9 ⟨rfl, ho', hg⟩
  have hs9z := hg.size
  replace hB := hB.trans (hg.below (by omega) hB.size)
  replace hXA0 := hg.blk (by omega) hXA0
  replace hXcA0 := hXA0.cell
  replace hXw0 := hg.blk (by omega) hXw0
  replace hXcw0 := hXw0.cell
  replace hXx0 := hg.blk (by omega) hXx0
  replace hXcx0 := hXx0.cell
  replace hXg0 := hg.blk (by omega) hXg0
  replace hXcg0 := hXg0.cell
  replace how0 := how0.chg hg (by omega)
  replace hog0 := hog0.chg hg (by omega)
  replace hox0 := ho'
  clear hg ho'
  have hnkx0 : ¬ (1 + ((cntS (sumC p0) : Nat) : Int)) < 0 := by omega
  clear hox0
  go_wp2_with fail
  refine (U_eqsSum hcr_g0 hog0.repw how0.repw).mono ?_
  rintro e w10 ⟨rfl, hb⟩
  have hs10z := hb.size
  replace hB := hB.trans (hb.mono hB.size)
  replace hXA0 := hXA0.step hb
  replace hXcA0 := hXA0.cell
  replace hXw0 := hXw0.step hb
  replace hXcw0 := hXw0.cell
  replace hXx0 := hXx0.step hb
  replace hXcx0 := hXx0.cell
  replace hXg0 := hXg0.step hb
  replace hXcg0 := hXg0.cell
  replace how0 := how0.step hb
  replace hog0 := hog0.step hb
  clear hb
  have hbdg0 : cntS (sumC (scR p0 p1)) ≤ 17592186044416 := (scR_fit p0 p1).2
  go_wp2_with fail
  refine (UR_markSum hcr_g0 hog0 (by omega) (by omega)).mono ?_
  rintro e w11 ⟨rfl, ho', hg⟩
  have hs11z := hg.size
  replace hB := hB.trans (hg.below (by omega) hB.size)
  replace hXA0 := hg.blk (by omega) hXA0
  replace hXcA0 := hXA0.cell
  replace hXw0 := hg.blk (by omega) hXw0
  replace hXcw0 := hXw0.cell
  replace hXx0 := hg.blk (by omega) hXx0
  replace hXcx0 := hXx0.cell
  replace hXg0 := hg.blk (by omega) hXg0
  replace hXcg0 := hXg0.cell
  replace how0 := how0.chg hg (by omega)
  replace hog0 := ho'
  clear hg ho'
  have hnmg0 : ¬ (1 + ((cntS (sumC (scR p0 p1)) : Nat) : Int)) < 0 := by omega
  go_wp2_with fail
  refine (U_heldSum hcr_g0 hog0.repw (by omega) (by omega)).mono ?_
  rintro e w12 ⟨rfl, hb⟩
  have hs12z := hb.size
  replace hB := hB.trans (hb.mono hB.size)
  replace hXA0 := hXA0.step hb
  replace hXcA0 := hXA0.cell
  replace hXw0 := hXw0.step hb
  replace hXcw0 := hXw0.cell
  replace hXx0 := hXx0.step hb
  replace hXcx0 := hXx0.cell
  replace hXg0 := hXg0.step hb
  replace hXcg0 := hXg0.cell
  replace how0 := how0.step hb
  replace hog0 := hog0.step hb
  clear hb
  go_wp2_with fail
  refine (U_toSum ⟨hc0, hs0, hz0, hr0.later hB hB.size⟩).mono ?_
  rintro e w13 ⟨us, rfl, hf, hb⟩
  have hs13z := hb.size
  replace hB := hB.trans (hb.mono hB.size)
  replace hXA0 := hXA0.step hb
  replace hXcA0 := hXA0.cell
  replace hXw0 := hXw0.step hb
  replace hXcw0 := hXw0.cell
  replace hXx0 := hXx0.step hb
  replace hXcx0 := hXx0.cell
  replace hXg0 := hXg0.step hb
  replace hXcg0 := hXg0.cell
  replace how0 := how0.step hb
  replace hog0 := hog0.step hb
  obtain ⟨i0_t0h0, a1_t0h0, n1_t0h0, c1_t0h0, rfl⟩ := shape_Sum hc0 hf.rep
  have hot0h0 := hf.ownR
  clear hf hb
  go_wp2_with fail
  refine (U_impl_ScaleSum ⟨hc0, hs0, hz0, hot0h0.repw⟩ p1 wf1).mono ?_
  rintro e w14 ⟨us_h0, rfl, hf_h0, hb⟩
  have hs14z := hb.size
  replace hB := hB.trans (hb.mono hB.size)
  replace hXA0 := hXA0.step hb
  replace hXcA0 := hXA0.cell
  replace hXw0 := hXw0.step hb
  replace hXcw0 := hXw0.cell
  replace hXx0 := hXx0.step hb
  replace hXcx0 := hXx0.cell
  replace hXg0 := hXg0.step hb
  replace hXcg0 := hXg0.cell
  replace how0 := how0.step hb
  replace hog0 := hog0.step hb
  replace hot0h0 := hot0h0.step hb
  have hcr_h0 := (scR_fit p0 p1).1
  obtain ⟨i0_h0, a1_h0, n1_h0, c1_h0, rfl⟩ := shape_Sum hcr_h0 hf_h0.rep
  have hoh0 := hf_h0.ownR
  clear hf_h0
  clear hb
  have ha5 := (Below.refl w14.heap.size w14).alloc (Nat.le_refl _) (.cells #[.int .i64 i0_h0, .slice a1_h0 n1_h0 c1_h0] 29)
  have hsa5 : w14.heap.size + 1 ≤ (w14.alloc (.cells #[.int .i64 i0_h0, .slice a1_h0 n1_h0 c1_h0] 29)).heap.size := by simp
  replace hB := hB.trans (ha5.mono hB.size)
  replace hXA0 := hXA0.step ha5
  replace hXcA0 := hXA0.cell
  replace hXw0 := hXw0.step ha5
  replace hXcw0 := hXw0.cell
  replace hXx0 := hXx0.step ha5
  replace hXcx0 := hXx0.cell
  replace hXg0 := hXg0.step ha5
  replace hXcg0 := hXg0.cell
  replace how0 := how0.step ha5
  replace hog0 := hog0.step ha5
  replace hot0h0 := hot0h0.step ha5
  replace hoh0 := hoh0.step ha5
  have hXh0 := Blk.new w14 29 #[.int .i64 i0_h0, .slice a1_h0 n1_h0 c1_h0]
  have hXch0 := hXh0.cell
  clear hot0h0
  go_wp2_with fail
  refine (U_eqsSum hcr_h0 hoh0.repw how0.repw).mono ?_
  rintro e w15 ⟨rfl, hb⟩
  have hs15z := hb.size
  simp only [World.size_alloc] at hs15z
  replace hB := hB.trans (hb.mono hB.size)
  replace hXA0 := hXA0.step hb
  replace hXcA0 := hXA0.cell
  replace hXw0 := hXw0.step hb
  replace hXcw0 := hXw0.cell
  replace hXx0 := hXx0.step hb
  replace hXcx0 := hXx0.cell
  replace hXg0 := hXg0.step hb
  replace hXcg0 := hXg0.cell
  replace hXh0 := hXh0.step hb
  replace hXch0 := hXh0.cell
  replace how0 := how0.step hb
  replace hog0 := hog0.step hb
  replace hoh0 := hoh0.step hb
  clear hb
  go_wp2_with fail
  refine (U_heldSum hcr_g0 hog0.repw (by omega) (by omega)).mono ?_
  rintro e w16 ⟨rfl, hb⟩
  have hs16z := hb.size
  replace hB := hB.trans (hb.mono hB.size)
  replace hXA0 := hXA0.step hb
  replace hXcA0 := hXA0.cell
  replace hXw0 := hXw0.step hb
  replace hXcw0 := hXw0.cell
  replace hXx0 := hXx0.step hb
  replace hXcx0 := hXx0.cell
  replace hXg0 := hXg0.step hb
  replace hXcg0 := hXg0.cell
  replace hXh0 := hXh0.step hb
  replace hXch0 := hXh0.cell
  replace how0 := how0.step hb
  replace hog0 := hog0.step hb
  replace hoh0 := hoh0.step hb
  clear hb
  go_wp2
  go_ret
  exact ⟨rfl, hB⟩
end Go.Proofs.Ytaeeipojnfooeaa
