/-
  The walk of the law FnExactEvalSum.
-/
import Derived.Test.YtaeeipojnfooeaaSumE
import Derived.Test.YtaeeipojnfooeaaUSum
import Derived.Test.YtaeeipojnfooeaaUStr
import Derived.Test.YtaeeipojnfooeaaCon2
import Derived.Test.YtaeeipojnfooeaaUMark
import Derived.Deep.RegionHeld2
namespace Go.Proofs.Ytaeeipojnfooeaa
open Go.RowKit
set_option linter.unusedVariables false
theorem U_spec_EvalSum {w : World} {p0 : Sm} {vs0 : List Value} (g0 : GivL w [.int, .sl .item] (sumC p0) vs0) {p1 : List ByteArray} {v1 : Value} (g1 : Giv w .strs (strsD p1) v1) {p2 : List Int} {v2 : Value} (g2 : Giv w .ints (intsD p2) v2) : Calls Try.prog 30 #[.agg vs0.toArray, v1, v2] w fun e w' => e = .returned (.tuple #[.int .i64 (evV p0 p1 p2), .bool (evOk p0 p1 p2)]) ∧ Below w.heap.size w w' := by
  refine (con_ff (con_EvalS p0 p1 p2 (Nat.le_trans g0.2.2.1 (by omega)) (by have := g1.2.2.1; have := szD_strs p1; omega) (by have := g2.2.2.1; rw [szD_intsEq] at this; omega)) (rpd_cons (rpd_ag g0.2.2.2) (rpd_cons (rpd_one g1.2.2.2) (rpd_cons (rpd_one g2.2.2.2) (rpd_nil _))))).mono ?_
  rintro e w' ⟨v, u, rfl, hf, hg, hb⟩
  obtain rfl := fresh_bool hg
  obtain rfl := fresh_int hf
  exact ⟨rfl, hb⟩
theorem U_impl_EvalSum {w : World} {p0 : Sm} {vs0 : List Value} (g0 : GivL w [.int, .sl .item] (sumC p0) vs0) {p1 : List ByteArray} {v1 : Value} (g1 : Giv w .strs (strsD p1) v1) {p2 : List Int} {v2 : Value} (g2 : Giv w .ints (intsD p2) v2) : Calls Try.prog 32 #[.agg vs0.toArray, v1, v2] w fun e w' => e = .returned (.tuple #[.int .i64 (evV p0 p1 p2), .bool (evOk p0 p1 p2)]) ∧ Below w.heap.size w w' := by
  refine (con_ff (con_EvalI p0 p1 p2 (Nat.le_trans g0.2.2.1 (by omega)) (by have := g1.2.2.1; have := szD_strs p1; omega) (by have := g2.2.2.1; rw [szD_intsEq] at this; omega)) (rpd_cons (rpd_ag g0.2.2.2) (rpd_cons (rpd_one g1.2.2.2) (rpd_cons (rpd_one g2.2.2.2) (rpd_nil _))))).mono ?_
  rintro e w' ⟨v, u, rfl, hf, hg, hb⟩
  obtain rfl := fresh_bool hg
  obtain rfl := fresh_int hf
  exact ⟨rfl, hb⟩
set_option maxRecDepth 100000 in
set_option maxHeartbeats 8000000 in
theorem top_FnExactEvalSum (w : World) (cs0 : Array Value) (h0 : ArgS w [.int, .sl .item] cs0) (v1 : Value) (h1 : Arg w .strs v1) (v2 : Value) (h2 : Arg w .ints v2) : Calls Try.prog 7 #[.agg cs0, v1, v2] w fun e w' => e = .returned (.bool true) ∧ Below w.heap.size w w' := by
  obtain ⟨ds0, hc0, hr0, hs0⟩ := h0
  obtain ⟨p0, rfl⟩ := sum_of hc0
  obtain ⟨vs0, rfl⟩ : ∃ vs : List Value, cs0 = vs.toArray := ⟨cs0.toList, by simp⟩
  replace hr0 : RepVs w w.heap.size (sumC p0) vs0 := hr0
  obtain ⟨i0_p0, a1_p0, n1_p0, c1_p0, rfl⟩ := shape_Sum hc0 hr0
  obtain ⟨ds1, hc1, hr1, hs1⟩ := h1
  obtain ⟨p1, rfl⟩ := strs_of hc1
  obtain ⟨a_p1, n_p1, c_p1, rfl⟩ := rep_sl hc1 hr1
  obtain ⟨ds2, hc2, hr2, hs2⟩ := h2
  obtain ⟨p2, rfl⟩ := ints_of hc2
  obtain ⟨a_p2, n_p2, c_p2, rfl⟩ := rep_sl hc2 hr2
  obtain rfl : n_p2 = p2.length := by obtain ⟨_, _, e, _⟩ := hr2.ints; injection e
  have hB := Below.refl w.heap.size w
  have ha1 := (Below.refl w.heap.size w).alloc (Nat.le_refl _) (.cells #[.int .i64 i0_p0, .slice a1_p0 n1_p0 c1_p0] 24)
  have hsa1 : w.heap.size + 1 ≤ (w.alloc (.cells #[.int .i64 i0_p0, .slice a1_p0 n1_p0 c1_p0] 24)).heap.size := by simp
  replace hB := hB.trans (ha1.mono hB.size)
  have hXA0 := Blk.new w 24 #[.int .i64 i0_p0, .slice a1_p0 n1_p0 c1_p0]
  have hXcA0 := hXA0.cell
  by_cases hlen2 : 1048576 < p2.length
  case pos =>
    have hlen2' : (1048576 : Int) < (p2.length : Int) := by omega
    go_enter Try.func7, Try.ntmps7
    go_wp2
    go_ret
    exact ⟨rfl, hB⟩
  have hlen2' : ¬ (1048576 : Int) < (p2.length : Int) := by omega
  have hz2 : szD (intsD p2) ≤ 1048576 := by rw [szD_intsEq]; omega
  go_enter Try.func7, Try.ntmps7
  go_wp2_with fail
  refine (U_szSum hc0 hs0 (hr0.later hB hB.size) (by omega) (by omega)).mono ?_
  rintro e w1 ⟨rfl, hb⟩
  have hs1z := hb.size
  simp only [World.size_alloc] at hs1z
  replace hB := hB.trans (hb.mono hB.size)
  replace hXA0 := hXA0.step hb
  replace hXcA0 := hXA0.cell
  by_cases hfit0 : ((szL (sumC p0) : Nat) : Int) ≤ 1048576
  case neg =>
    have HE := Lib.hid (szR_out (1048576) (szL (sumC p0)) (by omega))
    rw [HE.out]
    go_wp2
    go_ret
    exact ⟨rfl, hB⟩
  have HE0 := Lib.hid (szR_in (1048576) (szL (sumC p0)) hfit0)
  have hnn0 : ¬ 1048576 - ((szL (sumC p0) : Nat) : Int) < 0 := by omega
  have hz0 : szL (sumC p0) ≤ 1048576 := by omega
  rw [HE0.out]
  clear hb
  go_wp2_with fail
  refine (U_szStringS hc1 hs1 (hr1.later hB hB.size) (by omega) (by omega)).mono ?_
  rintro e w2 ⟨rfl, hb⟩
  have hs2z := hb.size
  replace hB := hB.trans (hb.mono hB.size)
  replace hXA0 := hXA0.step hb
  replace hXcA0 := hXA0.cell
  by_cases hfit1 : ((szD (strsD p1) : Nat) : Int) ≤ 1048576 - ((szL (sumC p0) : Nat) : Int)
  case neg =>
    have HE := Lib.hid (szR_out (1048576 - ((szL (sumC p0) : Nat) : Int)) (szD (strsD p1)) (by omega))
    rw [HE.out]
    go_wp2
    go_ret
    exact ⟨rfl, hB⟩
  have HE1 := Lib.hid (szR_in (1048576 - ((szL (sumC p0) : Nat) : Int)) (szD (strsD p1)) hfit1)
  have hnn1 : ¬ 1048576 - ((szL (sumC p0) : Nat) : Int) - ((szD (strsD p1) : Nat) : Int) < 0 := by omega
  have hz1 : szD (strsD p1) ≤ 1048576 := by omega
  rw [HE1.out]
  clear hb
  go_wp2_with fail
  refine (U_toSum ⟨hc0, hs0, hz0, hr0.later hB hB.size⟩).mono ?_
  rintro e w3 ⟨us, rfl, hf, hb⟩
  have hs3z := hb.size
  replace hB := hB.trans (hb.mono hB.size)
  replace hXA0 := hXA0.step hb
  replace hXcA0 := hXA0.cell
  obtain ⟨i0_t0w0, a1_t0w0, n1_t0w0, c1_t0w0, rfl⟩ := shape_Sum hc0 hf.rep
  have hot0w0 := hf.ownR
  clear hf hb
  go_wp2_with fail
  refine (U_toStringS ⟨hc1, hs1, hz1, hr1.later hB hB.size⟩).mono ?_
  rintro e w4 ⟨a_t1w0, n_t1w0, c_t1w0, rfl, hf, hb⟩
  have hs4z := hb.size
  replace hB := hB.trans (hb.mono hB.size)
  replace hXA0 := hXA0.step hb
  replace hXcA0 := hXA0.cell
  replace hot0w0 := hot0w0.step hb
  have hot1w0 := hf.ownR
  clear hf hb
  go_wp2_with fail
  refine (U_toIntS ⟨hc2, hs2, hz2, hr2.later hB hB.size⟩).mono ?_
  rintro e w5 ⟨a_t2w0, n_t2w0, c_t2w0, rfl, hf, hb⟩
  have hs5z := hb.size
  replace hB := hB.trans (hb.mono hB.size)
  replace hXA0 := hXA0.step hb
  replace hXcA0 := hXA0.cell
  replace hot0w0 := hot0w0.step hb
  replace hot1w0 := hot1w0.step hb
  have hot2w0 := hf.ownR
  clear hf hb
  go_wp2_with fail
  refine (U_spec_EvalSum ⟨hc0, hs0, hz0, hot0w0.repw⟩ ⟨hc1, hs1, hz1, hot1w0.repw.first⟩ ⟨hc2, hs2, hz2, hot2w0.repw.first⟩).mono ?_
  rintro e w6 ⟨rfl, hb⟩
  have hs6z := hb.size
  replace hB := hB.trans (hb.mono hB.size)
  replace hXA0 := hXA0.step hb
  replace hXcA0 := hXA0.cell
  replace hot0w0 := hot0w0.step hb
  replace hot1w0 := hot1w0.step hb
  replace hot2w0 := hot2w0.step hb
  clear hb
  clear hot0w0
  clear hot1w0
  clear hot2w0
  go_wp2_with fail
  refine (U_toSum ⟨hc0, hs0, hz0, hr0.later hB hB.size⟩).mono ?_
  rintro e w7 ⟨us, rfl, hf, hb⟩
  have hs7z := hb.size
  replace hB := hB.trans (hb.mono hB.size)
  replace hXA0 := hXA0.step hb
  replace hXcA0 := hXA0.cell
  obtain ⟨i0_x0, a1_x0, n1_x0, c1_x0, rfl⟩ := shape_Sum hc0 hf.rep
  have hox0 := hf.ownR
  clear hf hb
  have ha2 := (Below.refl w7.heap.size w7).alloc (Nat.le_refl _) (.cells #[.int .i64 i0_x0, .slice a1_x0 n1_x0 c1_x0] 29)
  have hsa2 : w7.heap.size + 1 ≤ (w7.alloc (.cells #[.int .i64 i0_x0, .slice a1_x0 n1_x0 c1_x0] 29)).heap.size := by simp
  replace hB := hB.trans (ha2.mono hB.size)
  replace hXA0 := hXA0.step ha2
  replace hXcA0 := hXA0.cell
  replace hox0 := hox0.step ha2
  have hXx0 := Blk.new w7 29 #[.int .i64 i0_x0, .slice a1_x0 n1_x0 c1_x0]
  have hXcx0 := hXx0.cell
  go_wp2_with fail
  refine (U_toStringS ⟨hc1, hs1, hz1, hr1.later hB hB.size⟩).mono ?_
  rintro e w8 ⟨a_x1, n_x1, c_x1, rfl, hf, hb⟩
  have hs8z := hb.size
  simp only [World.size_alloc] at hs8z
  replace hB := hB.trans (hb.mono hB.size)
  replace hXA0 := hXA0.step hb
  replace hXcA0 := hXA0.cell
  replace hXx0 := hXx0.step hb
  replace hXcx0 := hXx0.cell
  replace hox0 := hox0.step hb
  have hox1 := hf.ownR
  have hlx1 : (w7.alloc (.cells #[.int .i64 i0_x0, .slice a1_x0 n1_x0 c1_x0] 29)).heap.size ≤ w8.heap.size := hb.size
  simp only [World.size_alloc] at hlx1 hox1
  clear hf hb
  go_wp2_with fail
  refine (U_toIntS ⟨hc2, hs2, hz2, hr2.later hB hB.size⟩).mono ?_
  rintro e w9 ⟨a_x2, n_x2, c_x2, rfl, hf, hb⟩
  have hs9z := hb.size
  replace hB := hB.trans (hb.mono hB.size)
  replace hXA0 := hXA0.step hb
  replace hXcA0 := hXA0.cell
  replace hXx0 := hXx0.step hb
  replace hXcx0 := hXx0.cell
  replace hox0 := hox0.step hb
  replace hox1 := hox1.step hb
  have hox2 := hf.ownR
  clear hf hb
  go_wp2_with fail
  refine (U_impl_EvalSum ⟨hc0, hs0, hz0, hox0.repw⟩ ⟨hc1, hs1, hz1, hox1.repw.first⟩ ⟨hc2, hs2, hz2, hox2.repw.first⟩).mono ?_
  rintro e w10 ⟨rfl, hb⟩
  have hs10z := hb.size
  replace hB := hB.trans (hb.mono hB.size)
  replace hXA0 := hXA0.step hb
  replace hXcA0 := hXA0.cell
  replace hXx0 := hXx0.step hb
  replace hXcx0 := hXx0.cell
  replace hox0 := hox0.step hb
  replace hox1 := hox1.step hb
  replace hox2 := hox2.step hb
  clear hb
  go_wp2_with fail
  go_region_held2 (fun W => (∀ i, W.cell? ⟨w.heap.size, i, none⟩ = (#[.int .i64 i0_p0, .slice a1_p0 n1_p0 c1_p0] : Array Value)[i]?) ∧ (∀ i, W.cell? ⟨w7.heap.size, i, none⟩ = (#[.int .i64 i0_x0, .slice a1_x0 n1_x0 c1_x0] : Array Value)[i]?))
    (first | exact ⟨hXA0_2.cell, hXx0_2.cell⟩ | exact ⟨hXA0_1.cell, hXx0_1.cell⟩ | exact ⟨hXA0.drew.cell, hXx0.drew.cell⟩)
    (first
      | (go_at_call 16; refine (U_toSum (ds := (sumC p0)) ?_).mono ?_; exact ⟨hc0, hs0, hz0, hr0.later hB.drew hB.drew.size⟩
         rintro e w11 ⟨us, rfl, hf1, hb1⟩
         have hXA0_1 := hXA0.drew.step hb1
         have hXx0_1 := hXx0.drew.step hb1
         have hB_1 := hB.drew.trans (hb1.mono hB.drew.size)
         have hox0_1 := hox0.drew.step hb1
         have hox1_1 := hox1.drew.step hb1
         have hox2_1 := hox2.drew.step hb1
         have hs11z : w10.heap.size ≤ w11.heap.size := hb1.size
         obtain ⟨i0_ux0, a1_ux0, n1_ux0, c1_ux0, rfl⟩ := shape_Sum hc0 hf1.rep)
      | (go_at_call 18; refine (U_eqsSum hc0 ?_ ?_).mono ?_; exact hox0_1.repw; exact hf1.rep
         rintro e w12 ⟨rfl, hb2⟩
         have hXA0_2 := hXA0_1.step hb2
         have hXx0_2 := hXx0_1.step hb2
         have hB_2 := hB_1.trans (hb2.mono hB_1.size)
         have hox0_2 := hox0_1.step hb2
         have hox1_2 := hox1_1.step hb2
         have hox2_2 := hox2_1.step hb2
         have hs12z : w11.heap.size ≤ w12.heap.size := hb2.size))
  replace hB := hB_2
  replace hXA0 := hXA0_2
  replace hXcA0 := hXA0.cell
  replace hXx0 := hXx0_2
  replace hXcx0 := hXx0.cell
  replace hox0 := hox0_2
  replace hox1 := hox1_2
  replace hox2 := hox2_2
  clear hB_1 hB_2 hb1 hb2 hf1 hXA0_1 hXA0_2 hXx0_1 hXx0_2 hox0_1 hox0_2 hox1_1 hox1_2 hox2_1 hox2_2
  go_wp2_with fail
  refine (U_toStringS ⟨hc1, hs1, hz1, hr1.later hB hB.size⟩).mono ?_
  rintro e w13 ⟨a_ux1, n_ux1, c_ux1, rfl, hf, hb⟩
  have hs13z := hb.size
  replace hB := hB.trans (hb.mono hB.size)
  replace hXA0 := hXA0.step hb
  replace hXcA0 := hXA0.cell
  replace hXx0 := hXx0.step hb
  replace hXcx0 := hXx0.cell
  replace hox0 := hox0.step hb
  replace hox1 := hox1.step hb
  replace hox2 := hox2.step hb
  have houx1 := hf.ownR
  clear hf hb
  go_wp2_with fail
  refine (U_eqsStringS hc1 hox1.repw.first houx1.repw.first).mono ?_
  rintro e w14 ⟨rfl, hb⟩
  have hs14z := hb.size
  replace hB := hB.trans (hb.mono hB.size)
  replace hXA0 := hXA0.step hb
  replace hXcA0 := hXA0.cell
  replace hXx0 := hXx0.step hb
  replace hXcx0 := hXx0.cell
  replace hox0 := hox0.step hb
  replace hox1 := hox1.step hb
  replace hox2 := hox2.step hb
  replace houx1 := houx1.step hb
  clear hb
  clear houx1
  go_wp2_with fail
  refine (U_toIntS ⟨hc2, hs2, hz2, hr2.later hB hB.size⟩).mono ?_
  rintro e w15 ⟨a_ux2, n_ux2, c_ux2, rfl, hf, hb⟩
  have hs15z := hb.size
  replace hB := hB.trans (hb.mono hB.size)
  replace hXA0 := hXA0.step hb
  replace hXcA0 := hXA0.cell
  replace hXx0 := hXx0.step hb
  replace hXcx0 := hXx0.cell
  replace hox0 := hox0.step hb
  replace hox1 := hox1.step hb
  replace hox2 := hox2.step hb
  have houx2 := hf.ownR
  clear hf hb
  go_wp2_with fail
  refine (U_eqsIntS hc2 hox2.repw.first houx2.repw.first).mono ?_
  rintro e w16 ⟨rfl, hb⟩
  have hs16z := hb.size
  replace hB := hB.trans (hb.mono hB.size)
  replace hXA0 := hXA0.step hb
  replace hXcA0 := hXA0.cell
  replace hXx0 := hXx0.step hb
  replace hXcx0 := hXx0.cell
  replace hox0 := hox0.step hb
  replace hox1 := hox1.step hb
  replace hox2 := hox2.step hb
  replace houx2 := houx2.step hb
  clear hb
  clear houx2
  go_wp2
  go_ret
  exact ⟨rfl, hB⟩
end Go.Proofs.Ytaeeipojnfooeaa
